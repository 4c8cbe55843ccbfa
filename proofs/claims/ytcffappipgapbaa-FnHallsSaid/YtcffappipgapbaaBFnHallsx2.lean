/- The texts that the row FnHalls rests on, put together: LHear, A60, LHear2, LHeariMoved, LHeariUnmoved, LDraw, LXFnHalls. No condition. -/
import Derived.Test.YtcffappipgapbaaBFnHallsx1
import Derived.Test.YtcffappipgapbaaBFnHallsx0
/- Halls: what the printed functions on hearers come to, for every list of at most 2^40 hearers. -/
set_option linter.unusedVariables false
set_option linter.unusedSimpArgs false
namespace Go.Proofs.Ytcffappipgapbaa.L
open Go Go.RowKit Go.Proofs.Ytcffappipgapbaa.A Go.Proofs.YtcffappipgapbaaW.PrintWords

theorem rdLHearer {l : List S74} {n : Nat} (h : n < l.length) : rd_T74 l (n : Int) = l[n] := by
  simp [rd_T74, h]
theorem rdHearer {l : List S72} {n : Nat} (h : n < l.length) : rd_T72 l (n : Int) = l[n] := by
  simp [rd_T72, h]
def cvHearer (x : S74) : S72 := ⟨x.f0, x.f1⟩
theorem toHearerS_l0 (l : List S74) (hl : l.length ≤ 1099511627776) : ∀ (d n : Nat) (xs : List S72), n + d = l.length → xs.length = l.length → xs.take n = (l.map cvHearer).take n → Ev (fun k => laws_toHearerS.l0 k l xs (n : Int)) (l.map cvHearer) := by
  intro d
  induction d with
  | zero =>
    intro n xs hd hx ht
    refine Ev.step (fun k => laws_toHearerS.l0.eq_2 ..) ?_
    refine Ev.neg (by omega) (Ev.some_ ?_)
    rw [List.take_of_length_le (by omega), List.take_of_length_le (by simp; omega)] at ht
    exact ht
  | succ d ih =>
    intro n xs hd hx ht
    refine Ev.step (fun k => laws_toHearerS.l0.eq_2 ..) ?_
    refine Ev.pos (by omega) (Ev.pos (by omega) ?_)
    simp only [laws_toHearer.f, Option.bind_some]
    refine Ev.pos (by omega) ?_
    simp only [w64s (show n < 4611686018427387904 by omega), rdLHearer (show n < l.length by omega), Int.toNat_natCast]
    refine ih (n + 1) _ (by omega) (by simp [hx]) ?_
    rw [List.take_succ_eq_append_getElem (by simp; omega), List.take_succ_eq_append_getElem (by simp; omega), List.take_set_of_le (by omega), ht]
    simp [cvHearer]
theorem toHearerS_ev (l : List S74) (hl : l.length ≤ 1099511627776) : Ev (fun k => laws_toHearerS.f k l) (l.map cvHearer) := by
  unfold laws_toHearerS.f
  refine Ev.pos (by omega) (Ev.pos (by simp; omega) ?_)
  exact toHearerS_l0 l hl l.length 0 _ (by omega) (by simp) (by simp)
theorem eqHearer_same (x : S72) : laws_eqHearer.f x.f0 x.f1 x.f0 x.f1 = some true := by simp [laws_eqHearer.f]
theorem eqHearerS_l0 (l : List S72) (hl : l.length ≤ 1099511627776) : ∀ (d n : Nat), n + d = l.length → Ev (fun k => laws_eqHearerS.l0 k l l (n : Int)) true := by
  intro d
  induction d with
  | zero =>
    intro n hd
    refine Ev.step (fun k => laws_eqHearerS.l0.eq_2 ..) ?_
    exact Ev.neg (by omega) (Ev.now _)
  | succ d ih =>
    intro n hd
    refine Ev.step (fun k => laws_eqHearerS.l0.eq_2 ..) ?_
    refine Ev.pos (by omega) (Ev.pos (by omega) (Ev.pos (by omega) ?_))
    simp only [w64s (show n < 4611686018427387904 by omega), rdHearer (show n < l.length by omega), eqHearer_same, Option.bind_some]
    exact Ev.pos trivial (ih (n + 1) (by omega))
theorem eqHearerS_ev (l : List S72) (hl : l.length ≤ 1099511627776) : Ev (fun k => laws_eqHearerS.f k l l) true := by
  unfold laws_eqHearerS.f
  exact Ev.pos rfl (eqHearerS_l0 l hl l.length 0 (by omega))
theorem szHearerS_eq (l : List S74) (left : Int) (h0 : 0 ≤ left) (h1 : left ≤ 1048576) (hl : l.length ≤ 9223372036854775807) : laws_szHearerS.f l left = some (if left - l.length < 0 then -1 else left - l.length) := by
  unfold laws_szHearerS.f
  rw [w64 (by omega) (by omega)]
  split <;> rfl

/-- Who of a hall. -/
def cnt (p : S72 → Bool) (l : List S72) : Int := (l.countP p : Nat)
theorem cnt_cons (p : S72 → Bool) (x : S72) (l : List S72) : cnt p (x :: l) = cnt p l + if p x = true then 1 else 0 := by
  unfold cnt
  rw [List.countP_cons]
  split <;> simp
theorem cnt_nil (p : S72 → Bool) : cnt p [] = 0 := rfl
theorem cnt_le (p : S72 → Bool) (l : List S72) : 0 ≤ cnt p l ∧ cnt p l ≤ l.length := by
  unfold cnt
  have := List.countP_le_length (p := p) (l := l)
  omega
def movedP (a b : Int) (h : S72) : Bool := decide (h.f0 = a ∧ h.f1 = b)
def sameP (h : S72) : Bool := decide (h.f0 = h.f1)
def befP (a : Int) (h : S72) : Bool := decide (h.f0 = a)
def aftP (a : Int) (h : S72) : Bool := decide (h.f1 = a)
def okH (h : S72) : Bool := inR h.f0 0 2 && inR h.f1 0 2

theorem sAfter_l0 (l : List S72) (a : Int) (hl : l.length ≤ 1099511627776) : ∀ (d n : Nat) (acc : Int), n + d = l.length → -4611686018427387904 + d ≤ acc → acc + d ≤ 4611686018427387904 → Ev (fun k => spec_l18After.l0 k l a acc (n : Int)) (acc + cnt (aftP a) (l.drop n)) := by
  intro d
  induction d with
  | zero =>
    intro n acc hd h0 h1
    refine Ev.step (fun k => spec_l18After.l0.eq_2 ..) ?_
    refine Ev.neg (by omega) (Ev.some_ ?_)
    rw [List.drop_eq_nil_of_le (by omega), cnt_nil]
    omega
  | succ d ih =>
    intro n acc hd h0 h1
    refine Ev.step (fun k => spec_l18After.l0.eq_2 ..) ?_
    refine Ev.pos (by omega) (Ev.pos (by omega) ?_)
    simp only [w64s (show n < 4611686018427387904 by omega), rdHearer (show n < l.length by omega), w64 (show -9223372036854775808 ≤ acc + 1 by omega) (show acc + 1 ≤ 9223372036854775807 by omega)]
    have h1 := fun acc h0 h1 => ih (n + 1) acc (by omega) h0 h1
    rw [List.drop_eq_getElem_cons (show n < l.length by omega)]
    generalize l.drop (n + 1) = u at h1 ⊢
    refine Ev.ite (fun h => Ev.cast (h1 (acc + 1) (by omega) (by omega)) ?_) (fun h => Ev.cast (h1 acc (by omega) (by omega)) ?_)
    · simp [cnt_cons, sameP, befP, aftP, h]; omega
    · simp [cnt_cons, sameP, befP, aftP, h]
theorem sAfter_ev (l : List S72) (a : Int) (hl : l.length ≤ 1099511627776) : Ev (fun k => spec_l18After.f k l a) (cnt (aftP a) l) := by
  unfold spec_l18After.f
  exact Ev.cast (sAfter_l0 l a hl l.length 0 0 (by omega) (by omega) (by omega)) (by simp)

theorem iAfter_l0 (l : List S72) (a : Int) (hl : l.length ≤ 1099511627776) : ∀ (d n : Nat) (acc : Int), n + d = l.length → -4611686018427387904 + d ≤ acc → acc + d ≤ 4611686018427387904 → Ev (fun k => impl_afterOf.l0 k a acc l (l.length : Int) (n : Int)) (acc + cnt (aftP a) (l.drop n)) := by
  intro d
  induction d with
  | zero =>
    intro n acc hd h0 h1
    refine Ev.step (fun k => impl_afterOf.l0.eq_2 ..) ?_
    refine Ev.neg (by omega) (Ev.some_ ?_)
    rw [List.drop_eq_nil_of_le (by omega), cnt_nil]
    omega
  | succ d ih =>
    intro n acc hd h0 h1
    refine Ev.step (fun k => impl_afterOf.l0.eq_2 ..) ?_
    refine Ev.pos (by omega) (Ev.pos (by omega) (Ev.pos (by omega) ?_))
    simp only [w64s (show n < 4611686018427387904 by omega), rdHearer (show n < l.length by omega), w64 (show -9223372036854775808 ≤ acc + 1 by omega) (show acc + 1 ≤ 9223372036854775807 by omega)]
    have h1 := fun acc h0 h1 => ih (n + 1) acc (by omega) h0 h1
    rw [List.drop_eq_getElem_cons (show n < l.length by omega)]
    generalize l.drop (n + 1) = u at h1 ⊢
    refine Ev.ite (fun h => Ev.cast (h1 (acc + 1) (by omega) (by omega)) ?_) (fun h => Ev.cast (h1 acc (by omega) (by omega)) ?_)
    · simp [cnt_cons, sameP, befP, aftP, h]; omega
    · simp [cnt_cons, sameP, befP, aftP, h]
theorem iAfter_ev (l : List S72) (a : Int) (hl : l.length ≤ 1099511627776) : Ev (fun k => impl_afterOf.f k l a) (cnt (aftP a) l) := by
  unfold impl_afterOf.f
  exact Ev.cast (iAfter_l0 l a hl l.length 0 0 (by omega) (by omega) (by omega)) (by simp)

theorem sGain_l0 (l : List S72) (a : Int) (hl : l.length ≤ 1099511627776) : ∀ (d n : Nat) (acc : Int), n + d = l.length → -4611686018427387904 + d ≤ acc → acc + d ≤ 4611686018427387904 → Ev (fun k => spec_Gain.l0 k l a acc (n : Int)) (acc - cnt (befP a) (l.drop n)) := by
  intro d
  induction d with
  | zero =>
    intro n acc hd h0 h1
    refine Ev.step (fun k => spec_Gain.l0.eq_2 ..) ?_
    refine Ev.neg (by omega) (Ev.some_ ?_)
    rw [List.drop_eq_nil_of_le (by omega), cnt_nil]
    omega
  | succ d ih =>
    intro n acc hd h0 h1
    refine Ev.step (fun k => spec_Gain.l0.eq_2 ..) ?_
    refine Ev.pos (by omega) (Ev.pos (by omega) ?_)
    simp only [w64s (show n < 4611686018427387904 by omega), rdHearer (show n < l.length by omega), w64 (show -9223372036854775808 ≤ acc - 1 by omega) (show acc - 1 ≤ 9223372036854775807 by omega)]
    have h1 := fun acc h0 h1 => ih (n + 1) acc (by omega) h0 h1
    rw [List.drop_eq_getElem_cons (show n < l.length by omega)]
    generalize l.drop (n + 1) = u at h1 ⊢
    refine Ev.ite (fun h => Ev.cast (h1 (acc - 1) (by omega) (by omega)) ?_) (fun h => Ev.cast (h1 acc (by omega) (by omega)) ?_)
    · simp [cnt_cons, sameP, befP, aftP, h]; omega
    · simp [cnt_cons, sameP, befP, aftP, h]

theorem iGain_l0 (l : List S72) (a : Int) (hl : l.length ≤ 1099511627776) : ∀ (d n : Nat) (acc : Int), n + d = l.length → -4611686018427387904 + d ≤ acc → acc + d ≤ 4611686018427387904 → Ev (fun k => impl_Gain.l0 k a acc l (l.length : Int) (n : Int)) (acc - cnt (befP a) (l.drop n)) := by
  intro d
  induction d with
  | zero =>
    intro n acc hd h0 h1
    refine Ev.step (fun k => impl_Gain.l0.eq_2 ..) ?_
    refine Ev.neg (by omega) (Ev.some_ ?_)
    rw [List.drop_eq_nil_of_le (by omega), cnt_nil]
    omega
  | succ d ih =>
    intro n acc hd h0 h1
    refine Ev.step (fun k => impl_Gain.l0.eq_2 ..) ?_
    refine Ev.pos (by omega) (Ev.pos (by omega) (Ev.pos (by omega) ?_))
    simp only [w64s (show n < 4611686018427387904 by omega), rdHearer (show n < l.length by omega), w64 (show -9223372036854775808 ≤ acc - 1 by omega) (show acc - 1 ≤ 9223372036854775807 by omega)]
    have h1 := fun acc h0 h1 => ih (n + 1) acc (by omega) h0 h1
    rw [List.drop_eq_getElem_cons (show n < l.length by omega)]
    generalize l.drop (n + 1) = u at h1 ⊢
    refine Ev.ite (fun h => Ev.cast (h1 (acc - 1) (by omega) (by omega)) ?_) (fun h => Ev.cast (h1 acc (by omega) (by omega)) ?_)
    · simp [cnt_cons, sameP, befP, aftP, h]; omega
    · simp [cnt_cons, sameP, befP, aftP, h]

def okHs (l : List S72) : Bool := l.all okH && decide ((l.length : Int) ≤ 100)
theorem sAreHearers_l0 (l : List S72) (hl : l.length ≤ 1099511627776) : ∀ (d n : Nat), n + d = l.length → Ev (fun k => spec_AreHearers.l0 k l (n : Int)) ((l.drop n).all okH && decide ((l.length : Int) ≤ 100)) := by
  intro d
  induction d with
  | zero =>
    intro n hd
    refine Ev.step (fun k => spec_AreHearers.l0.eq_2 ..) ?_
    refine Ev.neg (by omega) (Ev.some_ ?_)
    rw [List.drop_eq_nil_of_le (by omega)]
    simp
  | succ d ih =>
    intro n hd
    refine Ev.step (fun k => spec_AreHearers.l0.eq_2 ..) ?_
    refine Ev.pos (by omega) (Ev.pos (by omega) ?_)
    simp only [w64s (show n < 4611686018427387904 by omega), rdHearer (show n < l.length by omega), l1In_eq, Option.bind_some]
    have h1 := ih (n + 1) (by omega)
    rw [List.drop_eq_getElem_cons (show n < l.length by omega)]
    generalize l.drop (n + 1) = u at h1 ⊢
    refine Ev.ite (fun h => Ev.ite (fun h' => Ev.cast h1 ?_) (fun h' => Ev.some_ ?_)) (fun h => Ev.some_ ?_)
    · simp [okH, h, h']
    · simp [okH, h, h']
    · simp [okH, h]
theorem sAreHearers_ev (l : List S72) (hl : l.length ≤ 1099511627776) : Ev (fun k => spec_AreHearers.f k l) (okHs l) := by
  unfold spec_AreHearers.f
  exact Ev.cast (sAreHearers_l0 l hl l.length 0 (by omega)) (by simp [okHs])
theorem iAreHearers_l0 (l : List S72) (hl : l.length ≤ 1099511627776) : ∀ (d n : Nat), n + d = l.length → Ev (fun k => impl_AreHearers.l0 k l l (l.length : Int) (n : Int)) ((l.drop n).all okH && decide ((l.length : Int) ≤ 100)) := by
  intro d
  induction d with
  | zero =>
    intro n hd
    refine Ev.step (fun k => impl_AreHearers.l0.eq_2 ..) ?_
    refine Ev.neg (by omega) (Ev.some_ ?_)
    rw [List.drop_eq_nil_of_le (by omega)]
    simp
  | succ d ih =>
    intro n hd
    refine Ev.step (fun k => impl_AreHearers.l0.eq_2 ..) ?_
    refine Ev.pos (by omega) (Ev.pos (by omega) (Ev.pos (by omega) ?_))
    simp only [w64s (show n < 4611686018427387904 by omega), rdHearer (show n < l.length by omega), InRange_eq, Option.bind_some]
    have h1 := ih (n + 1) (by omega)
    rw [List.drop_eq_getElem_cons (show n < l.length by omega)]
    generalize l.drop (n + 1) = u at h1 ⊢
    refine Ev.ite (fun h => Ev.ite (fun h' => Ev.cast h1 ?_) (fun h' => Ev.some_ ?_)) (fun h => Ev.some_ ?_)
    · simp [okH, h, h']
    · simp [okH, h, h']
    · simp [okH, h]
theorem iAreHearers_ev (l : List S72) (hl : l.length ≤ 1099511627776) : Ev (fun k => impl_AreHearers.f k l) (okHs l) := by
  unfold impl_AreHearers.f
  exact Ev.cast (iAreHearers_l0 l hl l.length 0 (by omega)) (by simp [okHs])

def gain (l : List S72) (a : Int) : Int := cnt (aftP a) l - cnt (befP a) l
theorem sGain_ev (l : List S72) (a : Int) (hl : l.length ≤ 1099511627776) : Ev (fun k => spec_Gain.f k l a) (gain l a) := by
  unfold spec_Gain.f
  refine Ev.bind (sAfter_ev l a hl) ?_
  have h := cnt_le (aftP a) l
  exact Ev.cast (sGain_l0 l a hl l.length 0 _ (by omega) (by omega) (by omega)) (by simp [gain])
theorem iGain_ev (l : List S72) (a : Int) (hl : l.length ≤ 1099511627776) : Ev (fun k => impl_Gain.f k l a) (gain l a) := by
  unfold impl_Gain.f
  refine Ev.bind (iAfter_ev l a hl) ?_
  have h := cnt_le (aftP a) l
  exact Ev.cast (iGain_l0 l a hl l.length 0 _ (by omega) (by omega) (by omega)) (by simp [gain])

end Go.Proofs.Ytcffappipgapbaa.L

-- Printed for this claim by a program of the session's (the kit's print, with contracts of our own taken in). Lean checks it.
-- squeezed
namespace Go.Proofs.Ytcffappipgapbaa.A
open Go.RowKit Go.Proofs.YtcffappipgapbaaW.PrintWords Go.Proofs.YtcffappipgapbaaW.PrintLast Go.Proofs.YtcffappipgapbaaW.PrintMore
attribute [local go_sem] max2_int min2_int max_two min_two max_three min_three max_four min_four   -- for this text's walks alone
set_option linter.unusedVariables false
set_option linter.unusedSimpArgs false

/-! ### spec_HallWinner: function 40 -/
def spec_HallWinner.j0 : Nat → Int → Option (Int)
  | 0, _ => none
  | k + 1, x3 => if x3 > 0 then (some 1) else (if x3 < 0 then (some 2) else (some 0))
def spec_HallWinner.f (k : Nat) (l0 : List (S72)) : Option (Int) := (spec_AreHearers.f k l0).bind fun t364 => (if t364 = true then ((spec_Gain.f k l0 1).bind fun t365 => ((spec_Gain.f k l0 2).bind fun t366 => (if (wrap64 (t365 - t366)) = 0 then ((spec_l18After.f k l0 1).bind fun t367 => ((spec_l18After.f k l0 2).bind fun t368 => (spec_HallWinner.j0 k (wrap64 (t367 - t368))))) else (spec_HallWinner.j0 k (wrap64 (t365 - t366)))))) else (some 0))
theorem spec_HallWinner.mono_l : ∀ k, (∀ y0, LeO (spec_HallWinner.j0 k y0) (spec_HallWinner.j0 (k + 1) y0))
  | 0 => fun _ r h => by simp [spec_HallWinner.j0] at h
  | k + 1 => by
    have ih0 := spec_HallWinner.mono_l k
    · intro y0
      unfold spec_HallWinner.j0
      repeat' first
      | (with_reducible exact ih0 _)
      | (with_reducible exact spec_AreHearers.mono _ _)
      | (with_reducible exact spec_Gain.mono _ _ _)
      | (with_reducible exact spec_l18After.mono _ _ _)
      | (with_reducible exact LeO.refl _)
      | (with_reducible exact LeO.none _)
      | (with_reducible refine LeO.ite ?_ ?_)
      | (with_reducible refine LeO.bind ?_ (fun _ => ?_))
      | exact ih0 _
      | exact spec_AreHearers.mono _ _
      | exact spec_Gain.mono _ _ _
      | exact spec_l18After.mono _ _ _
      | exact LeO.none _
      | refine LeO.ite ?_ ?_
      | refine LeO.bind ?_ (fun _ => ?_)
theorem spec_HallWinner.mono : ∀ a0 k, LeO (spec_HallWinner.f k a0) (spec_HallWinner.f (k + 1) a0) := by
  intro a0 k
  have ih0 := spec_HallWinner.mono_l k
  unfold spec_HallWinner.f
  repeat' first
      | (with_reducible exact ih0 _)
      | (with_reducible exact spec_AreHearers.mono _ _)
      | (with_reducible exact spec_Gain.mono _ _ _)
      | (with_reducible exact spec_l18After.mono _ _ _)
      | (with_reducible exact LeO.refl _)
      | (with_reducible exact LeO.none _)
      | (with_reducible refine LeO.ite ?_ ?_)
      | (with_reducible refine LeO.bind ?_ (fun _ => ?_))
      | exact ih0 _
      | exact spec_AreHearers.mono _ _
      | exact spec_Gain.mono _ _ _
      | exact spec_l18After.mono _ _ _
      | exact LeO.none _
      | refine LeO.ite ?_ ?_
      | refine LeO.bind ?_ (fun _ => ?_)
set_option maxHeartbeats 8000000 in
set_option maxRecDepth 100000 in
theorem spec_HallWinner.calls (k : Nat) (A0 : Option Addr) (c0 : Nat) (l0 : List (S72)) (r : Int) (w : World) (hr0 : Kd.C k72 w A0 l0.length l0) (hc0 : l0.length ≤ c0) (h : spec_HallWinner.f k l0 = some r) :
  Calls Try.prog 40 #[.slice A0 l0.length c0] w fun e w' => e = .returned (.int .i64 r) ∧ Drawn0 w w' := by
 have HR0 := Aside0.mk hr0
 have HC0 := Aside0.mk hc0
 clear hr0 hc0
 have H : ((spec_AreHearers.f k l0).bind fun t364 => (if t364 = true then ((spec_Gain.f k l0 1).bind fun t365 => ((spec_Gain.f k l0 2).bind fun t366 => (if (wrap64 (t365 - t366)) = 0 then ((spec_l18After.f k l0 1).bind fun t367 => ((spec_l18After.f k l0 2).bind fun t368 => (spec_HallWinner.j0 k (wrap64 (t367 - t368))))) else (spec_HallWinner.j0 k (wrap64 (t365 - t366)))))) else (some 0))) = some r := h
 clear h
 replace H := Option.bind_eq_some_iff.mp H
 obtain ⟨t364, A20, H⟩ := H
 replace H : (if t364 = true then ((spec_Gain.f k l0 1).bind fun t365 => ((spec_Gain.f k l0 2).bind fun t366 => (if (wrap64 (t365 - t366)) = 0 then ((spec_l18After.f k l0 1).bind fun t367 => ((spec_l18After.f k l0 2).bind fun t368 => (spec_HallWinner.j0 k (wrap64 (t367 - t368))))) else (spec_HallWinner.j0 k (wrap64 (t365 - t366)))))) else (some 0)) = some r := H
 have A2 := Aside0.mk A20
 clear A20
 by_cases c3 : t364 = true
 ·
  subst c3
  have H1 : ((spec_Gain.f k l0 1).bind fun t365 => ((spec_Gain.f k l0 2).bind fun t366 => (if (wrap64 (t365 - t366)) = 0 then ((spec_l18After.f k l0 1).bind fun t367 => ((spec_l18After.f k l0 2).bind fun t368 => (spec_HallWinner.j0 k (wrap64 (t367 - t368))))) else (spec_HallWinner.j0 k (wrap64 (t365 - t366)))))) = some r := by rw [if_pos rfl] at H; exact H
  clear H
  have H := H1
  clear H1
  replace H := Option.bind_eq_some_iff.mp H
  obtain ⟨t365, A40, H⟩ := H
  replace H : ((spec_Gain.f k l0 2).bind fun t366 => (if (wrap64 (t365 - t366)) = 0 then ((spec_l18After.f k l0 1).bind fun t367 => ((spec_l18After.f k l0 2).bind fun t368 => (spec_HallWinner.j0 k (wrap64 (t367 - t368))))) else (spec_HallWinner.j0 k (wrap64 (t365 - t366))))) = some r := H
  have A4 := Aside0.mk A40
  clear A40
  replace H := Option.bind_eq_some_iff.mp H
  obtain ⟨t366, A50, H⟩ := H
  replace H : (if (wrap64 (t365 - t366)) = 0 then ((spec_l18After.f k l0 1).bind fun t367 => ((spec_l18After.f k l0 2).bind fun t368 => (spec_HallWinner.j0 k (wrap64 (t367 - t368))))) else (spec_HallWinner.j0 k (wrap64 (t365 - t366)))) = some r := H
  have A5 := Aside0.mk A50
  clear A50
  have HC6 := Aside0.mk H
  clear H
  go_enter Try.func40, Try.ntmps40
  go_upto_if 13 with (first | ((with_reducible refine gate_callee (f := 54) rfl ?_); refine goesL_ (some 5) rfl rfl Try.func54 (by kernel_rfl) rfl #[.slice A0 l0.length c0] rfl (by (try simp only [List.map_toArray, List.map_cons, List.map_nil]); first | done | rfl | (simp only [List.length_drop, List.length_take]; rfl)) ?_; (with_reducible refine (spec_AreHearers.calls k _ _ l0 true _ ?side1 ?side2 A2.out).mono ?_); (case side1 => repeat (first | exact HR0.out | (with_reducible refine Kd.C_alloc ?_ _) | (with_reducible refine Kd.C_drewN ?_ _) | (with_reducible refine Kd.C_drew ?_))); (case side2 => exact HC0.out); rintro e w' ⟨rfl, ⟨nd, rfl⟩⟩; refine ⟨_, rfl, ?_⟩) | ((with_reducible refine gate_callee (f := 77) rfl ?_); refine goesL_ (some 8) rfl rfl Try.func77 (by kernel_rfl) rfl #[.slice A0 l0.length c0, .int .i64 1] rfl (by (try simp only [List.map_toArray, List.map_cons, List.map_nil]); first | done | rfl | (simp only [List.length_drop, List.length_take]; rfl)) ?_; (with_reducible refine (spec_Gain.calls k _ _ l0 1 t365 _ ?side1 ?side2 A4.out).mono ?_); (case side1 => repeat (first | exact HR0.out | (with_reducible refine Kd.C_alloc ?_ _) | (with_reducible refine Kd.C_drewN ?_ _) | (with_reducible refine Kd.C_drew ?_))); (case side2 => exact HC0.out); rintro e w' ⟨rfl, ⟨nd, rfl⟩⟩; refine ⟨_, rfl, ?_⟩) | ((with_reducible refine gate_callee (f := 77) rfl ?_); refine goesL_ (some 10) rfl rfl Try.func77 (by kernel_rfl) rfl #[.slice A0 l0.length c0, .int .i64 2] rfl (by (try simp only [List.map_toArray, List.map_cons, List.map_nil]); first | done | rfl | (simp only [List.length_drop, List.length_take]; rfl)) ?_; (with_reducible refine (spec_Gain.calls k _ _ l0 2 t366 _ ?side1 ?side2 A5.out).mono ?_); (case side1 => repeat (first | exact HR0.out | (with_reducible refine Kd.C_alloc ?_ _) | (with_reducible refine Kd.C_drewN ?_ _) | (with_reducible refine Kd.C_drew ?_))); (case side2 => exact HC0.out); rintro e w' ⟨rfl, ⟨nd, rfl⟩⟩; refine ⟨_, rfl, ?_⟩))
  (try simp only [Act.put, List.setIfInBounds_toArray, List.set_cons_zero, List.set_cons_succ])
  go_cut [3] (fun v3 wc => ∃ (kq : Nat) (x3_5 : Int), v3 = .int .i64 x3_5 ∧ Aside0 (spec_HallWinner.j0 kq x3_5 = some r) ∧ Aside0 (kq ≤ k) ∧ Drawn0 w wc)
  case first =>
   have H := HC6.out
   clear HC6
   by_cases c7 : (wrap64 (t365 - t366)) = 0
   ·
    rw [if_pos c7] at H
    have c7b0 : ((wrap64 (t365 - t366)) == 0) = true := beq_iff_eq.mpr c7
    have c7b1 : ((wrap64 (t365 - t366)) != 0) = false := bne_eq_false_iff_eq.mpr c7
    clear c7
    (first | rw [c7b0] | (simp only [i64_w, i32_w]; rw [c7b0]) | skip)
    replace H := Option.bind_eq_some_iff.mp H
    obtain ⟨t367, A80, H⟩ := H
    replace H : ((spec_l18After.f k l0 2).bind fun t368 => (spec_HallWinner.j0 k (wrap64 (t367 - t368)))) = some r := H
    have A8 := Aside0.mk A80
    clear A80
    replace H := Option.bind_eq_some_iff.mp H
    obtain ⟨t368, A90, H⟩ := H
    replace H : (spec_HallWinner.j0 k (wrap64 (t367 - t368))) = some r := H
    have A9 := Aside0.mk A90
    clear A90
    have H' := Aside0.mk H
    clear H
    go_wp2_with (first | ((with_reducible refine gate_callee (f := 78) rfl ?_); refine goesL_ (some 15) rfl rfl Try.func78 (by kernel_rfl) rfl #[.slice A0 l0.length c0, .int .i64 1] rfl (by (try simp only [List.map_toArray, List.map_cons, List.map_nil]); first | done | rfl | (simp only [List.length_drop, List.length_take]; rfl)) ?_; (with_reducible refine (spec_l18After.calls k _ _ l0 1 t367 _ ?side1 ?side2 A8.out).mono ?_); (case side1 => repeat (first | exact HR0.out | (with_reducible refine Kd.C_alloc ?_ _) | (with_reducible refine Kd.C_drewN ?_ _) | (with_reducible refine Kd.C_drew ?_))); (case side2 => exact HC0.out); rintro e w' ⟨rfl, ⟨nd, rfl⟩⟩; refine ⟨_, rfl, ?_⟩) | ((with_reducible refine gate_callee (f := 78) rfl ?_); refine goesL_ (some 17) rfl rfl Try.func78 (by kernel_rfl) rfl #[.slice A0 l0.length c0, .int .i64 2] rfl (by (try simp only [List.map_toArray, List.map_cons, List.map_nil]); first | done | rfl | (simp only [List.length_drop, List.length_take]; rfl)) ?_; (with_reducible refine (spec_l18After.calls k _ _ l0 2 t368 _ ?side1 ?side2 A9.out).mono ?_); (case side1 => repeat (first | exact HR0.out | (with_reducible refine Kd.C_alloc ?_ _) | (with_reducible refine Kd.C_drewN ?_ _) | (with_reducible refine Kd.C_drew ?_))); (case side2 => exact HC0.out); rintro e w' ⟨rfl, ⟨nd, rfl⟩⟩; refine ⟨_, rfl, ?_⟩))
    go_meet
    case rel => exact ⟨_, (wrap64 (t367 - t368)), (by first | rfl | (simp; done) | (simp [*]; done)), H', ⟨by first | omega | exact Nat.le_refl _⟩, by repeat (first | exact Drawn0.refl _ | apply Drawn0.step)⟩
   ·
    rw [if_neg c7] at H
    have c7b0 : ((wrap64 (t365 - t366)) == 0) = false := beq_eq_false_iff_ne.mpr c7
    have c7b1 : ((wrap64 (t365 - t366)) != 0) = true := bne_iff_ne.mpr c7
    (first | rw [c7b0] | (simp only [i64_w, i32_w]; rw [c7b0]) | skip)
    have H' := Aside0.mk H
    clear H
    go_wp2
    go_meet
    case rel => exact ⟨_, (wrap64 (t365 - t366)), (by first | rfl | (simp; done) | (simp [*]; done)), H', ⟨by first | omega | exact Nat.le_refl _⟩, by repeat (first | exact Drawn0.refl _ | apply Drawn0.step)⟩
  case rest =>
   clear HC6
   try clear p2
   try clear c3
   try clear c4
   try clear c5
   try clear p6
   try clear c7
   try clear c7b0
   try clear c7b1
   obtain ⟨kq, x3_5, rfl, HA, HJ5, ⟨mc5, rfl⟩⟩ := hcut
   cases kq with
   | zero => exact absurd HA.out (by simp [spec_HallWinner.j0])
   | succ kj5 =>
    have H := HA.out
    clear HA
    simp only [spec_HallWinner.j0] at H
    by_cases c10 : x3_5 > 0
    ·
     rw [if_pos c10] at H
     have c10b0 : decide (0 < x3_5) = true := decide_eq_true c10
     clear c10
     obtain rfl := Option.some.inj H
     go_wp2
     go_ret
     exact ⟨by first | rfl | (simp; done) | (simp [*]; done), by repeat (first | exact Drawn0.refl _ | apply Drawn0.step)⟩
    ·
     rw [if_neg c10] at H
     have c10b0 : decide (0 < x3_5) = false := decide_eq_false c10
     clear c10
     by_cases c11 : x3_5 < 0
     ·
      rw [if_pos c11] at H
      have c11b0 : decide (x3_5 < 0) = true := decide_eq_true c11
      clear c11
      obtain rfl := Option.some.inj H
      go_wp2
      go_ret
      exact ⟨by first | rfl | (simp; done) | (simp [*]; done), by repeat (first | exact Drawn0.refl _ | apply Drawn0.step)⟩
     ·
      rw [if_neg c11] at H
      have c11b0 : decide (x3_5 < 0) = false := decide_eq_false c11
      clear c11
      obtain rfl := Option.some.inj H
      go_wp2
      go_ret
      exact ⟨by first | rfl | (simp; done) | (simp [*]; done), by repeat (first | exact Drawn0.refl _ | apply Drawn0.step)⟩
 ·
  replace c3 := Bool.eq_false_iff.mpr c3
  subst c3
  have H1 : (some 0) = some r := by rw [if_neg (show ¬ (false = true) by decide)] at H; exact H
  clear H
  have H := H1
  clear H1
  obtain rfl := Option.some.inj H
  go_enter Try.func40, Try.ntmps40
  go_wp2_with (first | ((with_reducible refine gate_callee (f := 54) rfl ?_); refine goesL_ (some 5) rfl rfl Try.func54 (by kernel_rfl) rfl #[.slice A0 l0.length c0] rfl (by (try simp only [List.map_toArray, List.map_cons, List.map_nil]); first | done | rfl | (simp only [List.length_drop, List.length_take]; rfl)) ?_; (with_reducible refine (spec_AreHearers.calls k _ _ l0 false _ ?side1 ?side2 A2.out).mono ?_); (case side1 => repeat (first | exact HR0.out | (with_reducible refine Kd.C_alloc ?_ _) | (with_reducible refine Kd.C_drewN ?_ _) | (with_reducible refine Kd.C_drew ?_))); (case side2 => exact HC0.out); rintro e w' ⟨rfl, ⟨nd, rfl⟩⟩; refine ⟨_, rfl, ?_⟩))
  go_ret
  exact ⟨by first | rfl | (simp; done) | (simp [*]; done), by repeat (first | exact Drawn0.refl _ | apply Drawn0.step)⟩

end Go.Proofs.Ytcffappipgapbaa.A

/- Halls: the winner: what the printed functions come to, for every list of at most 2^40 hearers. -/
set_option linter.unusedVariables false
set_option linter.unusedSimpArgs false
namespace Go.Proofs.Ytcffappipgapbaa.L
open Go Go.RowKit Go.Proofs.Ytcffappipgapbaa.A Go.Proofs.YtcffappipgapbaaW.PrintWords

def hallW (l : List S72) : Int := if okHs l = true then
  (if gain l 1 - gain l 2 > 0 then 1 else if gain l 1 - gain l 2 < 0 then 2 else
    if cnt (aftP 1) l - cnt (aftP 2) l > 0 then 1 else if cnt (aftP 1) l - cnt (aftP 2) l < 0 then 2 else 0) else 0
theorem gain_le (l : List S72) (a : Int) : -l.length ≤ gain l a ∧ gain l a ≤ l.length := by
  have h1 := cnt_le (aftP a) l
  have h2 := cnt_le (befP a) l
  unfold gain
  omega
theorem sHallWinner_ev (l : List S72) (hl : l.length ≤ 1099511627776) : Ev (fun k => spec_HallWinner.f k l) (hallW l) := by
  unfold spec_HallWinner.f hallW
  refine Ev.bind (sAreHearers_ev l hl) (Ev.ite (fun ho => ?_) (fun ho => Ev.some_ ?_))
  · rw [if_pos ho]
    have g1 := gain_le l 1
    have g2 := gain_le l 2
    have c1 := cnt_le (aftP 1) l
    have c2 := cnt_le (aftP 2) l
    have j0 : ∀ z : Int, Ev (fun k => spec_HallWinner.j0 k z) (if z > 0 then 1 else if z < 0 then 2 else 0) := by
      intro z
      refine Ev.step (fun k => spec_HallWinner.j0.eq_2 ..) (Ev.ite (fun h => Ev.some_ ?_) (fun h => Ev.ite (fun h2 => Ev.some_ ?_) (fun h2 => Ev.some_ ?_)))
      · rw [if_pos h]
      · rw [if_neg h, if_pos h2]
      · rw [if_neg h, if_neg h2]
    refine Ev.bind (sGain_ev l 1 hl) (Ev.bind (sGain_ev l 2 hl) ?_)
    rw [w64 (by omega) (by omega)]
    refine Ev.ite (fun h => Ev.bind (sAfter_ev l 1 hl) (Ev.bind (sAfter_ev l 2 hl) ?_)) (fun h => ?_)
    · rw [w64 (by omega) (by omega)]
      refine Ev.cast (j0 _) ?_
      rw [if_neg (show ¬ gain l 1 - gain l 2 > 0 by omega), if_neg (show ¬ gain l 1 - gain l 2 < 0 by omega)]
    · refine Ev.cast (j0 _) ?_
      by_cases h1 : gain l 1 - gain l 2 > 0
      · rw [if_pos h1, if_pos h1]
      · rw [if_neg h1, if_neg h1, if_pos (by omega), if_pos (by omega)]
  · rw [if_neg ho]
theorem iHallWinner_ev (l : List S72) (hl : l.length ≤ 1099511627776) : Ev (fun k => impl_HallWinner.f k l) (hallW l) := by
  unfold impl_HallWinner.f hallW
  refine Ev.bind (iAreHearers_ev l hl) (Ev.ite (fun ho => ?_) (fun ho => Ev.some_ ?_))
  · rw [if_pos ho]
    have g1 := gain_le l 1
    have g2 := gain_le l 2
    have c1 := cnt_le (aftP 1) l
    have c2 := cnt_le (aftP 2) l
    have j0 : ∀ (x y : Int) (t : Bool), Ev (fun k => impl_HallWinner.j0 k x y t) (if t = true then 1 else if x < 0 then 2 else if y < 0 then 2 else 0) := by
      intro x y t
      refine Ev.step (fun k => impl_HallWinner.j0.eq_2 ..) (Ev.ite (fun h => Ev.some_ ?_) (fun h => Ev.ite (fun h2 => Ev.some_ ?_) (fun h2 => Ev.ite (fun h3 => Ev.some_ ?_) (fun h3 => Ev.some_ ?_))))
      · rw [if_pos h]
      · rw [if_neg h, if_pos h2]
      · rw [if_neg h, if_neg h2, if_pos h3]
      · rw [if_neg h, if_neg h2, if_neg h3]
    refine Ev.bind (iGain_ev l 1 hl) (Ev.bind (iGain_ev l 2 hl) (Ev.bind (iAfter_ev l 1 hl) (Ev.bind (iAfter_ev l 2 hl) ?_)))
    simp only [w64 (show -9223372036854775808 ≤ gain l 1 - gain l 2 by omega) (by omega), w64 (show -9223372036854775808 ≤ cnt (aftP 1) l - cnt (aftP 2) l by omega) (by omega)]
    refine Ev.ite (fun h => Ev.cast (j0 _ _ _) ?_) (fun h => Ev.ite (fun h2 => Ev.cast (j0 _ _ _) ?_) (fun h2 => Ev.cast (j0 _ _ _) ?_))
    · rw [if_pos rfl, if_pos h]
    · rw [if_neg h]
      simp only [h2, decide_eq_true_eq, gt_iff_lt, Int.lt_irrefl, if_false]
    · rw [if_neg (by simp), if_pos (show gain l 1 - gain l 2 < 0 by omega), if_neg h, if_pos (show gain l 1 - gain l 2 < 0 by omega)]
  · rw [if_neg ho]
end Go.Proofs.Ytcffappipgapbaa.L

/- Halls: impl_Moved: what the printed functions come to, for every list of at most 2^40 hearers. -/
set_option linter.unusedVariables false
set_option linter.unusedSimpArgs false
namespace Go.Proofs.Ytcffappipgapbaa.L
open Go Go.RowKit Go.Proofs.Ytcffappipgapbaa.A Go.Proofs.YtcffappipgapbaaW.PrintWords

theorem iMoved_l0 (l : List S72) (a b : Int) (hl : l.length ≤ 1099511627776) : ∀ (d n : Nat) (acc : Int), n + d = l.length → -4611686018427387904 + d ≤ acc → acc + d ≤ 4611686018427387904 → Ev (fun k => impl_Moved.l0 k a b acc l (l.length : Int) (n : Int)) (acc + cnt (movedP a b) (l.drop n)) := by
  intro d
  induction d with
  | zero =>
    intro n acc hd h0 h1
    refine Ev.step (fun k => impl_Moved.l0.eq_2 ..) ?_
    refine Ev.neg (by omega) (Ev.some_ ?_)
    rw [List.drop_eq_nil_of_le (by omega), cnt_nil]
    omega
  | succ d ih =>
    intro n acc hd h0 h1
    refine Ev.step (fun k => impl_Moved.l0.eq_2 ..) ?_
    refine Ev.pos (by omega) (Ev.pos (by omega) (Ev.pos (by omega) ?_))
    simp only [w64s (show n < 4611686018427387904 by omega), rdHearer (show n < l.length by omega), w64 (show -9223372036854775808 ≤ acc + 1 by omega) (show acc + 1 ≤ 9223372036854775807 by omega)]
    have h1 := fun acc h0 h1 => ih (n + 1) acc (by omega) h0 h1
    rw [List.drop_eq_getElem_cons (show n < l.length by omega)]
    generalize l.drop (n + 1) = u at h1 ⊢
    refine Ev.ite (fun h0 => Ev.ite (fun h => Ev.cast (h1 (acc + 1) (by omega) (by omega)) ?_) (fun h => Ev.cast (h1 acc (by omega) (by omega)) ?_)) (fun h => Ev.cast (h1 acc (by omega) (by omega)) ?_)
    · simp [cnt_cons, movedP, h0, h]; omega
    · simp [cnt_cons, movedP, h0, h]
    · simp [cnt_cons, movedP, h]
theorem iMoved_ev (l : List S72) (a b : Int) (hl : l.length ≤ 1099511627776) : Ev (fun k => impl_Moved.f k l a b) (cnt (movedP a b) l) := by
  unfold impl_Moved.f
  exact Ev.cast (iMoved_l0 l a b hl l.length 0 0 (by omega) (by omega) (by omega)) (by simp)
end Go.Proofs.Ytcffappipgapbaa.L

/- Halls: impl_Unmoved: what the printed functions come to, for every list of at most 2^40 hearers. -/
set_option linter.unusedVariables false
set_option linter.unusedSimpArgs false
namespace Go.Proofs.Ytcffappipgapbaa.L
open Go Go.RowKit Go.Proofs.Ytcffappipgapbaa.A Go.Proofs.YtcffappipgapbaaW.PrintWords

theorem iUnmoved_l0 (l : List S72)  (hl : l.length ≤ 1099511627776) : ∀ (d n : Nat) (acc : Int), n + d = l.length → -4611686018427387904 + d ≤ acc → acc + d ≤ 4611686018427387904 → Ev (fun k => impl_Unmoved.l0 k acc l (l.length : Int) (n : Int)) (acc + cnt (sameP) (l.drop n)) := by
  intro d
  induction d with
  | zero =>
    intro n acc hd h0 h1
    refine Ev.step (fun k => impl_Unmoved.l0.eq_2 ..) ?_
    refine Ev.neg (by omega) (Ev.some_ ?_)
    rw [List.drop_eq_nil_of_le (by omega), cnt_nil]
    omega
  | succ d ih =>
    intro n acc hd h0 h1
    refine Ev.step (fun k => impl_Unmoved.l0.eq_2 ..) ?_
    refine Ev.pos (by omega) (Ev.pos (by omega) (Ev.pos (by omega) ?_))
    simp only [w64s (show n < 4611686018427387904 by omega), rdHearer (show n < l.length by omega), w64 (show -9223372036854775808 ≤ acc + 1 by omega) (show acc + 1 ≤ 9223372036854775807 by omega)]
    have h1 := fun acc h0 h1 => ih (n + 1) acc (by omega) h0 h1
    rw [List.drop_eq_getElem_cons (show n < l.length by omega)]
    generalize l.drop (n + 1) = u at h1 ⊢
    refine Ev.ite (fun h => Ev.cast (h1 (acc + 1) (by omega) (by omega)) ?_) (fun h => Ev.cast (h1 acc (by omega) (by omega)) ?_)
    · simp [cnt_cons, sameP, befP, aftP, h]; omega
    · simp [cnt_cons, sameP, befP, aftP, h]
theorem iUnmoved_ev (l : List S72)  (hl : l.length ≤ 1099511627776) : Ev (fun k => impl_Unmoved.f k l) (cnt (sameP) l) := by
  unfold impl_Unmoved.f
  exact Ev.cast (iUnmoved_l0 l hl l.length 0 0 (by omega) (by omega) (by omega)) (by simp)
end Go.Proofs.Ytcffappipgapbaa.L

/- Draws: what the printed readers of draws come to: a number below the bound, the place still inside the code. Every code of at most 2^40 bytes. -/
set_option linter.unusedVariables false
set_option linter.unusedSimpArgs false
namespace Go.Proofs.Ytcffappipgapbaa.L
open Go Go.RowKit Go.Proofs.Ytcffappipgapbaa.A Go.Proofs.YtcffappipgapbaaW.PrintWords

theorem bits255 (x : Int) : 0 ≤ Go.bits .and .i64 x 255 ∧ Go.bits .and .i64 x 255 ≤ 255 := by
  have h : ((BitVec.ofInt 64 x) &&& (BitVec.ofInt 64 255)).toNat ≤ 255 := by
    rw [BitVec.toNat_and]
    exact Nat.le_trans Nat.and_le_right (by decide)
  show 0 ≤ IntKind.i64.wrap (((BitVec.ofInt 64 x) &&& (BitVec.ofInt 64 255)).toNat : Int) ∧ IntKind.i64.wrap (((BitVec.ofInt 64 x) &&& (BitVec.ofInt 64 255)).toNat : Int) ≤ 255
  generalize ((BitVec.ofInt 64 x) &&& (BitVec.ofInt 64 255)).toNat = t at h ⊢
  rw [IntKind.wrap_i64]
  omega
/-- The place of a reader is inside its code. -/
def At (b : List Int) (i : Int) : Prop := b.length ≤ 1099511627776 ∧ 0 ≤ i ∧ i ≤ b.length
theorem Byte_eq (b : List Int) (i h : Int) (ha : At b i) : ∃ r i' h', spec_l1Byte.f b i h = some (r, i', h') ∧ 0 ≤ r ∧ r ≤ 255 ∧ At b i' := by
  unfold spec_l1Byte.f
  obtain ⟨hl, h0, h1⟩ := ha
  by_cases hlt : i < (b.length : Int)
  · rw [if_pos hlt, if_pos h0, w64 (x := i + 1) (by omega) (by omega)]
    refine ⟨_, _, _, rfl, (bits255 _).1, (bits255 _).2, hl, by omega, by omega⟩
  · rw [if_neg hlt]
    exact ⟨_, _, _, rfl, (bits255 _).1, (bits255 _).2, hl, h0, h1⟩
theorem Below_eq (b : List Int) (i h n : Int) (ha : At b i) : ∃ r i' h', spec_l1Below.f b i h n = some (r, i', h') ∧ 0 ≤ r ∧ (0 < n → r < n) ∧ (n ≤ 0 → r = 0) ∧ At b i' := by
  unfold spec_l1Below.f
  by_cases h0 : n ≤ 0
  · rw [if_pos h0]
    exact ⟨_, _, _, rfl, by omega, by omega, fun _ => rfl, ha⟩
  · rw [if_neg h0]
    by_cases h1 : n ≤ 256
    · rw [if_pos h1]
      obtain ⟨r, i1, h2, e, hr0, hr1, ha1⟩ := Byte_eq b i h ha
      rw [e]
      simp only [Option.bind_some]
      rw [if_neg (by omega)]
      refine ⟨_, _, _, rfl, ?_, fun _ => ?_, fun hn => absurd hn h0, ha1⟩
      · exact Int.tmod_nonneg _ hr0
      · exact Int.tmod_lt_of_pos _ (by omega)
    · rw [if_neg h1]
      obtain ⟨r, i1, h2, e, hr0, hr1, ha1⟩ := Byte_eq b i h ha
      rw [e]
      simp only [Option.bind_some]
      obtain ⟨r3, i3, h3, e3, hr30, hr31, ha3⟩ := Byte_eq b i1 h2 ha1
      rw [e3]
      simp only [Option.bind_some]
      obtain ⟨r4, i4, h4, e4, hr40, hr41, ha4⟩ := Byte_eq b i3 h3 ha3
      rw [e4]
      simp only [Option.bind_some]
      rw [if_neg (by omega)]
      refine ⟨_, _, _, rfl, ?_, fun _ => ?_, fun hn => absurd hn h0, ha4⟩
      · refine Int.tmod_nonneg _ ?_
        rw [w64 (x := r * 65536) (by omega) (by omega), w64 (x := r3 * 256) (by omega) (by omega), w64 (x := r * 65536 + r3 * 256) (by omega) (by omega), w64 (by omega) (by omega)]
        omega
      · exact Int.tmod_lt_of_pos _ (by omega)
theorem Once_eq (b : List Int) (i h n : Int) (ha : At b i) : ∃ r i' h', spec_l1Once.f b i h n = some (r, i', h') ∧ At b i' := by
  unfold spec_l1Once.f
  obtain ⟨r, i1, h2, e, _, _, _, ha1⟩ := Below_eq b i h n ha
  rw [e]
  exact ⟨_, _, _, rfl, ha1⟩
theorem DInt_eq (b : List Int) (i h : Int) (l : List Int) (hl : 0 < l.length) (ha : At b i) : ∃ r i' h', spec_l1Int.f b i h l = some (r, i', h') ∧ r ∈ l ∧ At b i' := by
  unfold spec_l1Int.f
  obtain ⟨r, i1, h2, e, h0, h1, _, ha1⟩ := Below_eq b i h l.length ha
  rw [e]
  simp only [Option.bind_some]
  rw [if_pos h0, if_pos (h1 (by omega))]
  refine ⟨_, _, _, rfl, ?_, ha1⟩
  have hr := h1 (by omega)
  obtain ⟨m, rfl⟩ : ∃ m : Nat, r = m := ⟨r.toNat, by omega⟩
  rw [rd_at (show m < l.length by omega)]
  exact List.getElem_mem _
theorem New_l0 (b : List Int) (hl : b.length ≤ 1099511627776) : ∀ (d n : Nat) (h : Int), n + d = b.length → ∃ h', Ev (fun k => spec_l1New.l0 k b h (n : Int)) (b, 0, h') := by
  intro d
  induction d with
  | zero =>
    intro n h hd
    exact ⟨_, Ev.step (fun k => spec_l1New.l0.eq_2 ..) (Ev.neg (by omega) (Ev.now _))⟩
  | succ d ih =>
    intro n h hd
    by_cases h4 : (n : Int) < 4000
    · obtain ⟨h', e⟩ := ih (n + 1) (Go.bits .and .i64 (wrap64 ((wrap64 ((wrap64 (h * 137)) + (wrap64 (rd b n)))) + 11)) 1073741823) (by omega)
      refine ⟨h', Ev.step (fun k => spec_l1New.l0.eq_2 ..) (Ev.pos (by omega) (Ev.pos h4 (Ev.pos (by omega) ?_)))⟩
      simp only [w64s (show n < 4611686018427387904 by omega)]
      exact e
    · exact ⟨_, Ev.step (fun k => spec_l1New.l0.eq_2 ..) (Ev.pos (by omega) (Ev.neg h4 (Ev.now _)))⟩
theorem New_ev (b : List Int) (hl : b.length ≤ 1099511627776) : ∃ h, Ev (fun k => spec_l1New.f k b) (b, 0, h) := by
  unfold spec_l1New.f
  exact New_l0 b hl b.length 0 _ (by omega)
theorem big_eq (b : List Int) : laws_big.f b = some (decide ((b.length : Int) > 1048576)) := rfl
end Go.Proofs.Ytcffappipgapbaa.L

/- FnHalls: the plain statement: nobody comes or goes by being moved, for every code. No condition. -/
set_option linter.unusedVariables false
set_option linter.unusedSimpArgs false
namespace Go.Proofs.Ytcffappipgapbaa.L
open Go Go.RowKit Go.Proofs.Ytcffappipgapbaa.A Go.Proofs.YtcffappipgapbaaW.PrintWords

theorem l18Any_l0 (b : List Int) : ∀ (d : Nat) (xs : List S72) (i h : Int), At b i → xs.length + d ≤ 1000 → ∃ l i' h', Ev (fun k => spec_l18Any.l0 k xs (d : Int) b i h) (l, i', h') ∧ l.length ≤ 1000 := by
  intro d
  induction d with
  | zero =>
    intro xs i h ha hx
    by_cases hp : (xs.length : Int) > 0
    · obtain ⟨r, i1, h1, e1, ha1⟩ := Once_eq b i h 9 ha
      cases r with
      | true =>
        obtain ⟨r2, i2, h2, e2, _, ha2⟩ := DInt_eq b i1 h1 [-1, 3] (by simp) ha1
        refine ⟨_, _, _, Ev.step (fun k => spec_l18Any.l0.eq_2 ..) (Ev.neg (by omega) (Ev.pos hp (Ev.bnd e1 (Ev.pos rfl (Ev.bnd e2 (Ev.pos (by omega) (Ev.now _))))))), by simp; omega⟩
      | false =>
        exact ⟨_, _, _, Ev.step (fun k => spec_l18Any.l0.eq_2 ..) (Ev.neg (by omega) (Ev.pos hp (Ev.bnd e1 (Ev.neg (by simp) (Ev.now _))))), by omega⟩
    · exact ⟨_, _, _, Ev.step (fun k => spec_l18Any.l0.eq_2 ..) (Ev.neg (by omega) (Ev.neg hp (Ev.now _))), by omega⟩
  | succ d ih =>
    intro xs i h ha hx
    obtain ⟨r1, i1, h1, e1, _, _, _, ha1⟩ := Below_eq b i h 3 ha
    obtain ⟨r2, i2, h2, e2, _, _, _, ha2⟩ := Below_eq b i1 h1 3 ha1
    obtain ⟨l, i3, h3, e3, hl⟩ := ih (xs ++ [⟨r1, r2⟩]) i2 h2 ha2 (by simp; omega)
    refine ⟨l, i3, h3, Ev.step (fun k => spec_l18Any.l0.eq_2 ..) (Ev.pos (by omega) (Ev.bnd e1 (Ev.bnd e2 (Ev.pos (by omega) ?_)))), hl⟩
    simp only [show wrap64 (((d + 1 : Nat) : Int) - 1) = (d : Int) by rw [w64p (by omega)]]
    exact e3
theorem DrawHall_ev (b : List Int) (hb : b.length ≤ 1099511627776) : ∃ l, Ev (fun k => spec_DrawHallWinner.f k b) l ∧ l.length ≤ 1000 := by
  obtain ⟨h, e⟩ := New_ev b hb
  have ha : At b 0 := ⟨hb, by omega, by omega⟩
  obtain ⟨r, i1, h1, e1, hr0, hr1, _, ha1⟩ := Below_eq b 0 h 12 ha
  obtain ⟨m, rfl⟩ : ∃ m : Nat, r = m := ⟨r.toNat, by omega⟩
  have := hr1 (by omega)
  obtain ⟨l, i2, h2, e2, hl⟩ := l18Any_l0 b m [] i1 h1 ha1 (by simp; omega)
  refine ⟨l, ?_, hl⟩
  unfold spec_DrawHallWinner.f spec_DrawAreHearers.f spec_l18Any.f
  exact Ev.bind (Ev.bind e (Ev.bind (Ev.bnd e1 e2) (Ev.now _))) (Ev.now _)
/-- Who is ok is counted once in nine, and in three. -/
theorem cnt9 : ∀ (l : List S72), l.all okH = true →
    cnt (movedP 0 0) l + cnt (movedP 0 1) l + cnt (movedP 0 2) l + cnt (movedP 1 0) l + cnt (movedP 1 1) l + cnt (movedP 1 2) l + cnt (movedP 2 0) l + cnt (movedP 2 1) l + cnt (movedP 2 2) l = l.length
    ∧ gain l 0 + gain l 1 + gain l 2 = 0 ∧ cnt (movedP 0 0) l + cnt (movedP 1 1) l + cnt (movedP 2 2) l = cnt sameP l
  | [], _ => by simp [cnt_nil, gain]
  | x :: l, h => by
    simp only [List.all_cons, Bool.and_eq_true, okH, inR_iff] at h
    obtain ⟨⟨ha, hb⟩, hl⟩ := h
    obtain ⟨h1, h2, h3⟩ := cnt9 l (by simpa [okH, inR_iff] using hl)
    obtain ⟨a, b⟩ := x
    simp only at ha hb
    simp only [gain] at h2
    simp only [gain, cnt_cons, movedP, sameP, aftP, befP, decide_eq_true_eq, List.length_cons]
    have ca : a = 0 ∨ a = 1 ∨ a = 2 := by omega
    have cb : b = 0 ∨ b = 1 ∨ b = 2 := by omega
    rcases ca with rfl | rfl | rfl <;> rcases cb with rfl | rfl | rfl <;> simp <;> omega
theorem FnHalls_pure (l0 : List Int) (b0 : l0.length ≤ 9223372036854775807) : ∃ k, laws_FnHalls.f k l0 = some true := by
  refine Ev.rounds (g := fun k => laws_FnHalls.f k l0) ?_
  unfold laws_FnHalls.f
  simp only [big_eq, Option.bind_some]
  refine Ev.ite (fun _ => Ev.now _) (fun hs => ?_)
  have hb : l0.length ≤ 1099511627776 := by
    have : ¬ (l0.length : Int) > 1048576 := by simpa using hs
    omega
  obtain ⟨l, hl, hn⟩ := DrawHall_ev l0 hb
  have hL : l.length ≤ 1099511627776 := by omega
  have hw := iHallWinner_ev l hL
  have hw0 : 0 ≤ hallW l ∧ hallW l ≤ 2 := by
    unfold hallW
    split
    · split
      · omega
      · split
        · omega
        · split
          · omega
          · split <;> omega
    · omega
  refine Ev.bind hl (Ev.bind hw (Ev.bind (iAreHearers_ev l hL) (Ev.bind (sAreHearers_ev l hL) (Ev.neg (by simp) (Ev.bind (iAreHearers_ev l hL) (Ev.ite (fun ho => ?_) (fun ho => ?_)))))))
  · have hall : l.all okH = true := by
      simp only [okHs, Bool.and_eq_true] at ho
      exact ho.1
    obtain ⟨h9, h3, hu⟩ := cnt9 l hall
    have M := fun a b => iMoved_ev l a b hL
    have G := fun a => iGain_ev l a hL
    have bM := fun a b => cnt_le (movedP a b) l
    have bG := fun a => gain_le l a
    have b00 := bM 0 0
    have b01 := bM 0 1
    have b02 := bM 0 2
    have b10 := bM 1 0
    have b11 := bM 1 1
    have b12 := bM 1 2
    have b20 := bM 2 0
    have b21 := bM 2 1
    have b22 := bM 2 2
    have g0 := bG 0
    have g1 := bG 1
    have g2 := bG 2
    have row : ∀ (x acc : Int) (R : Bool), -4611686018427387904 ≤ acc → acc ≤ 4611686018427387904 → 0 ≤ cnt (movedP x 0) l ∧ cnt (movedP x 0) l ≤ l.length → 0 ≤ cnt (movedP x 1) l ∧ cnt (movedP x 1) l ≤ l.length → 0 ≤ cnt (movedP x 2) l ∧ cnt (movedP x 2) l ≤ l.length →
        Ev (fun k => laws_FnHalls.l0 k l (hallW l) (acc + cnt (movedP x 0) l + cnt (movedP x 1) l + cnt (movedP x 2) l) (wrap64 (x + 1))) R → Ev (fun k => laws_FnHalls.l1 k l (hallW l) acc x 0) R := by
      intro x acc R ha0 ha1 m0 m1 m2 hR
      refine Ev.step (fun k => laws_FnHalls.l1.eq_2 ..) (Ev.pos (by omega) (Ev.bind (M x 0) ?_))
      rw [w64 (x := acc + cnt (movedP x 0) l) (by omega) (by omega), show wrap64 ((0 : Int) + 1) = 1 by unfold wrap64; omega]
      refine Ev.step (fun k => laws_FnHalls.l1.eq_2 ..) (Ev.pos (by omega) (Ev.bind (M x 1) ?_))
      rw [w64 (x := acc + cnt (movedP x 0) l + cnt (movedP x 1) l) (by omega) (by omega), show wrap64 ((1 : Int) + 1) = 2 by unfold wrap64; omega]
      refine Ev.step (fun k => laws_FnHalls.l1.eq_2 ..) (Ev.pos (by omega) (Ev.bind (M x 2) ?_))
      rw [w64 (x := acc + cnt (movedP x 0) l + cnt (movedP x 1) l + cnt (movedP x 2) l) (by omega) (by omega), show wrap64 ((2 : Int) + 1) = 3 by unfold wrap64; omega]
      exact Ev.step (fun k => laws_FnHalls.l1.eq_2 ..) (Ev.neg (by omega) hR)
    refine Ev.step (fun k => laws_FnHalls.l0.eq_2 ..) (Ev.pos (by omega) (row 0 0 true (by omega) (by omega) b00 b01 b02 ?_))
    rw [show wrap64 ((0 : Int) + 1) = 1 by unfold wrap64; omega]
    refine Ev.step (fun k => laws_FnHalls.l0.eq_2 ..) (Ev.pos (by omega) (row 1 _ true (by omega) (by omega) b10 b11 b12 ?_))
    rw [show wrap64 ((1 : Int) + 1) = 2 by unfold wrap64; omega]
    refine Ev.step (fun k => laws_FnHalls.l0.eq_2 ..) (Ev.pos (by omega) (row 2 _ true (by omega) (by omega) b20 b21 b22 ?_))
    rw [show wrap64 ((2 : Int) + 1) = 3 by unfold wrap64; omega]
    refine Ev.step (fun k => laws_FnHalls.l0.eq_2 ..) (Ev.neg (by omega) (Ev.pos (by omega) ?_))
    refine Ev.bind (G 0) (Ev.bind (G 1) (Ev.bind (G 2) ?_))
    rw [w64 (x := gain l 0 + gain l 1) (by omega) (by omega), w64 (x := gain l 0 + gain l 1 + gain l 2) (by omega) (by omega)]
    refine Ev.pos h3 (Ev.bind (M 0 0) (Ev.bind (M 1 1) (Ev.bind (M 2 2) (Ev.bind (iUnmoved_ev l hL) ?_))))
    rw [w64 (x := cnt (movedP 0 0) l + cnt (movedP 1 1) l) (by omega) (by omega), w64 (x := cnt (movedP 0 0) l + cnt (movedP 1 1) l + cnt (movedP 2 2) l) (by omega) (by omega)]
    refine Ev.pos hu (Ev.bind (G 1) (Ev.bind (G 2) ?_))
    have hW : (gain l 1 > gain l 2 → hallW l = 1) ∧ (gain l 2 > gain l 1 → hallW l = 2) := by
      unfold hallW
      rw [if_pos ho]
      constructor
      · intro h
        rw [if_pos (by omega)]
      · intro h
        rw [if_neg (by omega), if_pos (by omega)]
    have hfin : some (decide (hallW l ≤ 2)) = some true := by simp [hw0.2]
    refine Ev.ite (fun h => Ev.pos (hW.1 h) (Ev.bind (G 2) (Ev.bind (G 1) (Ev.neg (by omega) (Ev.pos hw0.1 (Ev.some_ (by simp [hw0.2]))))))) (fun h => Ev.bind (G 2) (Ev.bind (G 1) (Ev.ite (fun h2 => Ev.pos (hW.2 h2) (Ev.pos hw0.1 (Ev.some_ (by simp [hw0.2])))) (fun h2 => Ev.pos hw0.1 (Ev.some_ (by simp [hw0.2]))))))
  · exact Ev.pos hw0.1 (Ev.some_ (by simp [hw0.2]))
end Go.Proofs.Ytcffappipgapbaa.L
