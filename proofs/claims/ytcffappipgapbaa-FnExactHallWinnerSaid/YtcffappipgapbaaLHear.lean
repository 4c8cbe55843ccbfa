/- Halls: what the printed functions on hearers come to, for every list of at most 2^40 hearers. -/
import Derived.Test.YtcffappipgapbaaLRngS
import Derived.Test.YtcffappipgapbaaLRngI
import Derived.Test.YtcffappipgapbaaA62
import Derived.Test.YtcffappipgapbaaA68
import Derived.Test.YtcffappipgapbaaA56
import Derived.Test.YtcffappipgapbaaA57
import Derived.Test.YtcffappipgapbaaA63
import Derived.Test.YtcffappipgapbaaA59
import Derived.Test.YtcffappipgapbaaA65
import Derived.Test.YtcffappipgapbaaA58
import Derived.Test.YtcffappipgapbaaA64
set_option linter.unusedVariables false
set_option linter.unusedSimpArgs false
namespace Go.Proofs.Ytcffappipgapbaa.L
open Go Go.RowKit Go.Proofs.Ytcffappipgapbaa.A Go.Proofs.YtcffappipgapbaaW.PrintWords

theorem rdLHearer {l : List S74} {n : Nat} (h : n < l.length) : rd_T74 l (n : Int) = l[n] := by
  simp [rd_T74, h]
theorem rdHearer {l : List S72} {n : Nat} (h : n < l.length) : rd_T72 l (n : Int) = l[n] := by
  simp [rd_T72, h]
def cvHearer (x : S74) : S72 := ⟨x.f0, x.f1⟩
theorem toHearerS_l0 (l : List S74) (hl : l.length ≤ 1099511627776) : ∀ (d n : Nat) (xs : List S72), n + d = l.length → xs.length = l.length → xs.take n = (l.map cvHearer).take n → Ev (fun k => laws_toHearerS.l0 k l xs (n : Int)) (l.map cvHearer) := by
  intro d
  induction d with
  | zero =>
    intro n xs hd hx ht
    refine Ev.step (fun k => laws_toHearerS.l0.eq_2 ..) ?_
    refine Ev.neg (by omega) (Ev.some_ ?_)
    rw [List.take_of_length_le (by omega), List.take_of_length_le (by simp; omega)] at ht
    exact ht
  | succ d ih =>
    intro n xs hd hx ht
    refine Ev.step (fun k => laws_toHearerS.l0.eq_2 ..) ?_
    refine Ev.pos (by omega) (Ev.pos (by omega) ?_)
    simp only [laws_toHearer.f, Option.bind_some]
    refine Ev.pos (by omega) ?_
    simp only [w64s (show n < 4611686018427387904 by omega), rdLHearer (show n < l.length by omega), Int.toNat_natCast]
    refine ih (n + 1) _ (by omega) (by simp [hx]) ?_
    rw [List.take_succ_eq_append_getElem (by simp; omega), List.take_succ_eq_append_getElem (by simp; omega), List.take_set_of_le (by omega), ht]
    simp [cvHearer]
theorem toHearerS_ev (l : List S74) (hl : l.length ≤ 1099511627776) : Ev (fun k => laws_toHearerS.f k l) (l.map cvHearer) := by
  unfold laws_toHearerS.f
  refine Ev.pos (by omega) (Ev.pos (by simp; omega) ?_)
  exact toHearerS_l0 l hl l.length 0 _ (by omega) (by simp) (by simp)
theorem eqHearer_same (x : S72) : laws_eqHearer.f x.f0 x.f1 x.f0 x.f1 = some true := by simp [laws_eqHearer.f]
theorem eqHearerS_l0 (l : List S72) (hl : l.length ≤ 1099511627776) : ∀ (d n : Nat), n + d = l.length → Ev (fun k => laws_eqHearerS.l0 k l l (n : Int)) true := by
  intro d
  induction d with
  | zero =>
    intro n hd
    refine Ev.step (fun k => laws_eqHearerS.l0.eq_2 ..) ?_
    exact Ev.neg (by omega) (Ev.now _)
  | succ d ih =>
    intro n hd
    refine Ev.step (fun k => laws_eqHearerS.l0.eq_2 ..) ?_
    refine Ev.pos (by omega) (Ev.pos (by omega) (Ev.pos (by omega) ?_))
    simp only [w64s (show n < 4611686018427387904 by omega), rdHearer (show n < l.length by omega), eqHearer_same, Option.bind_some]
    exact Ev.pos trivial (ih (n + 1) (by omega))
theorem eqHearerS_ev (l : List S72) (hl : l.length ≤ 1099511627776) : Ev (fun k => laws_eqHearerS.f k l l) true := by
  unfold laws_eqHearerS.f
  exact Ev.pos rfl (eqHearerS_l0 l hl l.length 0 (by omega))
theorem szHearerS_eq (l : List S74) (left : Int) (h0 : 0 ≤ left) (h1 : left ≤ 1048576) (hl : l.length ≤ 9223372036854775807) : laws_szHearerS.f l left = some (if left - l.length < 0 then -1 else left - l.length) := by
  unfold laws_szHearerS.f
  rw [w64 (by omega) (by omega)]
  split <;> rfl

/-- Who of a hall. -/
def cnt (p : S72 → Bool) (l : List S72) : Int := (l.countP p : Nat)
theorem cnt_cons (p : S72 → Bool) (x : S72) (l : List S72) : cnt p (x :: l) = cnt p l + if p x = true then 1 else 0 := by
  unfold cnt
  rw [List.countP_cons]
  split <;> simp
theorem cnt_nil (p : S72 → Bool) : cnt p [] = 0 := rfl
theorem cnt_le (p : S72 → Bool) (l : List S72) : 0 ≤ cnt p l ∧ cnt p l ≤ l.length := by
  unfold cnt
  have := List.countP_le_length (p := p) (l := l)
  omega
def movedP (a b : Int) (h : S72) : Bool := decide (h.f0 = a ∧ h.f1 = b)
def sameP (h : S72) : Bool := decide (h.f0 = h.f1)
def befP (a : Int) (h : S72) : Bool := decide (h.f0 = a)
def aftP (a : Int) (h : S72) : Bool := decide (h.f1 = a)
def okH (h : S72) : Bool := inR h.f0 0 2 && inR h.f1 0 2

theorem sAfter_l0 (l : List S72) (a : Int) (hl : l.length ≤ 1099511627776) : ∀ (d n : Nat) (acc : Int), n + d = l.length → -4611686018427387904 + d ≤ acc → acc + d ≤ 4611686018427387904 → Ev (fun k => spec_l18After.l0 k l a acc (n : Int)) (acc + cnt (aftP a) (l.drop n)) := by
  intro d
  induction d with
  | zero =>
    intro n acc hd h0 h1
    refine Ev.step (fun k => spec_l18After.l0.eq_2 ..) ?_
    refine Ev.neg (by omega) (Ev.some_ ?_)
    rw [List.drop_eq_nil_of_le (by omega), cnt_nil]
    omega
  | succ d ih =>
    intro n acc hd h0 h1
    refine Ev.step (fun k => spec_l18After.l0.eq_2 ..) ?_
    refine Ev.pos (by omega) (Ev.pos (by omega) ?_)
    simp only [w64s (show n < 4611686018427387904 by omega), rdHearer (show n < l.length by omega), w64 (show -9223372036854775808 ≤ acc + 1 by omega) (show acc + 1 ≤ 9223372036854775807 by omega)]
    have h1 := fun acc h0 h1 => ih (n + 1) acc (by omega) h0 h1
    rw [List.drop_eq_getElem_cons (show n < l.length by omega)]
    generalize l.drop (n + 1) = u at h1 ⊢
    refine Ev.ite (fun h => Ev.cast (h1 (acc + 1) (by omega) (by omega)) ?_) (fun h => Ev.cast (h1 acc (by omega) (by omega)) ?_)
    · simp [cnt_cons, sameP, befP, aftP, h]; omega
    · simp [cnt_cons, sameP, befP, aftP, h]
theorem sAfter_ev (l : List S72) (a : Int) (hl : l.length ≤ 1099511627776) : Ev (fun k => spec_l18After.f k l a) (cnt (aftP a) l) := by
  unfold spec_l18After.f
  exact Ev.cast (sAfter_l0 l a hl l.length 0 0 (by omega) (by omega) (by omega)) (by simp)

theorem iAfter_l0 (l : List S72) (a : Int) (hl : l.length ≤ 1099511627776) : ∀ (d n : Nat) (acc : Int), n + d = l.length → -4611686018427387904 + d ≤ acc → acc + d ≤ 4611686018427387904 → Ev (fun k => impl_afterOf.l0 k a acc l (l.length : Int) (n : Int)) (acc + cnt (aftP a) (l.drop n)) := by
  intro d
  induction d with
  | zero =>
    intro n acc hd h0 h1
    refine Ev.step (fun k => impl_afterOf.l0.eq_2 ..) ?_
    refine Ev.neg (by omega) (Ev.some_ ?_)
    rw [List.drop_eq_nil_of_le (by omega), cnt_nil]
    omega
  | succ d ih =>
    intro n acc hd h0 h1
    refine Ev.step (fun k => impl_afterOf.l0.eq_2 ..) ?_
    refine Ev.pos (by omega) (Ev.pos (by omega) (Ev.pos (by omega) ?_))
    simp only [w64s (show n < 4611686018427387904 by omega), rdHearer (show n < l.length by omega), w64 (show -9223372036854775808 ≤ acc + 1 by omega) (show acc + 1 ≤ 9223372036854775807 by omega)]
    have h1 := fun acc h0 h1 => ih (n + 1) acc (by omega) h0 h1
    rw [List.drop_eq_getElem_cons (show n < l.length by omega)]
    generalize l.drop (n + 1) = u at h1 ⊢
    refine Ev.ite (fun h => Ev.cast (h1 (acc + 1) (by omega) (by omega)) ?_) (fun h => Ev.cast (h1 acc (by omega) (by omega)) ?_)
    · simp [cnt_cons, sameP, befP, aftP, h]; omega
    · simp [cnt_cons, sameP, befP, aftP, h]
theorem iAfter_ev (l : List S72) (a : Int) (hl : l.length ≤ 1099511627776) : Ev (fun k => impl_afterOf.f k l a) (cnt (aftP a) l) := by
  unfold impl_afterOf.f
  exact Ev.cast (iAfter_l0 l a hl l.length 0 0 (by omega) (by omega) (by omega)) (by simp)

theorem sGain_l0 (l : List S72) (a : Int) (hl : l.length ≤ 1099511627776) : ∀ (d n : Nat) (acc : Int), n + d = l.length → -4611686018427387904 + d ≤ acc → acc + d ≤ 4611686018427387904 → Ev (fun k => spec_Gain.l0 k l a acc (n : Int)) (acc - cnt (befP a) (l.drop n)) := by
  intro d
  induction d with
  | zero =>
    intro n acc hd h0 h1
    refine Ev.step (fun k => spec_Gain.l0.eq_2 ..) ?_
    refine Ev.neg (by omega) (Ev.some_ ?_)
    rw [List.drop_eq_nil_of_le (by omega), cnt_nil]
    omega
  | succ d ih =>
    intro n acc hd h0 h1
    refine Ev.step (fun k => spec_Gain.l0.eq_2 ..) ?_
    refine Ev.pos (by omega) (Ev.pos (by omega) ?_)
    simp only [w64s (show n < 4611686018427387904 by omega), rdHearer (show n < l.length by omega), w64 (show -9223372036854775808 ≤ acc - 1 by omega) (show acc - 1 ≤ 9223372036854775807 by omega)]
    have h1 := fun acc h0 h1 => ih (n + 1) acc (by omega) h0 h1
    rw [List.drop_eq_getElem_cons (show n < l.length by omega)]
    generalize l.drop (n + 1) = u at h1 ⊢
    refine Ev.ite (fun h => Ev.cast (h1 (acc - 1) (by omega) (by omega)) ?_) (fun h => Ev.cast (h1 acc (by omega) (by omega)) ?_)
    · simp [cnt_cons, sameP, befP, aftP, h]; omega
    · simp [cnt_cons, sameP, befP, aftP, h]

theorem iGain_l0 (l : List S72) (a : Int) (hl : l.length ≤ 1099511627776) : ∀ (d n : Nat) (acc : Int), n + d = l.length → -4611686018427387904 + d ≤ acc → acc + d ≤ 4611686018427387904 → Ev (fun k => impl_Gain.l0 k a acc l (l.length : Int) (n : Int)) (acc - cnt (befP a) (l.drop n)) := by
  intro d
  induction d with
  | zero =>
    intro n acc hd h0 h1
    refine Ev.step (fun k => impl_Gain.l0.eq_2 ..) ?_
    refine Ev.neg (by omega) (Ev.some_ ?_)
    rw [List.drop_eq_nil_of_le (by omega), cnt_nil]
    omega
  | succ d ih =>
    intro n acc hd h0 h1
    refine Ev.step (fun k => impl_Gain.l0.eq_2 ..) ?_
    refine Ev.pos (by omega) (Ev.pos (by omega) (Ev.pos (by omega) ?_))
    simp only [w64s (show n < 4611686018427387904 by omega), rdHearer (show n < l.length by omega), w64 (show -9223372036854775808 ≤ acc - 1 by omega) (show acc - 1 ≤ 9223372036854775807 by omega)]
    have h1 := fun acc h0 h1 => ih (n + 1) acc (by omega) h0 h1
    rw [List.drop_eq_getElem_cons (show n < l.length by omega)]
    generalize l.drop (n + 1) = u at h1 ⊢
    refine Ev.ite (fun h => Ev.cast (h1 (acc - 1) (by omega) (by omega)) ?_) (fun h => Ev.cast (h1 acc (by omega) (by omega)) ?_)
    · simp [cnt_cons, sameP, befP, aftP, h]; omega
    · simp [cnt_cons, sameP, befP, aftP, h]

def okHs (l : List S72) : Bool := l.all okH && decide ((l.length : Int) ≤ 100)
theorem sAreHearers_l0 (l : List S72) (hl : l.length ≤ 1099511627776) : ∀ (d n : Nat), n + d = l.length → Ev (fun k => spec_AreHearers.l0 k l (n : Int)) ((l.drop n).all okH && decide ((l.length : Int) ≤ 100)) := by
  intro d
  induction d with
  | zero =>
    intro n hd
    refine Ev.step (fun k => spec_AreHearers.l0.eq_2 ..) ?_
    refine Ev.neg (by omega) (Ev.some_ ?_)
    rw [List.drop_eq_nil_of_le (by omega)]
    simp
  | succ d ih =>
    intro n hd
    refine Ev.step (fun k => spec_AreHearers.l0.eq_2 ..) ?_
    refine Ev.pos (by omega) (Ev.pos (by omega) ?_)
    simp only [w64s (show n < 4611686018427387904 by omega), rdHearer (show n < l.length by omega), l1In_eq, Option.bind_some]
    have h1 := ih (n + 1) (by omega)
    rw [List.drop_eq_getElem_cons (show n < l.length by omega)]
    generalize l.drop (n + 1) = u at h1 ⊢
    refine Ev.ite (fun h => Ev.ite (fun h' => Ev.cast h1 ?_) (fun h' => Ev.some_ ?_)) (fun h => Ev.some_ ?_)
    · simp [okH, h, h']
    · simp [okH, h, h']
    · simp [okH, h]
theorem sAreHearers_ev (l : List S72) (hl : l.length ≤ 1099511627776) : Ev (fun k => spec_AreHearers.f k l) (okHs l) := by
  unfold spec_AreHearers.f
  exact Ev.cast (sAreHearers_l0 l hl l.length 0 (by omega)) (by simp [okHs])
theorem iAreHearers_l0 (l : List S72) (hl : l.length ≤ 1099511627776) : ∀ (d n : Nat), n + d = l.length → Ev (fun k => impl_AreHearers.l0 k l l (l.length : Int) (n : Int)) ((l.drop n).all okH && decide ((l.length : Int) ≤ 100)) := by
  intro d
  induction d with
  | zero =>
    intro n hd
    refine Ev.step (fun k => impl_AreHearers.l0.eq_2 ..) ?_
    refine Ev.neg (by omega) (Ev.some_ ?_)
    rw [List.drop_eq_nil_of_le (by omega)]
    simp
  | succ d ih =>
    intro n hd
    refine Ev.step (fun k => impl_AreHearers.l0.eq_2 ..) ?_
    refine Ev.pos (by omega) (Ev.pos (by omega) (Ev.pos (by omega) ?_))
    simp only [w64s (show n < 4611686018427387904 by omega), rdHearer (show n < l.length by omega), InRange_eq, Option.bind_some]
    have h1 := ih (n + 1) (by omega)
    rw [List.drop_eq_getElem_cons (show n < l.length by omega)]
    generalize l.drop (n + 1) = u at h1 ⊢
    refine Ev.ite (fun h => Ev.ite (fun h' => Ev.cast h1 ?_) (fun h' => Ev.some_ ?_)) (fun h => Ev.some_ ?_)
    · simp [okH, h, h']
    · simp [okH, h, h']
    · simp [okH, h]
theorem iAreHearers_ev (l : List S72) (hl : l.length ≤ 1099511627776) : Ev (fun k => impl_AreHearers.f k l) (okHs l) := by
  unfold impl_AreHearers.f
  exact Ev.cast (iAreHearers_l0 l hl l.length 0 (by omega)) (by simp [okHs])

def gain (l : List S72) (a : Int) : Int := cnt (aftP a) l - cnt (befP a) l
theorem sGain_ev (l : List S72) (a : Int) (hl : l.length ≤ 1099511627776) : Ev (fun k => spec_Gain.f k l a) (gain l a) := by
  unfold spec_Gain.f
  refine Ev.bind (sAfter_ev l a hl) ?_
  have h := cnt_le (aftP a) l
  exact Ev.cast (sGain_l0 l a hl l.length 0 _ (by omega) (by omega) (by omega)) (by simp [gain])
theorem iGain_ev (l : List S72) (a : Int) (hl : l.length ≤ 1099511627776) : Ev (fun k => impl_Gain.f k l a) (gain l a) := by
  unfold impl_Gain.f
  refine Ev.bind (iAfter_ev l a hl) ?_
  have h := cnt_le (aftP a) l
  exact Ev.cast (iGain_l0 l a hl l.length 0 _ (by omega) (by omega) (by omega)) (by simp [gain])

end Go.Proofs.Ytcffappipgapbaa.L
