/- What the row FnRooms rests on, put together: LDraw, LRoomsD, LXFnRooms. No condition. -/
import Derived.Test.YtadcndmhdbhfkaaSFnRoomsx0
import Derived.Test.YtadcndmhdbhfkaaSFnRoomsx2
import Derived.Test.YtadcndmhdbhfkaaSFnRoomsx3
section
set_option linter.unusedVariables false
set_option linter.unusedSimpArgs false
namespace Go.Proofs.Ytadcndmhdbhfkaa.L
open Go Go.RowKit Go.Proofs.Ytadcndmhdbhfkaa.A Go.Proofs.YtadcndmhdbhfkaaW.PrintWords
theorem bits255 (x : Int) : 0 ≤ Go.bits .and .i64 x 255 ∧ Go.bits .and .i64 x 255 ≤ 255 := by
  have h : ((BitVec.ofInt 64 x) &&& (BitVec.ofInt 64 255)).toNat ≤ 255 := by
    rw [BitVec.toNat_and]
    exact Nat.le_trans Nat.and_le_right (by decide)
  show 0 ≤ IntKind.i64.wrap (((BitVec.ofInt 64 x) &&& (BitVec.ofInt 64 255)).toNat : Int) ∧ IntKind.i64.wrap (((BitVec.ofInt 64 x) &&& (BitVec.ofInt 64 255)).toNat : Int) ≤ 255
  generalize ((BitVec.ofInt 64 x) &&& (BitVec.ofInt 64 255)).toNat = t at h ⊢
  rw [IntKind.wrap_i64]
  omega
def At (b : List Int) (i : Int) : Prop := b.length ≤ 1099511627776 ∧ 0 ≤ i ∧ i ≤ b.length
theorem Byte_eq (b : List Int) (i h : Int) (ha : At b i) : ∃ r i' h', spec_l1Byte.f b i h = some (r, i', h') ∧ 0 ≤ r ∧ r ≤ 255 ∧ At b i' := by
  unfold spec_l1Byte.f
  obtain ⟨hl, h0, h1⟩ := ha
  by_cases hlt : i < (b.length : Int)
  · rw [if_pos hlt, if_pos h0, w64 (x := i + 1) (by omega) (by omega)]
    refine ⟨_, _, _, rfl, (bits255 _).1, (bits255 _).2, hl, by omega, by omega⟩
  · rw [if_neg hlt]
    exact ⟨_, _, _, rfl, (bits255 _).1, (bits255 _).2, hl, h0, h1⟩
theorem Below_eq (b : List Int) (i h n : Int) (ha : At b i) : ∃ r i' h', spec_l1Below.f b i h n = some (r, i', h') ∧ 0 ≤ r ∧ (0 < n → r < n) ∧ (n ≤ 0 → r = 0) ∧ At b i' := by
  unfold spec_l1Below.f
  by_cases h0 : n ≤ 0
  · rw [if_pos h0]
    exact ⟨_, _, _, rfl, by omega, by omega, fun _ => rfl, ha⟩
  · rw [if_neg h0]
    by_cases h1 : n ≤ 256
    · rw [if_pos h1]
      obtain ⟨r, i1, h2, e, hr0, hr1, ha1⟩ := Byte_eq b i h ha
      rw [e]
      simp only [Option.bind_some]
      rw [if_neg (by omega)]
      refine ⟨_, _, _, rfl, ?_, fun _ => ?_, fun hn => absurd hn h0, ha1⟩
      · exact Int.tmod_nonneg _ hr0
      · exact Int.tmod_lt_of_pos _ (by omega)
    · rw [if_neg h1]
      obtain ⟨r, i1, h2, e, hr0, hr1, ha1⟩ := Byte_eq b i h ha
      rw [e]
      simp only [Option.bind_some]
      obtain ⟨r3, i3, h3, e3, hr30, hr31, ha3⟩ := Byte_eq b i1 h2 ha1
      rw [e3]
      simp only [Option.bind_some]
      obtain ⟨r4, i4, h4, e4, hr40, hr41, ha4⟩ := Byte_eq b i3 h3 ha3
      rw [e4]
      simp only [Option.bind_some]
      rw [if_neg (by omega)]
      refine ⟨_, _, _, rfl, ?_, fun _ => ?_, fun hn => absurd hn h0, ha4⟩
      · refine Int.tmod_nonneg _ ?_
        rw [w64 (x := r * 65536) (by omega) (by omega), w64 (x := r3 * 256) (by omega) (by omega), w64 (x := r * 65536 + r3 * 256) (by omega) (by omega), w64 (by omega) (by omega)]
        omega
      · exact Int.tmod_lt_of_pos _ (by omega)
theorem Once_eq (b : List Int) (i h n : Int) (ha : At b i) : ∃ r i' h', spec_l1Once.f b i h n = some (r, i', h') ∧ At b i' := by
  unfold spec_l1Once.f
  obtain ⟨r, i1, h2, e, _, _, _, ha1⟩ := Below_eq b i h n ha
  rw [e]
  exact ⟨_, _, _, rfl, ha1⟩
theorem DInt_eq (b : List Int) (i h : Int) (l : List Int) (hl : 0 < l.length) (ha : At b i) : ∃ r i' h', spec_l1Int.f b i h l = some (r, i', h') ∧ r ∈ l ∧ At b i' := by
  unfold spec_l1Int.f
  obtain ⟨r, i1, h2, e, h0, h1, _, ha1⟩ := Below_eq b i h l.length ha
  rw [e]
  simp only [Option.bind_some]
  rw [if_pos h0, if_pos (h1 (by omega))]
  refine ⟨_, _, _, rfl, ?_, ha1⟩
  have hr := h1 (by omega)
  obtain ⟨m, rfl⟩ : ∃ m : Nat, r = m := ⟨r.toNat, by omega⟩
  rw [rd_at (show m < l.length by omega)]
  exact List.getElem_mem _
theorem New_l0 (b : List Int) (hl : b.length ≤ 1099511627776) : ∀ (d n : Nat) (h : Int), n + d = b.length → ∃ h', Ev (fun k => spec_l1New.l0 k b h (n : Int)) (b, 0, h') := by
  intro d
  induction d with
  | zero =>
    intro n h hd
    exact ⟨_, Ev.step (fun k => spec_l1New.l0.eq_2 ..) (Ev.neg (by omega) (Ev.now _))⟩
  | succ d ih =>
    intro n h hd
    by_cases h4 : (n : Int) < 4000
    · obtain ⟨h', e⟩ := ih (n + 1) (Go.bits .and .i64 (wrap64 ((wrap64 ((wrap64 (h * 137)) + (wrap64 (rd b n)))) + 11)) 1073741823) (by omega)
      refine ⟨h', Ev.step (fun k => spec_l1New.l0.eq_2 ..) (Ev.pos (by omega) (Ev.pos h4 (Ev.pos (by omega) ?_)))⟩
      simp only [w64s (show n < 4611686018427387904 by omega)]
      exact e
    · exact ⟨_, Ev.step (fun k => spec_l1New.l0.eq_2 ..) (Ev.pos (by omega) (Ev.neg h4 (Ev.now _)))⟩
theorem New_ev (b : List Int) (hl : b.length ≤ 1099511627776) : ∃ h, Ev (fun k => spec_l1New.f k b) (b, 0, h) := by
  unfold spec_l1New.f
  exact New_l0 b hl b.length 0 _ (by omega)
theorem big_eq (b : List Int) : laws_big.f b = some (decide ((b.length : Int) > 1048576)) := rfl
theorem mutAny (b : List Int) (l : List RmA) (i h : Int) (ha : At b i) : ∃ l' i' h', l'.length = l.length ∧ At b i' ∧ (if (l.length : Int) > 0 then ((spec_l1Below.f b i h (l.length : Int)).bind fun bt279 => ((spec_l1Below.f b bt279.2.1 bt279.2.2 12).bind fun bt282 => (if bt282.1 = 0 then ((spec_l1Int.f b bt282.2.1 bt282.2.2 (([0, 3, 99, 100] : List Int))).bind fun bt288 => (if 0 ≤ bt279.1 then (if bt279.1 < (l.length : Int) then (some ((l.set (bt279.1 : Int).toNat (⟨bt288.1, (rd_T73 l bt279.1).f1⟩ : S73)), bt288.2.1, bt288.2.2)) else (none)) else (none))) else (if bt282.1 = 1 then ((spec_l1Int.f b bt282.2.1 bt282.2.2 (([0, 1000, 1001] : List Int))).bind fun bt295 => (if 0 ≤ bt279.1 then (if bt279.1 < (l.length : Int) then (some ((l.set (bt279.1 : Int).toNat (⟨(rd_T73 l bt279.1).f0, bt295.1⟩ : S73)), bt295.2.1, bt295.2.2)) else (none)) else (none))) else (some (l, bt282.2.1, bt282.2.2)))))) else (some (l, i, h))) = some (l', i', h') := by
  by_cases hl : (l.length : Int) > 0
  · rw [if_pos hl]
    obtain ⟨r, i1, h1, e1, r0, r1, _, a1⟩ := Below_eq b i h (l.length : Int) ha
    have hr := r1 (by omega)
    obtain ⟨q, i2, h2, e2, _, _, _, a2⟩ := Below_eq b i1 h1 12 a1
    rw [e1, Option.bind_some, e2, Option.bind_some]
    by_cases hq : q = 0
    · rw [if_pos hq]
      obtain ⟨v, i3, h3, e3, _, a3⟩ := DInt_eq b i2 h2 [0, 3, 99, 100] (by simp) a2
      rw [e3, Option.bind_some, if_pos r0, if_pos hr]
      exact ⟨_, _, _, by simp, a3, rfl⟩
    · rw [if_neg hq]
      by_cases hq1 : q = 1
      · rw [if_pos hq1]
        obtain ⟨v, i3, h3, e3, _, a3⟩ := DInt_eq b i2 h2 [0, 1000, 1001] (by simp) a2
        rw [e3, Option.bind_some, if_pos r0, if_pos hr]
        exact ⟨_, _, _, by simp, a3, rfl⟩
      · rw [if_neg hq1]
        exact ⟨_, _, _, rfl, a2, rfl⟩
  · rw [if_neg hl]
    exact ⟨_, _, _, rfl, ha, rfl⟩
theorem Any_l0 (b : List Int) : ∀ (d : Nat) (x4 : Nat) (l : List RmA) (i h : Int), x4 + d = 6 → l.length ≤ x4 → At b i → ∃ l' i' h', l'.length ≤ 6 ∧ At b i' ∧ Ev (fun k => spec_l22Any.l0 k l (x4 : Int) b i h) (l', i', h') := by
  intro d
  induction d with
  | zero =>
    intro x4 l i h hd hl ha
    obtain ⟨r, i1, h1, e1, r0, r1, _, a1⟩ := Below_eq b i h 6 ha
    have hr := r1 (by omega)
    obtain ⟨l', i', h', el, a', e'⟩ := mutAny b l i1 h1 a1
    exact ⟨l', i', h', by omega, a', Ev.step (fun k => spec_l22Any.l0.eq_2 ..) (Ev.bnd e1 (Ev.neg (by omega) ⟨0, fun _ _ => e'⟩))⟩
  | succ d ih =>
    intro x4 l i h hd hl ha
    obtain ⟨r, i1, h1, e1, r0, r1, _, a1⟩ := Below_eq b i h 6 ha
    by_cases hr : (x4 : Int) ≤ r
    · obtain ⟨r2, i2, h2, e2, _, _, _, a2⟩ := Below_eq b i1 h1 6 a1
      obtain ⟨l', i', h', el, a', e'⟩ := ih (x4 + 1) (l ++ [(⟨wrap64 (3 * (x4 : Int)), wrap64 (10 * (wrap64 (1 + r2)))⟩ : S73)]) i2 h2 (by omega) (by simp; omega) a2
      refine ⟨l', i', h', el, a', Ev.step (fun k => spec_l22Any.l0.eq_2 ..) (Ev.bnd e1 (Ev.pos hr (Ev.bnd e2 (Ev.pos (by omega) ?_))))⟩
      rw [w64s (show x4 < 4611686018427387904 by omega)]
      exact e'
    · obtain ⟨l', i', h', el, a', e'⟩ := mutAny b l i1 h1 a1
      exact ⟨l', i', h', by omega, a', Ev.step (fun k => spec_l22Any.l0.eq_2 ..) (Ev.bnd e1 (Ev.neg hr ⟨0, fun _ _ => e'⟩))⟩
theorem Hearers_l0 (b : List Int) : ∀ (d : Nat) (l : List Int) (i h : Int), d ≤ 100 → l.length + d ≤ 100 → At b i → ∃ l' i' h', l'.length ≤ 100 ∧ At b i' ∧ Ev (fun k => spec_l22Hearers.l0 k l (d : Int) b i h) (l', i', h') := by
  intro d
  induction d with
  | zero =>
    intro l i h hd hl ha
    by_cases h0 : (l.length : Int) > 0
    · obtain ⟨q, i1, h1, e1, a1⟩ := Once_eq b i h 10 ha
      by_cases hq : q = true
      · obtain ⟨v, i3, h3, e3, _, a3⟩ := DInt_eq b i1 h1 [(-1), 10000, 10001] (by simp) a1
        exact ⟨l.set (0 : Int).toNat v, i3, h3, by simp; omega, a3, Ev.step (fun k => spec_l22Hearers.l0.eq_2 ..) (Ev.neg (by omega) (Ev.pos h0 (Ev.bnd e1 (Ev.pos hq (Ev.bnd e3 (Ev.pos (by omega) (Ev.now _)))))))⟩
      · exact ⟨l, i1, h1, by omega, a1, Ev.step (fun k => spec_l22Hearers.l0.eq_2 ..) (Ev.neg (by omega) (Ev.pos h0 (Ev.bnd e1 (Ev.neg hq (Ev.now _)))))⟩
    · exact ⟨l, i, h, by omega, ha, Ev.step (fun k => spec_l22Hearers.l0.eq_2 ..) (Ev.neg (by omega) (Ev.neg h0 (Ev.now _)))⟩
  | succ d ih =>
    intro l i h hd hl ha
    obtain ⟨r, i1, h1, e1, _, _, _, a1⟩ := Below_eq b i h 70 ha
    obtain ⟨l', i', h', el, a', e'⟩ := ih (l ++ [r]) i1 h1 (by omega) (by simp; omega) a1
    refine ⟨l', i', h', el, a', Ev.step (fun k => spec_l22Hearers.l0.eq_2 ..) (Ev.pos (by omega) (Ev.bnd e1 (Ev.pos (by omega) ?_)))⟩
    rw [w64p (show d < 4611686018427387904 by omega)]
    exact e'
theorem DrawAsg_ev (b : List Int) (hb : b.length ≤ 1099511627776) : ∃ l h, Ev (fun k => spec_DrawAssignRooms.f k b) (l, h) ∧ l.length ≤ 6 ∧ h.length ≤ 100 := by
  obtain ⟨h0, e⟩ := New_ev b hb
  obtain ⟨l, i1, h1, hl, a1, e1⟩ := Any_l0 b 5 1 [] 0 h0 (by omega) (by simp) ⟨hb, by omega, by omega⟩
  obtain ⟨r, i2, h2, e2, r0, r1, _, a2⟩ := Below_eq b i1 h1 (wrap64 ((l.length : Int) + 2)) a1
  have hw : wrap64 ((l.length : Int) + 2) = (l.length : Int) + 2 := w64 (by omega) (by omega)
  have hr := r1 (by omega)
  obtain ⟨n, hn⟩ : ∃ n : Nat, r = (n : Int) := ⟨r.toNat, by omega⟩
  subst hn
  obtain ⟨x, i3, h3, hx, a3, e3⟩ := Hearers_l0 b n [] i2 h2 (by omega) (by simp; omega) a2
  refine ⟨l, x, ?_, hl, hx⟩
  unfold spec_DrawAssignRooms.f
  refine Ev.bind e (Ev.bind (a := (l, i1, h1)) ?_ (Ev.bind (a := (x, i3, h3)) ?_ (Ev.now _)))
  · unfold spec_l22Any.f
    exact e1
  · unfold spec_l22Hearers.f
    exact Ev.bnd e2 e3
theorem DrawTurned_ev (b : List Int) (hb : b.length ≤ 1099511627776) : ∃ l h x, Ev (fun k => spec_DrawTurnedAway.f k b) (l, h, x) ∧ l.length ≤ 6 ∧ h.length ≤ 100 ∧ x.length ≤ 1099511627776 := by
  obtain ⟨l, h, e, hl, hh⟩ := DrawAsg_ev b hb
  obtain ⟨h0, eN⟩ := New_ev b hb
  have eA := sAsg_ev l h (by omega)
  have hA := asgT_len l h (by omega)
  generalize asgT l h = t at eA hA
  obtain ⟨ids, ok⟩ := t
  simp only at hA
  unfold spec_DrawTurnedAway.f
  by_cases hp : (ids.length : Int) > 0
  · obtain ⟨q, i1, h1, e1, a1⟩ := Once_eq b 0 h0 5 ⟨hb, by omega, by omega⟩
    by_cases hq : q = true
    · obtain ⟨r, i2, h2, e2, _, _, _, a2⟩ := Below_eq b i1 h1 20 a1
      exact ⟨l, h, ids.set (0 : Int).toNat r, Ev.bind e (Ev.bind eA (Ev.bind eN (Ev.pos hp (Ev.bnd e1 (Ev.pos hq (Ev.bnd e2 (Ev.pos hp (Ev.now _)))))))), hl, hh, by simpa using hA⟩
    · exact ⟨l, h, ids, Ev.bind e (Ev.bind eA (Ev.bind eN (Ev.pos hp (Ev.bnd e1 (Ev.neg hq (Ev.now _)))))), hl, hh, hA⟩
  · exact ⟨l, h, ids, Ev.bind e (Ev.bind eA (Ev.bind eN (Ev.neg hp (Ev.now _)))), hl, hh, hA⟩
def GivenOr (l : List RmA) (h ids : List Int) : Prop := ids = [] ∨ okRooms l = true ∧ Given l h ids
theorem asgT_given (l : List RmA) (h : List Int) : GivenOr l h (asgT l h).1 ∧ (asgT l h).1.length ≤ 20 ∧ ((asgT l h).2 = true → (asgT l h).1.length = h.length) ∧ ((asgT l h).2 = false → (asgT l h).1 = []) := by
  unfold asgT GivenOr
  by_cases h1 : okRooms l = true
  · rw [if_pos h1]
    by_cases h2 : h.length ≤ l.length
    · rw [if_pos h2]
      by_cases h3 : h.all (fun x => decide (0 ≤ x)) = true
      · rw [if_pos h3]
        have hg := given l h h1 h2
        have := (ok_asc h1).2
        exact ⟨Or.inr ⟨h1, hg⟩, by rw [hg.len]; omega, fun _ => hg.len, fun h => by simp at h⟩
      · rw [if_neg h3]
        exact ⟨Or.inl rfl, by simp, fun h => by simp at h, fun _ => rfl⟩
    · rw [if_neg h2]
      exact ⟨Or.inl rfl, by simp, fun h => by simp at h, fun _ => rfl⟩
  · rw [if_neg h1]
    exact ⟨Or.inl rfl, by simp, fun h => by simp at h, fun _ => rfl⟩
theorem rooms_tail (c : List Int) (l : List RmA) (h ids : List Int) (hc : c.length ≤ 1099511627776) (hl : l.length ≤ 1000) (hi : ids.length ≤ 20) (hG : GivenOr l h ids) (n : Nat) (hn : n = ids.length) : Ev (fun k => laws_FnRooms.l0 k c l h ids (n : Int)) true := by
  refine Ev.step (fun k => laws_FnRooms.l0.eq_2 ..) (Ev.neg (by omega) ?_)
  obtain ⟨a, b, x, e, ha, hb, hx⟩ := DrawTurned_ev c hc
  obtain ⟨v, hv, es⟩ := seats_ev l (by omega)
  have hne := largeT_ne l
  have hfin : Ev (fun k => if (ids.length : Int) = 0 then some true else (laws_contains.f k ids (largeT l)).bind fun t => some t) true := by
    refine Ev.ite (fun _ => Ev.now _) (fun h0 => ?_)
    rcases hG with hG | ⟨ho, hG⟩
    · rw [hG] at h0
      simp at h0
    · exact Ev.bind (contains_ev ids (largeT l) (by omega)) (Ev.some_ (decide_eq_true (hG.head (by omega))))
  refine Ev.bind e (Ev.bind (iTurn_ev a b x (by omega)) (Ev.bind (iLarge_ev l (by omega)) (Ev.pos (turnT_ge _ _ _ (by omega)) (Ev.bind es (Ev.pos hv ?_)))))
  refine Ev.ite (fun h0 => Ev.bind (iAreRooms_ev l (by omega)) (Ev.pos ?_ hfin)) (fun h0 => Ev.pos ?_ hfin)
  · by_cases ho : okRooms l = true
    · have := hne.2 ⟨by omega, ho⟩
      simp [ho, this]
    · have : largeT l = 0 := Decidable.byContradiction fun h => ho (hne.1 h).2
      simp [ho, this]
  · have : largeT l = 0 := Decidable.byContradiction fun h => h0 (by have := (hne.1 h).1; omega)
    simp [this]
theorem one_of {ids : List Int} {i : Nat} (h : i < ids.length) : (ids.take (((i + 1 : Nat) : Int)).toNat).drop ((i : Nat) : Int).toNat = [rd ids (i : Int)] := by
  rw [Int.toNat_natCast, Int.toNat_natCast, rd_at h, List.take_succ_eq_append_getElem h, List.drop_append_of_le_length (by simp; omega), List.drop_eq_nil_of_le (by simp; omega)]
  rfl
theorem rooms_l1 (c : List Int) (l : List RmA) (h ids : List Int) (hl : l.length ≤ 1000) (hh : ids.length ≤ h.length) (ho : okRooms l = true) (hG : Given l h ids) (i : Nat) (hi : i < ids.length) (hil : ids.length ≤ 20) (hnext : Ev (fun k => laws_FnRooms.l0 k c l h ids ((i + 1 : Nat) : Int)) true) : ∀ (d n : Nat), n + d = i → Ev (fun k => laws_FnRooms.l1 k c l h ids (i : Int) (n : Int)) true := by
  intro d
  induction d with
  | zero =>
    intro n hn
    refine Ev.step (fun k => laws_FnRooms.l1.eq_2 ..) (Ev.neg (by omega) ?_)
    rw [w64s (show i < 4611686018427387904 by omega)]
    exact hnext
  | succ d ih =>
    intro n hn
    refine Ev.step (fun k => laws_FnRooms.l1.eq_2 ..) (Ev.pos (by omega) (Ev.pos (by omega) (Ev.pos (by omega) (Ev.pos (by omega) (Ev.pos (by omega) ?_)))))
    have hw := w64s (show n < 4611686018427387904 by omega)
    have hw' := w64s (show i < 4611686018427387904 by omega)
    have hnx := ih (n + 1) (by omega)
    rw [hw, hw']
    refine Ev.ite (fun hgt => ?_) (fun _ => hnx)
    obtain ⟨x, hx, ex⟩ := hG.room i hi
    obtain ⟨y, hy, ey⟩ := hG.room n (by omega)
    have hbig := hG.big i n x y hi (by omega) hx hy ex ey hgt
    have e1 : turnT l [1000] ((ids.take (((i + 1 : Nat) : Int)).toNat).drop ((i : Nat) : Int).toNat) = 1000 - x.f1 := by rw [one_of hi, ex, turnT_one ho hx]
    have e2 : turnT l [1000] ((ids.take (((n + 1 : Nat) : Int)).toNat).drop ((n : Nat) : Int).toNat) = 1000 - y.f1 := by rw [one_of (show n < ids.length by omega), ey, turnT_one ho hy]
    refine Ev.pos (by omega) (Ev.pos (by omega) (Ev.bind (Ev.cast (iTurn_ev l _ _ (by omega)) e1) (Ev.pos (by omega) (Ev.pos (by omega) (Ev.bind (Ev.cast (iTurn_ev l _ _ (by omega)) e2) (Ev.neg (by omega) ?_))))))
    exact hnx
theorem rooms_l0 (c : List Int) (l : List RmA) (h ids : List Int) (hc : c.length ≤ 1099511627776) (hl : l.length ≤ 1000) (hil : ids.length ≤ 20) (hG : GivenOr l h ids) : ∀ (d n : Nat), n + d = ids.length → Ev (fun k => laws_FnRooms.l0 k c l h ids (n : Int)) true := by
  intro d
  induction d with
  | zero =>
    intro n hn
    exact rooms_tail c l h ids hc hl hil hG n (by omega)
  | succ d ih =>
    intro n hn
    have hnl : n < ids.length := by omega
    have hnx := ih (n + 1) (by omega)
    rcases hG with hG | ⟨ho, hG⟩
    · rw [hG] at hnl
      simp at hnl
    refine Ev.step (fun k => laws_FnRooms.l0.eq_2 ..) (Ev.pos (by omega) (Ev.pos (by omega) (Ev.pos (by omega) ?_)))
    have hnot : ¬ rd ids (n : Int) ∈ ids.take ((n : Nat) : Int).toNat := by
      rw [Int.toNat_natCast, List.mem_take_iff_getElem]
      rintro ⟨j, hj, e⟩
      have h1 := hG.nodup j n (by omega) hnl
      rw [rd_at (show j < ids.length by omega)] at h1
      exact h1 e
    refine Ev.bind (contains_ev _ _ (by simp; omega)) (Ev.neg (by simpa using hnot) ?_)
    exact rooms_l1 c l h ids hl (by rw [hG.len]; omega) ho hG n hnl hil hnx n 0 (by omega)
theorem FnRooms_pure (l0 : List Int) (b0 : l0.length ≤ 9223372036854775807) : ∃ k, laws_FnRooms.f k l0 = some true := by
  refine Ev.rounds (g := fun k => laws_FnRooms.f k l0) ?_
  unfold laws_FnRooms.f
  refine Ev.bnd (big_eq l0) (Ev.ite (fun _ => Ev.now _) (fun hb => ?_))
  have hl : l0.length ≤ 1099511627776 := by simp only [decide_eq_true_eq] at hb; omega
  obtain ⟨l, h, e, h1, h2⟩ := DrawAsg_ev l0 hl
  have hS := sAsg_ev l h (by omega)
  have hI := iAsg_ev l h (by omega)
  obtain ⟨hG, hlen, hT, hF⟩ := asgT_given l h
  generalize asgT l h = t at hS hI hG hlen hT hF
  obtain ⟨ids, ok⟩ := t
  simp only at hG hlen hT hF
  have hj : Ev (fun k => laws_FnRooms.j0 k l0 l h ids false) true := Ev.step (fun k => laws_FnRooms.j0.eq_2 ..) (Ev.neg (by simp) (rooms_l0 l0 l h ids hl (by omega) hlen hG ids.length 0 (by omega)))
  refine Ev.bind e (Ev.bind hI (Ev.bind hS (Ev.neg (by simp) ?_)))
  refine Ev.ite (fun hok => Ev.pos (by have := hT hok; show (ids.length : Int) = (h.length : Int); omega) hj) (fun hok => ?_)
  have := hF (by simpa using hok)
  have e0 : decide ((ids.length : Int) > 0) = false := by rw [this]; rfl
  rw [e0]
  exact hj
end Go.Proofs.Ytadcndmhdbhfkaa.L
end
