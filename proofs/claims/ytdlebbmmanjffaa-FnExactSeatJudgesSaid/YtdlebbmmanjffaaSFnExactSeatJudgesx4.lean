/- What the row FnExactSeatJudges rests on, put together: A53, A54, A56, A7, A8, LWMark, LHMark, LHMarkJ, LHMarkT, LHLFnExactSeatJudges, LOpen, LCont, LHas, LJudge. No condition. -/
import Derived.Test.YtdlebbmmanjffaaSFnExactSeatJudgesx0
import Derived.Test.YtdlebbmmanjffaaSFnExactSeatJudgesx3
import Derived.Test.YtdlebbmmanjffaaSFnExactSeatJudgesx1
import Derived.Deep.Slices
import Derived.Deep.Fields
import Derived.ChangeSame
import Derived.Lib.SmallJoins
import Derived.Test.YtdlebbmmanjffaaSFnExactSeatJudgesx2
section
namespace Go.Proofs.Ytdlebbmmanjffaa.A
open Go.RowKit Go.Proofs.YtdlebbmmanjffaaW.PrintWords Go.Proofs.YtdlebbmmanjffaaW.PrintLast Go.Proofs.YtdlebbmmanjffaaW.PrintMore
attribute [local go_sem] max2_int min2_int max_two min_two max_three min_three max_four min_four   -- for this text's walks alone
set_option linter.unusedVariables false
set_option linter.unusedSimpArgs false
mutual
def impl_seated.l0 : Nat → List (S78) → List (S46) → List (S48) → List Int → List (S46) → Int → Int → Option (List Int × Bool)
  | 0, _, _, _, _, _, _, _ => none
  | k + 1, x0, x1, x2, x3, x18, x19, x20 => if x20 < x19 then (if 0 ≤ x20 then (if x20 < (x18.length : Int) then ((slices_Contains_int_int.f k x3 ((rd_T46 x18 x20).f0)).bind fun t439 => (if t439 = true then (impl_seated.j1 k x0 x1 x2 x3 x18 x19 x20 true ((rd_T46 x18 x20).f0) ((rd_T46 x18 x20).f1) ((rd_T46 x18 x20).f2)) else (if 0 < (x2.length : Int) then ((impl_MayJudge.f k x0 ((rd_T46 x18 x20).f0) ((rd_T46 x18 x20).f1) ((rd_T46 x18 x20).f2) ((rd_T48 x2 0).f0) ((rd_T48 x2 0).f1)).bind fun t441 => (impl_seated.j1 k x0 x1 x2 x3 x18 x19 x20 (!t441) ((rd_T46 x18 x20).f0) ((rd_T46 x18 x20).f1) ((rd_T46 x18 x20).f2))) else (none)))) else (none)) else (none)) else (some ((([] : List Int)), false))
def impl_seated.j1 : Nat → List (S78) → List (S46) → List (S48) → List Int → List (S46) → Int → Int → Bool → Int → Int → List Int → Option (List Int × Bool)
  | 0, _, _, _, _, _, _, _, _, _, _, _ => none
  | k + 1, x0, x1, x2, x3, x18, x19, x20, x36, x439000, x439001, x439002 => if x36 = true then (impl_seated.l0 k x0 x1 x2 x3 x18 x19 (wrap64 (x20 + 1))) else (if 1 ≤ (x2.length : Int) then ((slices_Clone_int_int.f x3).bind fun t446 => ((some (([x439000] : List Int) : List Int)).bind fun y449 => (if t446.length + y449.length < 17592186044416 then ((impl_seated.f k x0 x1 (x2.drop 1) (t446 ++ y449)).bind fun bt455 => (if bt455.2 = true then ((some (([x439000] : List Int) : List Int)).bind fun y459 => (if y459.length + bt455.1.length < 17592186044416 then (some ((y459 ++ bt455.1), true)) else (none))) else (impl_seated.l0 k x0 x1 x2 x3 x18 x19 (wrap64 (x20 + 1))))) else (none)))) else (none))
def impl_seated.f : Nat → List (S78) → List (S46) → List (S48) → List Int → Option (List Int × Bool)
  | 0, _, _, _, _ => none
  | k + 1, l0, l1, l2, l3 => if (l2.length : Int) = 0 then (some ((([] : List Int)), true)) else (impl_seated.l0 k l0 l1 l2 l3 l1 (l1.length : Int) 0)
end
def impl_seated.T6 : Bool × List (List Nat × List Nat) := (true, [([], []), ([], []), ([1], [1]), ([0, 2], [0, 2]), ([3, 3], [3]), ([4], [4]), ([4], [4]), ([4], [4]), ([7, 4], [4, 7]), ([8, 4], [4, 8]), ([5, 6, 9, 4, 4], [4, 5, 6, 9]), ([10, 4], [4, 10]), ([4, 11], [4, 11])])
def impl_seated.B6 : List Nat := [0, 0, 2, 7, 15, 31, 31, 31, 159, 415, 1023, 2047, 4095]
theorem impl_seated.tab6 : rtab .any (opsOf Try.f71 6) = impl_seated.T6 := by kernel_rfl
theorem impl_seated.bits6 : waitsOk impl_seated.T6.2 impl_seated.B6 = true := by kernel_rfl
def impl_seated.T7 : Bool × List (List Nat × List Nat) := (true, [([], []), ([], []), ([], []), ([2], [2]), ([], []), ([4], [4]), ([], []), ([6], [6]), ([7], [7]), ([5, 8, 5], [5, 8]), ([0, 1, 3, 9, 9], [0, 1, 3, 9]), ([10], [10]), ([11], [11]), ([11], [11]), ([12, 10, 0, 1, 2, 3, 4, 5, 6, 7, 8, 9, 10, 11, 12], [12]), ([13, 14, 0, 1, 2, 3, 4, 5, 6, 7, 8, 9, 10, 11, 12, 13, 14], [13])])
def impl_seated.B7 : List Nat := [0, 0, 0, 4, 0, 16, 0, 64, 192, 496, 1023, 2047, 4095, 4095, 8191, 32767]
theorem impl_seated.tab7 : rtab .any (opsOf Try.f71 7) = impl_seated.T7 := by kernel_rfl
theorem impl_seated.bits7 : waitsOk impl_seated.T7.2 impl_seated.B7 = true := by kernel_rfl
set_option maxHeartbeats 8000000 in
set_option maxRecDepth 100000 in
theorem impl_seated.calls (k : Nat) : ∀ (A0 : Option Addr) (c0 : Nat) (l0 : List (S78)) (A1 : Option Addr) (c1 : Nat) (l1 : List (S46)) (A2 : Option Addr) (c2 : Nat) (l2 : List (S48)) (A3 : Option Addr) (c3 : Nat) (l3 : List Int) (r1 : List Int) (r2 : Bool) (w : World) (hr0 : Kd.C k78 w A0 l0.length l0) (hc0 : l0.length ≤ c0) (hr1 : Kd.C k46 w A1 l1.length l1) (hc1 : l1.length ≤ c1) (hr2 : Kd.C k48 w A2 l2.length l2) (hc2 : l2.length ≤ c2) (hr3 : Kd.C (Kd.int .i64) w A3 l3.length l3) (hc3 : l3.length ≤ c3) (h : impl_seated.f k l0 l1 l2 l3 = some (r1, r2)),
  Calls Try.prog 71 #[.slice A0 l0.length c0, .slice A1 l1.length c1, .slice A2 l2.length c2, .slice A3 l3.length c3] w fun e w' => ∃ v0_ : Value, e = .returned (.tuple #[v0_, .bool r2]) ∧ Kd.R (Kd.int .i64) 3 w' w.heap.size (fun _ => True) v0_ r1 ∧ Below w.heap.size w w' := by
 induction k using Nat.strongRecOn with
 | _ k ih =>
 intro A0 c0 l0 A1 c1 l1 A2 c2 l2 A3 c3 l3 r1 r2 w hr0 hc0 hr1 hc1 hr2 hc2 hr3 hc3 h
 cases k with
 | zero => exact absurd h (by simp [impl_seated.f])
 | succ k =>
 simp only [impl_seated.f] at h
 have hu46 := Try.underlying46
 have hu48 := Try.underlying48
 have HR0 := Aside0.mk hr0
 have HC0 := Aside0.mk hc0
 clear hr0 hc0
 have HR1 := Aside0.mk hr1
 have HC1 := Aside0.mk hc1
 clear hr1 hc1
 have HR2 := Aside0.mk hr2
 have HC2 := Aside0.mk hc2
 clear hr2 hc2
 have HR3 := Aside0.mk hr3
 have HC3 := Aside0.mk hc3
 clear hr3 hc3
 have HB := Aside0.mk (Below.refl w.heap.size w)
 have H : (if (l2.length : Int) = 0 then (some ((([] : List Int)), true)) else (impl_seated.l0 k l0 l1 l2 l3 l1 (l1.length : Int) 0)) = some (r1, r2) := h
 clear h
 by_cases c5 : (l2.length : Int) = 0
 rotate_left
 ·
  rw [if_neg c5] at H
  have c5b0 : ((l2.length : Int) == 0) = false := beq_eq_false_iff_ne.mpr c5
  have c5b1 : ((l2.length : Int) != 0) = true := bne_iff_ne.mpr c5
  have c5b2 : ¬ (l2 = []) := fun h_ => c5 (by rw [h_]; rfl)
  have H' := Aside0.mk H
  clear H
  go_enter Try.func71, Try.ntmps71
  go_wp2
  go_loopg [20] k (fun kq v20 w' => ∃ (x20_1 : Int), v20 = .int .i64 x20_1 ∧ Aside0 (impl_seated.l0 kq l0 l1 l2 l3 l1 (l1.length : Int) x20_1 = some (r1, r2)) ∧ Aside0 (kq ≤ k) ∧ Aside0 (Below w.heap.size w w'))
  case atStart => exact ⟨(0), (by first | rfl | (simp; done) | (simp [*]; done)), H', ⟨Nat.le_refl _⟩, ⟨by repeat (first | (with_reducible first | exact HB.out | apply below_alloc | apply pw_below_drewN | apply below_drew1) | exact HB.out)⟩⟩
  case round =>
   clear H'
   try clear c1
   try clear c2
   try clear p2
   try clear c3
   try clear c5
   try clear c5b0
   try clear c5b1
   try clear c5b2
   try clear c7
   obtain ⟨x20_1, rfl, HA, HK1, HB⟩ := hrel
   cases gk with
   | zero => exact absurd HA.out (by simp [impl_seated.l0])
   | succ k1 =>
    have H := HA.out
    clear HA
    simp only [impl_seated.l0] at H
    by_cases c8 : x20_1 < (l1.length : Int)
    rotate_left
    ·
     rw [if_neg c8] at H
     have c8b0 : decide (x20_1 < (l1.length : Int)) = false := decide_eq_false c8
     clear c8
     obtain ⟨y434, hy434⟩ : ∃ y_ : List Int, y_ = (([] : List Int)) := ⟨_, rfl⟩
     replace H : (some (y434, false)) = some (r1, r2) := by first | (rw [hy434]; with_reducible exact H) | (have H2_ := (Option.bind_some _ _).symm.trans H; rw [hy434]; with_reducible exact H2_) | (have H2_ := (Option.bind_some _ _).symm.trans H; with_reducible exact H2_) | with_reducible exact H | (rw [hy434]; exact H) | exact H
     have Ny434 := Aside0.mk hy434
     clear hy434
     simp only [Option.some.injEq, Prod.mk.injEq] at H
     obtain ⟨rfl, rfl⟩ := H
     go_wp2_with (first | ((with_reducible refine gate_dst (N := 58) rfl ?_); refine Kd.R_lit (Kd.int .i64) _ 3 ?hg (N := 58) ?hd (xs := ([] : List Int)) (inner := []) (ok := fun _ => True) (okp := fun _ => True) ?hr ?hp (fun _ hk => hk) trivial (Below.refl _ _) (Nat.le_refl _) (by simp) ?_; (case hd => rfl); (case hg => rfl); (case hr => first | (go_simp; done) | (go_simp; rfl)); (case hp => exact (Reps.none _ _)); intro v435 w55 ho56 hb hg_ hnew_; clear hg_ hnew_; (first | rw [← Ny434.out] at ho56 | (simp only [Int.reduceToNat] at ho56; rw [← Ny434.out] at ho56)); have n0_ := Aside0.mk (Kd.R_lower ho56 (below_size (by repeat (first | (with_reducible first | exact HB.out | apply below_alloc | apply pw_below_drewN | apply below_drew1) | exact HB.out)))); have n1_ := Aside0.mk (below_step (by repeat (first | (with_reducible first | exact HB.out | apply below_alloc | apply pw_below_drewN | apply below_drew1) | exact HB.out)) hb); clear HB; have HO436 := n0_; have HB := n1_; clear n0_ n1_; clear hb ho56))
     go_ret2
     exact ⟨_, by first | rfl | (simp [errW_none, errW_some] <;> rfl) | (simp [*, errW_none, errW_some] <;> rfl), by (with_reducible repeat (first | apply Kd.R_alloc | apply Kd.R_drewN | apply Kd.R_drew)); exact HO436.out, by repeat (first | (with_reducible first | exact HB.out | apply below_alloc | apply pw_below_drewN | apply below_drew1) | exact HB.out)⟩

    rw [if_pos c8] at H
    have c8b0 : decide (x20_1 < (l1.length : Int)) = true := decide_eq_true c8
    clear c8
    by_cases c9 : 0 ≤ x20_1
    rotate_left
    ·
     rw [if_neg c9] at H
     exact absurd H (by simp)
    rw [if_pos c9] at H
    have c9b0 : decide (0 ≤ x20_1) = true := decide_eq_true c9
    clear c9
    by_cases c10 : x20_1 < (l1.length : Int)
    rotate_left
    ·
     rw [if_neg c10] at H
     exact absurd H (by simp)
    rw [if_pos c10] at H
    have c10b0 : decide (x20_1 < (l1.length : Int)) = true := decide_eq_true c10
    clear c10
    have HC11 := Aside0.mk H
    clear H
    have p437 : 0 ≤ (x20_1 : Int) := of_decide_eq_true (by first | (with_reducible assumption) | assumption)
    have q437 : x20_1 < (l1.length : Int) := of_decide_eq_true (by first | (with_reducible assumption) | assumption)
    obtain ⟨ad437, A437_2, c437_2, e437, hx437_0, hx437_1, hx437_2, hl437_2, hi437_2⟩ := at_T46 HR1.out x20_1 p437 q437
    cases e437
    replace hx437_0 := (HB.out.cell (World.block_lt_of_cell? w _ hx437_0)).trans hx437_0
    replace hx437_1 := (HB.out.cell (World.block_lt_of_cell? w _ hx437_1)).trans hx437_1
    replace hx437_2 := (HB.out.cell (World.block_lt_of_cell? w _ hx437_2)).trans hx437_2
    have HR437_2 := Aside0.mk hi437_2
    have HC437_2 := Aside0.mk hl437_2
    clear hi437_2 hl437_2
    replace p437 := eq_true p437
    replace q437 := eq_true q437
    go_upto_region 6 with (first | ((with_reducible refine gate_dst (N := 11) rfl ?_); refine box_event ?hg (N := 11) ?hd (cs := #[.int .i64 0, .int .i64 0, .slice none 0 0]) (t := 46) ?hr ?_; (case hd => rfl); (case hg => rfl); (case hr => first | (go_simp; done) | (go_simp; rfl)); intro gb438 hg w12 hbox hb; have n0_ := Aside0.mk (below_step (by repeat (first | (with_reducible first | exact HB.out | apply below_alloc | apply pw_below_drewN | apply below_drew1) | exact HB.out)) hb); have n1_ := Aside0.mk (hbox); have n2_ := Aside0.mk ((by rw [hg]; exact (below_size (by repeat (first | (with_reducible first | exact HB.out | apply below_alloc | apply pw_below_drewN | apply below_drew1) | exact HB.out))) : w.heap.size ≤ gb438)); have n3_ := Aside0.mk ((by rw [hg]; exact (below_size (by repeat (first | (with_reducible first | exact HB.out | apply below_alloc | apply pw_below_drewN | apply below_drew1) | exact HB.out))) : w.heap.size ≤ gb438)); clear HB; have HB := n0_; have BK438 := n1_; have GW438 := n2_; have GE438 := n3_; clear n0_ n1_ n2_ n3_; clear hb hbox hg; have hcz13_0 : w12.cell? ⟨gb438, 0, none⟩ = some (.int .i64 0) := (blk_cell BK438.out 0).trans rfl; have hcz13_1 : w12.cell? ⟨gb438, 1, none⟩ = some (.int .i64 0) := (blk_cell BK438.out 1).trans rfl; have hcz13_2 : w12.cell? ⟨gb438, 2, none⟩ = some (.slice none 0 0) := (blk_cell BK438.out 2).trans rfl; have hfz13_0 := blk_frozen BK438.out 0; have hfz13_1 := blk_frozen BK438.out 1; have hfz13_2 := blk_frozen BK438.out 2))
    (try simp only [Act.put, Z1, Z2, Z3])
    go_cut [36] (fun v36 wc => ∃ (kq : Nat) (x36_10 : Bool), v36 = .bool x36_10 ∧ Aside0 (impl_seated.j1 kq l0 l1 l2 l3 l1 (l1.length : Int) x20_1 x36_10 ((rd_T46 l1 x20_1).f0) ((rd_T46 l1 x20_1).f1) ((rd_T46 l1 x20_1).f2) = some (r1, r2)) ∧ Aside0 (kq ≤ k1) ∧ Aside0 (wc.heap[gb438]? = some (.cells #[.int .i64 ((rd_T46 l1 x20_1).f0), .int .i64 ((rd_T46 l1 x20_1).f1), (.slice A437_2 ((rd_T46 l1 x20_1).f2).length c437_2)] 46 (0, 0))) ∧ Aside0 (Below w.heap.size w wc))
    case first =>
     have H := HC11.out
     clear HC11
     replace H := Option.bind_eq_some_iff.mp H
     obtain ⟨t439, A140, H⟩ := H
     replace H : (if t439 = true then (impl_seated.j1 k1 l0 l1 l2 l3 l1 (l1.length : Int) x20_1 true ((rd_T46 l1 x20_1).f0) ((rd_T46 l1 x20_1).f1) ((rd_T46 l1 x20_1).f2)) else (if 0 < (l2.length : Int) then ((impl_MayJudge.f k1 l0 ((rd_T46 l1 x20_1).f0) ((rd_T46 l1 x20_1).f1) ((rd_T46 l1 x20_1).f2) ((rd_T48 l2 0).f0) ((rd_T48 l2 0).f1)).bind fun t441 => (impl_seated.j1 k1 l0 l1 l2 l3 l1 (l1.length : Int) x20_1 (!t441) ((rd_T46 l1 x20_1).f0) ((rd_T46 l1 x20_1).f1) ((rd_T46 l1 x20_1).f2))) else (none))) = some (r1, r2) := H
     have A14 := Aside0.mk A140
     clear A140
     by_cases c15 : t439 = true
     rotate_left
     ·
      replace c15 := Bool.eq_false_iff.mpr c15
      subst c15
      have H1 : (if 0 < (l2.length : Int) then ((impl_MayJudge.f k1 l0 ((rd_T46 l1 x20_1).f0) ((rd_T46 l1 x20_1).f1) ((rd_T46 l1 x20_1).f2) ((rd_T48 l2 0).f0) ((rd_T48 l2 0).f1)).bind fun t441 => (impl_seated.j1 k1 l0 l1 l2 l3 l1 (l1.length : Int) x20_1 (!t441) ((rd_T46 l1 x20_1).f0) ((rd_T46 l1 x20_1).f1) ((rd_T46 l1 x20_1).f2))) else (none)) = some (r1, r2) := by rw [if_neg (show ¬ (false = true) by decide)] at H; exact H
      clear H
      have H := H1
      clear H1
      by_cases c18 : 0 < (l2.length : Int)
      rotate_left
      ·
       rw [if_neg c18] at H
       exact absurd H (by simp)
      rw [if_pos c18] at H
      have c18b0 : decide (0 < (l2.length : Int)) = true := decide_eq_true c18
      have c18b1 : decide (0 < l2.length) = true := decide_eq_true (by omega)
      clear c18
      (first | rw [c18b0] | (simp only [i64_w, i32_w]; rw [c18b0]) | skip)
      replace H := Option.bind_eq_some_iff.mp H
      obtain ⟨t441, A190, H⟩ := H
      replace H : (impl_seated.j1 k1 l0 l1 l2 l3 l1 (l1.length : Int) x20_1 (!t441) ((rd_T46 l1 x20_1).f0) ((rd_T46 l1 x20_1).f1) ((rd_T46 l1 x20_1).f2)) = some (r1, r2) := H
      have A19 := Aside0.mk A190
      clear A190
      have H' := Aside0.mk H
      clear H
      try go_wp2
      have n0_ : Aside0 ((((w12.setCell ⟨gb438, 0, none⟩ (.int .i64 ((rd_T46 l1 x20_1).f0))).setCell ⟨gb438, 1, none⟩ (.int .i64 ((rd_T46 l1 x20_1).f1))).setCell ⟨gb438, 2, none⟩ (.slice A437_2 ((rd_T46 l1 x20_1).f2).length c437_2)).heap[gb438]? = some (.cells #[.int .i64 ((rd_T46 l1 x20_1).f0), .int .i64 ((rd_T46 l1 x20_1).f1), .slice A437_2 ((rd_T46 l1 x20_1).f2).length c437_2] 46 (0, 0))) := ⟨by (with_reducible repeat (first | refine blk_drewN ?_ _ | refine blk_drew ?_ | refine blk_alloc ?_ _)); refine blk_put (cs := #[.int .i64 ((rd_T46 l1 x20_1).f0), .int .i64 ((rd_T46 l1 x20_1).f1), .slice none 0 0]) ?_ 2 _ rfl; (with_reducible repeat (first | refine blk_drewN ?_ _ | refine blk_drew ?_ | refine blk_alloc ?_ _)); refine blk_put (cs := #[.int .i64 ((rd_T46 l1 x20_1).f0), .int .i64 0, .slice none 0 0]) ?_ 1 _ rfl; (with_reducible repeat (first | refine blk_drewN ?_ _ | refine blk_drew ?_ | refine blk_alloc ?_ _)); refine blk_put (cs := #[.int .i64 0, .int .i64 0, .slice none 0 0]) ?_ 0 _ rfl; (with_reducible repeat (first | refine blk_drewN ?_ _ | refine blk_drew ?_ | refine blk_alloc ?_ _)); exact BK438.out⟩
      have n1_ : Aside0 (Below w.heap.size w (((w12.setCell ⟨gb438, 0, none⟩ (.int .i64 ((rd_T46 l1 x20_1).f0))).setCell ⟨gb438, 1, none⟩ (.int .i64 ((rd_T46 l1 x20_1).f1))).setCell ⟨gb438, 2, none⟩ (.slice A437_2 ((rd_T46 l1 x20_1).f2).length c437_2))) := ⟨by repeat (first | (with_reducible first | exact HB.out | apply below_alloc | apply pw_below_drewN | apply below_drew1 | refine below_set ?_ GE438.out) | exact HB.out)⟩
      (try clear BK438)
      (try clear HB)
      generalize (((w12.setCell ⟨gb438, 0, none⟩ (.int .i64 ((rd_T46 l1 x20_1).f0))).setCell ⟨gb438, 1, none⟩ (.int .i64 ((rd_T46 l1 x20_1).f1))).setCell ⟨gb438, 2, none⟩ (.slice A437_2 ((rd_T46 l1 x20_1).f2).length c437_2)) = w20 at n0_ n1_ ⊢
      have BK438 := n0_
      have HB := n1_
      clear n0_ n1_
      have n0_ := Aside0.mk (blk_drew BK438.out)
      have n1_ := Aside0.mk (below_drew1 HB.out)
      clear BK438
      clear HB
      have BK438 := n0_
      have HB := n1_
      clear n0_ n1_
      have p440 : 0 ≤ (0 : Int) := (by omega)
      have q440 : 0 < (l2.length : Int) := of_decide_eq_true (by first | (with_reducible assumption) | assumption)
      obtain ⟨ad440, e440, hx440_0, hx440_1⟩ := at_T48 HR2.out 0 p440 q440
      have hw440_1 := hx440_1
      (try rw [show ((0 : Int)).toNat = 0 from rfl] at hw440_1)
      (try rw [show 0 * 2 = 0 from rfl] at hw440_1)
      (try rw [Addr.add_zero'] at hw440_1)
      have hw440_0 := hx440_0
      (try rw [show ((0 : Int)).toNat = 0 from rfl] at hw440_0)
      (try rw [show 0 * 2 = 0 from rfl] at hw440_0)
      (try rw [Addr.add_zero'] at hw440_0)
      cases e440
      have qi440 : (0 < l2.length) = True := eq_true (by omega)
      (try rw [show ((0 : Int)).toNat = 0 from rfl] at hx440_0)
      (try rw [show 0 * 2 = 0 from rfl] at hx440_0)
      (try rw [Addr.add_zero'] at hx440_0)
      (try rw [show ((0 : Int)).toNat = 0 from rfl] at hx440_1)
      (try rw [show 0 * 2 = 0 from rfl] at hx440_1)
      (try rw [Addr.add_zero'] at hx440_1)
      replace hx440_0 := (HB.out.cell (World.block_lt_of_cell? w _ hx440_0)).trans hx440_0
      replace hx440_1 := (HB.out.cell (World.block_lt_of_cell? w _ hx440_1)).trans hx440_1
      replace p440 := eq_true p440
      replace q440 := eq_true q440
      refine start_ (n := 13) (S := fun w' => w'.cell? ⟨gb438, 0, none⟩ = some (.int .i64 ((rd_T46 l1 x20_1).f0)) ∧ w'.cell? ⟨gb438, 1, none⟩ = some (.int .i64 ((rd_T46 l1 x20_1).f1)) ∧ w'.cell? ⟨gb438, 2, none⟩ = some (.slice A437_2 ((rd_T46 l1 x20_1).f2).length c437_2) ∧ w'.cell? ad440 = some (.int .i64 ((rd_T48 l2 0).f0)) ∧ w'.cell? ⟨ad440.block, ad440.off + 1, none⟩ = some (.int .i64 ((rd_T48 l2 0).f1))) (ds := []) (bv 13 0) (by kernel_rfl) rfl rfl ⟨(blk_cell BK438.out 0).trans rfl, (blk_cell BK438.out 1).trans rfl, (blk_cell BK438.out 2).trans rfl, ((HB.out.cell (World.block_lt_of_cell? w _ hw440_0)).trans hw440_0), ((HB.out.cell (World.block_lt_of_cell? w _ hw440_1)).trans hw440_1)⟩ (fun hHeld => ?_); refine with_tabW impl_seated.tab6 impl_seated.bits6 (fun HT_ HW_ => ?_)
      generalize w20.drew = w21 at BK438 HB hx440_0 hx440_1 hHeld ⊢
      refine pv_ 13 0 24 1 rfl rfl HT_ ?_; refine pv_ 13 1 25 3 rfl rfl HT_ ?_
      refine tv_ 13 2 26 7 rfl rfl HT_ HW_ hHeld (by rintro w' ⟨s0, s1, s2, s3, s4⟩; go_simp; with_reducible rfl) ?_
      refine one_ (i := 3) (N := some 27) (bv 13 15) rfl rfl (one_of HT_.out (by kernel_rfl)) (by decide) (fun K hK => ?_)
      refine goes_ Try.func59 (by kernel_rfl) rfl #[.slice A3 l3.length c3, .int .i64 ((rd_T46 l1 x20_1).f0)] (by rfl) rfl rfl (by (try simp only [List.map_toArray, List.map_cons, List.map_nil]); first | done | rfl | (simp only [List.length_drop, List.length_take]; rfl)) ?_
      with_reducible refine (slices_Contains_int_int.calls k1 _ _ l3 ((rd_T46 l1 x20_1).f0) false _ ?side1 ?side2 A14.out).mono ?_
      (case side1 => repeat (first | exact (Kd.C_below HR3.out HB.out) | (with_reducible refine Kd.C_alloc ?_ _) | (with_reducible refine Kd.C_drewN ?_ _) | (with_reducible refine Kd.C_drew ?_)))
      (case side2 => exact HC3.out)
      rintro e w' ⟨rfl, ⟨nd, rfl⟩⟩
      refine ⟨_, rfl, ?_⟩
      refine hK.out _ _ ⟨(blk_cell BK438.out 0).trans rfl, (blk_cell BK438.out 1).trans rfl, (blk_cell BK438.out 2).trans rfl, ((HB.out.cell (World.block_lt_of_cell? w _ hw440_0)).trans hw440_0), ((HB.out.cell (World.block_lt_of_cell? w _ hw440_1)).trans hw440_1)⟩ (fun hHeld => ?_)
      clear hK K
      refine nm_ 27 ?_
      refine pv_ 13 4 28 31 rfl rfl HT_ ?_; refine pv_ 13 5 29 63 rfl rfl HT_ ?_; refine pv_ 13 7 31 191 rfl rfl HT_ ?_; refine pv_ 13 8 32 447 rfl rfl HT_ ?_
      refine tv_ 13 6 30 511 rfl rfl HT_ HW_ hHeld (by rintro w' ⟨s0, s1, s2, s3, s4⟩; go_simp; with_reducible rfl) ?_
      refine tv_ 13 9 33 1023 rfl rfl HT_ HW_ hHeld (by rintro w' ⟨s0, s1, s2, s3, s4⟩; go_simp; with_reducible rfl) ?_
      refine one_ (i := 10) (N := some 34) (bv 13 2047) rfl rfl (one_of HT_.out (by kernel_rfl)) (by decide) (fun K hK => ?_)
      refine goes_ Try.func28 (by kernel_rfl) rfl #[.slice A0 l0.length c0, .agg #[.int .i64 ((rd_T46 l1 x20_1).f0), .int .i64 ((rd_T46 l1 x20_1).f1), .slice A437_2 ((rd_T46 l1 x20_1).f2).length c437_2], .agg #[.int .i64 ((rd_T48 l2 0).f0), .int .i64 ((rd_T48 l2 0).f1)]] (by rfl) rfl rfl (by (try simp only [List.map_toArray, List.map_cons, List.map_nil]); first | done | rfl | (simp only [List.length_drop, List.length_take]; rfl)) ?_
      with_reducible refine (impl_MayJudge.calls k1 _ _ l0 ((rd_T46 l1 x20_1).f0) ((rd_T46 l1 x20_1).f1) _ _ ((rd_T46 l1 x20_1).f2) ((rd_T48 l2 0).f0) ((rd_T48 l2 0).f1) t441 _ ?side1 ?side2 ?side3 ?side4 A19.out).mono ?_
      (case side1 => repeat (first | exact (Kd.C_below HR0.out (by repeat (first | (with_reducible first | exact HB.out | apply below_alloc | apply pw_below_drewN | apply below_drew1 | refine below_set ?_ GE438.out) | exact HB.out))) | (with_reducible refine Kd.C_alloc ?_ _) | (with_reducible refine Kd.C_drewN ?_ _) | (with_reducible refine Kd.C_drew ?_)))
      (case side2 => exact HC0.out)
      (case side3 => repeat (first | exact (Kd.C_below HR437_2.out (by repeat (first | (with_reducible first | exact HB.out | apply below_alloc | apply pw_below_drewN | apply below_drew1 | refine below_set ?_ GE438.out) | exact HB.out))) | (with_reducible refine Kd.C_alloc ?_ _) | (with_reducible refine Kd.C_drewN ?_ _) | (with_reducible refine Kd.C_drew ?_)))
      (case side4 => exact HC437_2.out)
      rintro e w22 ⟨rfl, hb⟩
      refine ⟨_, rfl, ?_⟩
      have n0_ := Aside0.mk (blk_below (g := gb438) (o := .cells #[.int .i64 ((rd_T46 l1 x20_1).f0), .int .i64 ((rd_T46 l1 x20_1).f1), .slice A437_2 ((rd_T46 l1 x20_1).f2).length c437_2] 46 (0, 0)) (by (with_reducible repeat (first | refine blk_drewN ?_ _ | refine blk_drew ?_ | refine blk_alloc ?_ _)); exact BK438.out) hb)
      have n1_ := Aside0.mk (below_step (by repeat (first | (with_reducible first | exact HB.out | apply below_alloc | apply pw_below_drewN | apply below_drew1 | refine below_set ?_ GE438.out) | exact HB.out)) hb)
      clear BK438
      clear HB
      have BK438 := n0_
      have HB := n1_
      clear n0_ n1_
      (try clear hb)
      (try clear hb2)
      (try clear hk)
      (try clear hi)
      refine hK.out _ _ ⟨(blk_cell BK438.out 0).trans rfl, (blk_cell BK438.out 1).trans rfl, (blk_cell BK438.out 2).trans rfl, ((HB.out.cell (World.block_lt_of_cell? w _ hw440_0)).trans hw440_0), ((HB.out.cell (World.block_lt_of_cell? w _ hw440_1)).trans hw440_1)⟩ (fun hHeld => ?_)
      clear hK K
      refine nm_ 34 ?_
      refine pv_ 13 11 35 4095 rfl rfl HT_ ?_; refine pv_ 13 12 36 8191 rfl rfl HT_ ?_
      refine done_ (done_of HT_.out (by kernel_rfl)) ?_
      try go_wp2
      go_meet
      case rel => exact ⟨_, (!t441), (by first | rfl | (simp; done) | (simp [*]; done)), H', ⟨by have := HK1.out; first | omega | exact Nat.le_refl _⟩, ⟨by (with_reducible repeat (first | refine blk_drewN ?_ _ | refine blk_drew ?_ | refine blk_alloc ?_ _)); exact BK438.out⟩, ⟨by repeat (first | (with_reducible first | exact HB.out | apply below_alloc | apply pw_below_drewN | apply below_drew1 | refine below_set ?_ GE438.out) | exact HB.out)⟩⟩
     subst c15
     have H1 : (impl_seated.j1 k1 l0 l1 l2 l3 l1 (l1.length : Int) x20_1 true ((rd_T46 l1 x20_1).f0) ((rd_T46 l1 x20_1).f1) ((rd_T46 l1 x20_1).f2)) = some (r1, r2) := by rw [if_pos rfl] at H; exact H
     clear H
     have H := H1
     clear H1
     have H' := Aside0.mk H
     clear H
     try go_wp2
     have n0_ : Aside0 ((((w12.setCell ⟨gb438, 0, none⟩ (.int .i64 ((rd_T46 l1 x20_1).f0))).setCell ⟨gb438, 1, none⟩ (.int .i64 ((rd_T46 l1 x20_1).f1))).setCell ⟨gb438, 2, none⟩ (.slice A437_2 ((rd_T46 l1 x20_1).f2).length c437_2)).heap[gb438]? = some (.cells #[.int .i64 ((rd_T46 l1 x20_1).f0), .int .i64 ((rd_T46 l1 x20_1).f1), .slice A437_2 ((rd_T46 l1 x20_1).f2).length c437_2] 46 (0, 0))) := ⟨by (with_reducible repeat (first | refine blk_drewN ?_ _ | refine blk_drew ?_ | refine blk_alloc ?_ _)); refine blk_put (cs := #[.int .i64 ((rd_T46 l1 x20_1).f0), .int .i64 ((rd_T46 l1 x20_1).f1), .slice none 0 0]) ?_ 2 _ rfl; (with_reducible repeat (first | refine blk_drewN ?_ _ | refine blk_drew ?_ | refine blk_alloc ?_ _)); refine blk_put (cs := #[.int .i64 ((rd_T46 l1 x20_1).f0), .int .i64 0, .slice none 0 0]) ?_ 1 _ rfl; (with_reducible repeat (first | refine blk_drewN ?_ _ | refine blk_drew ?_ | refine blk_alloc ?_ _)); refine blk_put (cs := #[.int .i64 0, .int .i64 0, .slice none 0 0]) ?_ 0 _ rfl; (with_reducible repeat (first | refine blk_drewN ?_ _ | refine blk_drew ?_ | refine blk_alloc ?_ _)); exact BK438.out⟩
     have n1_ : Aside0 (Below w.heap.size w (((w12.setCell ⟨gb438, 0, none⟩ (.int .i64 ((rd_T46 l1 x20_1).f0))).setCell ⟨gb438, 1, none⟩ (.int .i64 ((rd_T46 l1 x20_1).f1))).setCell ⟨gb438, 2, none⟩ (.slice A437_2 ((rd_T46 l1 x20_1).f2).length c437_2))) := ⟨by repeat (first | (with_reducible first | exact HB.out | apply below_alloc | apply pw_below_drewN | apply below_drew1 | refine below_set ?_ GE438.out) | exact HB.out)⟩
     (try clear BK438)
     (try clear HB)
     generalize (((w12.setCell ⟨gb438, 0, none⟩ (.int .i64 ((rd_T46 l1 x20_1).f0))).setCell ⟨gb438, 1, none⟩ (.int .i64 ((rd_T46 l1 x20_1).f1))).setCell ⟨gb438, 2, none⟩ (.slice A437_2 ((rd_T46 l1 x20_1).f2).length c437_2)) = w16 at n0_ n1_ ⊢
     have BK438 := n0_
     have HB := n1_
     clear n0_ n1_
     have n0_ := Aside0.mk (blk_drew BK438.out)
     have n1_ := Aside0.mk (below_drew1 HB.out)
     clear BK438
     clear HB
     have BK438 := n0_
     have HB := n1_
     clear n0_ n1_
     refine start_ (n := 13) (S := fun w' => w'.cell? ⟨gb438, 0, none⟩ = some (.int .i64 ((rd_T46 l1 x20_1).f0)) ∧ w'.cell? ⟨gb438, 1, none⟩ = some (.int .i64 ((rd_T46 l1 x20_1).f1)) ∧ w'.cell? ⟨gb438, 2, none⟩ = some (.slice A437_2 ((rd_T46 l1 x20_1).f2).length c437_2)) (ds := []) (bv 13 0) (by kernel_rfl) rfl rfl ⟨(blk_cell BK438.out 0).trans rfl, (blk_cell BK438.out 1).trans rfl, (blk_cell BK438.out 2).trans rfl⟩ (fun hHeld => ?_); refine with_tabW impl_seated.tab6 impl_seated.bits6 (fun HT_ HW_ => ?_)
     generalize w16.drew = w17 at BK438 HB hHeld ⊢
     refine pv_ 13 0 24 1 rfl rfl HT_ ?_; refine pv_ 13 1 25 3 rfl rfl HT_ ?_
     refine tv_ 13 2 26 7 rfl rfl HT_ HW_ hHeld (by rintro w' ⟨s0, s1, s2⟩; go_simp; with_reducible rfl) ?_
     refine one_ (i := 3) (N := some 27) (bv 13 15) rfl rfl (one_of HT_.out (by kernel_rfl)) (by decide) (fun K hK => ?_)
     refine goes_ Try.func59 (by kernel_rfl) rfl #[.slice A3 l3.length c3, .int .i64 ((rd_T46 l1 x20_1).f0)] (by rfl) rfl rfl (by (try simp only [List.map_toArray, List.map_cons, List.map_nil]); first | done | rfl | (simp only [List.length_drop, List.length_take]; rfl)) ?_
     with_reducible refine (slices_Contains_int_int.calls k1 _ _ l3 ((rd_T46 l1 x20_1).f0) true _ ?side1 ?side2 A14.out).mono ?_
     (case side1 => repeat (first | exact (Kd.C_below HR3.out HB.out) | (with_reducible refine Kd.C_alloc ?_ _) | (with_reducible refine Kd.C_drewN ?_ _) | (with_reducible refine Kd.C_drew ?_)))
     (case side2 => exact HC3.out)
     rintro e w' ⟨rfl, ⟨nd, rfl⟩⟩
     refine ⟨_, rfl, ?_⟩
     refine hK.out _ _ ⟨(blk_cell BK438.out 0).trans rfl, (blk_cell BK438.out 1).trans rfl, (blk_cell BK438.out 2).trans rfl⟩ (fun hHeld => ?_)
     clear hK K
     refine nm_ 27 ?_
     refine pv_ 13 4 28 31 rfl rfl HT_ ?_; refine pu_ 13 5 29 63 rfl rfl HT_ ?_; refine pu_ 13 6 30 127 rfl rfl HT_ ?_; refine pu_ 13 7 31 255 rfl rfl HT_ ?_; refine pu_ 13 8 32 511 rfl rfl HT_ ?_; refine pu_ 13 9 33 1023 rfl rfl HT_ ?_; refine pu_ 13 10 34 2047 rfl rfl HT_ ?_; refine pu_ 13 11 35 4095 rfl rfl HT_ ?_; refine pv_ 13 12 36 8191 rfl rfl HT_ ?_
     refine done_ (done_of HT_.out (by kernel_rfl)) ?_
     try go_wp2
     go_meet
     case rel => exact ⟨_, (true), (by first | rfl | (simp; done) | (simp [*]; done)), H', ⟨by have := HK1.out; first | omega | exact Nat.le_refl _⟩, ⟨by (with_reducible repeat (first | refine blk_drewN ?_ _ | refine blk_drew ?_ | refine blk_alloc ?_ _)); exact BK438.out⟩, ⟨by repeat (first | (with_reducible first | exact HB.out | apply below_alloc | apply pw_below_drewN | apply below_drew1 | refine below_set ?_ GE438.out) | exact HB.out)⟩⟩
    case rest =>
     clear HC11
     try clear c1
     try clear c2
     try clear p2
     try clear c3
     try clear c4
     try clear p4
     try clear q4
     try clear hx4
     try clear qi4
     try clear c5
     try clear c5b0
     try clear c5b1
     try clear c5b2
     try clear c7
     try clear c8
     try clear c8b0
     try clear c9
     try clear c9b0
     try clear c10
     try clear c10b0
     try clear c15
     try clear c18
     try clear c18b0
     try clear c18b1
     try clear hcz13_0
     try clear hcz13_1
     try clear hcz13_2
     try clear hfz13_0
     try clear hfz13_1
     try clear hfz13_2
     try clear hx437_0
     try clear hx437_1
     try clear hx437_2
     try clear hx440_0
     try clear hx440_1
     try clear p2
     try clear p437
     try clear p440
     try clear q437
     try clear q440
     obtain ⟨kq, x36_10, rfl, HA, HJ10, BK438, HB⟩ := hcut
     cases kq with
     | zero => exact absurd HA.out (by simp [impl_seated.j1])
     | succ kj10 =>
      have H := HA.out
      clear HA
      simp only [impl_seated.j1] at H
      by_cases c23 : x36_10 = true
      rotate_left
      ·
       replace c23 := Bool.eq_false_iff.mpr c23
       subst c23
       have H1 : (if 1 ≤ (l2.length : Int) then ((slices_Clone_int_int.f l3).bind fun t446 => ((some (([((rd_T46 l1 x20_1).f0)] : List Int) : List Int)).bind fun y449 => (if t446.length + y449.length < 17592186044416 then ((impl_seated.f kj10 l0 l1 (l2.drop 1) (t446 ++ y449)).bind fun bt455 => (if bt455.2 = true then ((some (([((rd_T46 l1 x20_1).f0)] : List Int) : List Int)).bind fun y459 => (if y459.length + bt455.1.length < 17592186044416 then (some ((y459 ++ bt455.1), true)) else (none))) else (impl_seated.l0 kj10 l0 l1 l2 l3 l1 (l1.length : Int) (wrap64 (x20_1 + 1))))) else (none)))) else (none)) = some (r1, r2) := by rw [if_neg (show ¬ (false = true) by decide)] at H; exact H
       clear H
       have H := H1
       clear H1
       by_cases c24 : 1 ≤ (l2.length : Int)
       rotate_left
       ·
        rw [if_neg c24] at H
        exact absurd H (by simp)
       rw [if_pos c24] at H
       have c24b0 := eq_true c24
       have c24b1 : decide (1 ≤ (l2.length : Int)) = true := decide_eq_true c24
       clear c24
       obtain ⟨y442, hy442⟩ : ∃ y_ : List (S48), y_ = (l2.drop 1) := ⟨_, rfl⟩
       replace H : ((slices_Clone_int_int.f l3).bind fun t446 => ((some (([((rd_T46 l1 x20_1).f0)] : List Int) : List Int)).bind fun y449 => (if t446.length + y449.length < 17592186044416 then ((impl_seated.f kj10 l0 l1 y442 (t446 ++ y449)).bind fun bt455 => (if bt455.2 = true then ((some (([((rd_T46 l1 x20_1).f0)] : List Int) : List Int)).bind fun y459 => (if y459.length + bt455.1.length < 17592186044416 then (some ((y459 ++ bt455.1), true)) else (none))) else (impl_seated.l0 kj10 l0 l1 l2 l3 l1 (l1.length : Int) (wrap64 (x20_1 + 1))))) else (none)))) = some (r1, r2) := by first | (rw [hy442]; with_reducible exact H) | (have H2_ := (Option.bind_some _ _).symm.trans H; rw [hy442]; with_reducible exact H2_) | (have H2_ := (Option.bind_some _ _).symm.trans H; with_reducible exact H2_) | with_reducible exact H | (rw [hy442]; exact H) | exact H
       have Ny442 := Aside0.mk hy442
       clear hy442
       replace H := Option.bind_eq_some_iff.mp H
       obtain ⟨t446, A250, H⟩ := H
       replace H : ((some (([((rd_T46 l1 x20_1).f0)] : List Int) : List Int)).bind fun y449 => (if t446.length + y449.length < 17592186044416 then ((impl_seated.f kj10 l0 l1 y442 (t446 ++ y449)).bind fun bt455 => (if bt455.2 = true then ((some (([((rd_T46 l1 x20_1).f0)] : List Int) : List Int)).bind fun y459 => (if y459.length + bt455.1.length < 17592186044416 then (some ((y459 ++ bt455.1), true)) else (none))) else (impl_seated.l0 kj10 l0 l1 l2 l3 l1 (l1.length : Int) (wrap64 (x20_1 + 1))))) else (none))) = some (r1, r2) := H
       have A25 := Aside0.mk A250
       clear A250
       obtain ⟨y449, hy449⟩ : ∃ y_ : List Int, y_ = (([((rd_T46 l1 x20_1).f0)] : List Int)) := ⟨_, rfl⟩
       replace H : (if t446.length + y449.length < 17592186044416 then ((impl_seated.f kj10 l0 l1 y442 (t446 ++ y449)).bind fun bt455 => (if bt455.2 = true then ((some (([((rd_T46 l1 x20_1).f0)] : List Int) : List Int)).bind fun y459 => (if y459.length + bt455.1.length < 17592186044416 then (some ((y459 ++ bt455.1), true)) else (none))) else (impl_seated.l0 kj10 l0 l1 l2 l3 l1 (l1.length : Int) (wrap64 (x20_1 + 1))))) else (none)) = some (r1, r2) := by first | (rw [hy449]; with_reducible exact H) | (have H2_ := (Option.bind_some _ _).symm.trans H; rw [hy449]; with_reducible exact H2_) | (have H2_ := (Option.bind_some _ _).symm.trans H; with_reducible exact H2_) | with_reducible exact H | (rw [hy449]; exact H) | exact H
       have Ny449 := Aside0.mk hy449
       clear hy449
       by_cases c26 : t446.length + y449.length < 17592186044416
       rotate_left
       ·
        rw [if_neg c26] at H
        exact absurd H (by simp)
       rw [if_pos c26] at H
       have LMc26 := Aside0.mk c26
       clear c26
       obtain ⟨y452, hy452⟩ : ∃ y_ : List Int, y_ = (t446 ++ y449) := ⟨_, rfl⟩
       replace H : ((impl_seated.f kj10 l0 l1 y442 y452).bind fun bt455 => (if bt455.2 = true then ((some (([((rd_T46 l1 x20_1).f0)] : List Int) : List Int)).bind fun y459 => (if y459.length + bt455.1.length < 17592186044416 then (some ((y459 ++ bt455.1), true)) else (none))) else (impl_seated.l0 kj10 l0 l1 l2 l3 l1 (l1.length : Int) (wrap64 (x20_1 + 1))))) = some (r1, r2) := by first | (rw [hy452]; with_reducible exact H) | (have H2_ := (Option.bind_some _ _).symm.trans H; rw [hy452]; with_reducible exact H2_) | (have H2_ := (Option.bind_some _ _).symm.trans H; with_reducible exact H2_) | with_reducible exact H | (rw [hy452]; exact H) | exact H
       have Ny452 := Aside0.mk hy452
       clear hy452
       replace H := Option.bind_eq_some_iff.mp H
       obtain ⟨⟨t455, t456⟩, A270, H⟩ := H
       replace H : (if t456 = true then ((some (([((rd_T46 l1 x20_1).f0)] : List Int) : List Int)).bind fun y459 => (if y459.length + t455.length < 17592186044416 then (some ((y459 ++ t455), true)) else (none))) else (impl_seated.l0 kj10 l0 l1 l2 l3 l1 (l1.length : Int) (wrap64 (x20_1 + 1)))) = some (r1, r2) := H
       have A27 := Aside0.mk A270
       clear A270
       by_cases c28 : t456 = true
       rotate_left
       ·
        replace c28 := Bool.eq_false_iff.mpr c28
        subst c28
        have H1 : (impl_seated.l0 kj10 l0 l1 l2 l3 l1 (l1.length : Int) (wrap64 (x20_1 + 1))) = some (r1, r2) := by rw [if_neg (show ¬ (false = true) by decide)] at H; exact H
        clear H
        have H := H1
        clear H1
        have H' := Aside0.mk H
        clear H
        try go_wp2
        have n0_ := Aside0.mk (blk_drew BK438.out)
        have n1_ := Aside0.mk (below_drew1 HB.out)
        clear BK438
        clear HB
        have BK438 := n0_
        have HB := n1_
        clear n0_ n1_
        have q46 : (1 : Int) ≤ ((l2.length : Int) : Int) := of_decide_eq_true (by first | (with_reducible assumption) | assumption)
        obtain ⟨i046, hi046, _, hsz46, _⟩ := info_parts info48
        have hroom46 : l2.length ≤ c2 := HC2.out
        have hC46 : Kd.C k48 _ A2 l2.length l2 := HR2.out
        have hcut46 := cut_from (P := Try.prog) 56 48 .i64 Try.underlying56 hi046 2 hsz46 A2 l2.length c2 1 (by omega) q46
        have hr46 := Kd.C_drop (m := (1 : Int).toNat) (c := c2) hC46 (by omega) hroom46
        obtain ⟨A46, hA46⟩ : ∃ A1, A1 = (if c2 = (1 : Int).toNat then A2 else (A2 : Option Addr).map (·.add ((1 : Int).toNat * 2))) := ⟨_, rfl⟩
        obtain ⟨c46, hc46⟩ : ∃ c_, c_ = c2 - (1 : Int).toNat := ⟨_, rfl⟩
        have hy46 : y442.length = l2.length - (1 : Int).toNat := (by rw [Ny442.out, List.length_drop] <;> omega)
        rw [show (l2).drop (1 : Int).toNat = y442 from Ny442.out.symm] at hr46
        replace hr46 : Kd.C k48 _ A46 y442.length y442 := (by rw [hA46]; exact hr46)
        rw [← hy46, ← hA46, ← hc46] at hcut46
        have HR445 := Aside0.mk hr46
        have HC445 := Aside0.mk (show y442.length ≤ c46 from by rw [hy46, hc46]; exact Nat.sub_le_sub_right hroom46 _)
        clear hr46 hC46 hroom46 hi046 hsz46 hc46
        have KY46 := Aside0.mk hy46
        have KA46 := Aside0.mk hA46
        clear hy46 hA46
        replace q46 := eq_true q46
        refine start_ (n := 16) (S := fun w' => w'.cell? ⟨gb438, 0, none⟩ = some (.int .i64 ((rd_T46 l1 x20_1).f0)) ∧ w'.cell? ⟨gb438, 1, none⟩ = some (.int .i64 ((rd_T46 l1 x20_1).f1)) ∧ w'.cell? ⟨gb438, 2, none⟩ = some (.slice A437_2 ((rd_T46 l1 x20_1).f2).length c437_2)) (ds := []) (bv 16 0) (by kernel_rfl) rfl rfl ⟨(blk_cell BK438.out 0).trans rfl, (blk_cell BK438.out 1).trans rfl, (blk_cell BK438.out 2).trans rfl⟩ (fun hHeld => ?_); refine with_tabW impl_seated.tab7 impl_seated.bits7 (fun HT_ HW_ => ?_)
        generalize wc.drew = w45 at BK438 HB HR445 hHeld ⊢
        refine pv_ 16 0 38 1 rfl rfl HT_ ?_; refine pv_ 16 1 39 3 rfl rfl HT_ ?_; refine pv_ 16 2 40 7 rfl rfl HT_ ?_; refine pv_ 16 3 41 15 rfl rfl HT_ ?_; refine pv_ 16 4 42 31 rfl rfl HT_ ?_; refine pv_ 16 6 44 95 rfl rfl HT_ ?_
        refine tv_ 16 7 45 223 rfl rfl HT_ HW_ hHeld (by rintro w' ⟨s0, s1, s2⟩; go_simp; with_reducible rfl) ?_
        refine join_ (σ := Value × Value) 7 (bv 16 511) (fun s_ => [(43, s_.1), (46, s_.2)]) (fun s_ w' => (w'.cell? ⟨gb438, 0, none⟩ = some (.int .i64 ((rd_T46 l1 x20_1).f0)) ∧ w'.cell? ⟨gb438, 1, none⟩ = some (.int .i64 ((rd_T46 l1 x20_1).f1)) ∧ w'.cell? ⟨gb438, 2, none⟩ = some (.slice A437_2 ((rd_T46 l1 x20_1).f2).length c437_2)) ∧ (Kd.R (Kd.int .i64) 3 w' w.heap.size (fun k_ => some k_ ≠ (s_.2 : Value).ownBlock) s_.1 t446) ∧ (Kd.R (Kd.int .i64) 3 w' w.heap.size (fun k_ => some k_ ≠ (s_.1 : Value).ownBlock) s_.2 y449) ∧ (w'.heap[gb438]? = some (.cells #[.int .i64 ((rd_T46 l1 x20_1).f0), .int .i64 ((rd_T46 l1 x20_1).f1), .slice A437_2 ((rd_T46 l1 x20_1).f2).length c437_2] 46 (0, 0))) ∧ (Below w.heap.size w w')) ?_ ?_
        rotate_left
        ·
         intro hCont
         refine two_ (i := 5) (j := 8) (Ni := some 43) (Nj := some 46) (bv 16 255) (bv 16 479) rfl rfl rfl rfl (two_of HT_.out (by kernel_rfl)) (by decide) (by decide) (fun K hK => ?_) (fun K hK => ?_)
         ·
          skip
          refine goes_ Try.func90 (by kernel_rfl) rfl #[.slice A3 l3.length c3] (by rfl) rfl rfl (by (try simp only [List.map_toArray, List.map_cons, List.map_nil]); first | done | rfl | (simp only [List.length_drop, List.length_take]; rfl)) ?_
          with_reducible refine (slices_Clone_int_int.calls _ _ l3 t446 _ ?side1 ?side2 A25.out).mono ?_
          (case side1 => repeat (first | exact (Kd.C_below HR3.out HB.out) | (with_reducible refine Kd.C_alloc ?_ _) | (with_reducible refine Kd.C_drewN ?_ _) | (with_reducible refine Kd.C_drew ?_)))
          (case side2 => exact HC3.out)
          rintro e w47 ⟨v447, rfl, ho0, hb⟩
          refine ⟨_, rfl, ?_⟩
          have n0_ := Aside0.mk (Kd.R_lower ho0 (below_size (by repeat (first | (with_reducible first | exact HB.out | apply below_alloc | apply pw_below_drewN | apply below_drew1 | refine below_set ?_ GE438.out) | exact HB.out))))
          have n1_ := Aside0.mk (blk_below (g := gb438) (o := .cells #[.int .i64 ((rd_T46 l1 x20_1).f0), .int .i64 ((rd_T46 l1 x20_1).f1), .slice A437_2 ((rd_T46 l1 x20_1).f2).length c437_2] 46 (0, 0)) (by (with_reducible repeat (first | refine blk_drewN ?_ _ | refine blk_drew ?_ | refine blk_alloc ?_ _)); exact BK438.out) hb)
          have n2_ := Aside0.mk (below_step (by repeat (first | (with_reducible first | exact HB.out | apply below_alloc | apply pw_below_drewN | apply below_drew1 | refine below_set ?_ GE438.out) | exact HB.out)) hb)
          clear BK438
          clear HB
          have HO448 := n0_
          have BK438 := n1_
          have HB := n2_
          clear n0_ n1_ n2_
          (try clear hb)
          (try clear hb2)
          (try clear hk)
          (try clear hi)
          (try clear ho0)
          refine hK.out _ _ ⟨(blk_cell BK438.out 0).trans rfl, (blk_cell BK438.out 1).trans rfl, (blk_cell BK438.out 2).trans rfl⟩ (fun hHeld => ?_)
          clear hK K
          refine nm_ 43 ?_
          refine one_ (i := 8) (N := some 46) (bv 16 511) rfl rfl (one_of HT_.out (by kernel_rfl)) (by decide) (fun K hK => ?_)
          refine Kd.R_lit_step (Kd.int .i64) _ 3 ?hg (N := 46) ?hd (xs := ([((rd_T46 l1 x20_1).f0)] : List Int)) (inner := [.int .i64 ((rd_T46 l1 x20_1).f0)]) (ok := fun _ => True) (okp := fun _ => True) ?hr ?hp (fun _ hk => hk) trivial (Below.refl _ _) (Nat.le_refl _) (by simp) ?_; (case hd => rfl); (case hg => rfl); (case hr => first | (go_simp; done) | (go_simp; rfl)); (case hp => exact (Reps.one (show Kd.M (Kd.int .i64) _ _ _ ((rd_T46 l1 x20_1).f0) [.int .i64 ((rd_T46 l1 x20_1).f0)] from rfl) (Reps.none _ _)))
          intro v450 w48 ho49 hb hg_ hnew_
          clear hg_ hnew_
          (first | rw [← Ny449.out] at ho49 | (simp only [Int.reduceToNat] at ho49; rw [← Ny449.out] at ho49))
          have n0_ := Aside0.mk (Kd.R_elder' (by (with_reducible repeat (first | apply Kd.R_alloc | apply Kd.R_drewN | apply Kd.R_drew)); exact HO448.out) (Kd.R_base ho49) hb)
          have n1_ := Aside0.mk (Kd.R_lower (Kd.R_new' ho49 (Kd.R_lt (by (with_reducible repeat (first | apply Kd.R_alloc | apply Kd.R_drewN | apply Kd.R_drew)); exact HO448.out))) (below_size (by repeat (first | (with_reducible first | exact HB.out | apply below_alloc | apply pw_below_drewN | apply below_drew1 | refine below_set ?_ GE438.out) | exact HB.out))))
          have n2_ := Aside0.mk (blk_below (g := gb438) (o := .cells #[.int .i64 ((rd_T46 l1 x20_1).f0), .int .i64 ((rd_T46 l1 x20_1).f1), .slice A437_2 ((rd_T46 l1 x20_1).f2).length c437_2] 46 (0, 0)) (by (with_reducible repeat (first | refine blk_drewN ?_ _ | refine blk_drew ?_ | refine blk_alloc ?_ _)); exact BK438.out) hb)
          have n3_ := Aside0.mk (below_step (by repeat (first | (with_reducible first | exact HB.out | apply below_alloc | apply pw_below_drewN | apply below_drew1 | refine below_set ?_ GE438.out) | exact HB.out)) hb)
          clear HO448
          clear BK438
          clear HB
          have HO448 := n0_
          have HO451 := n1_
          have BK438 := n2_
          have HB := n3_
          clear n0_ n1_ n2_ n3_
          clear hb ho49
          refine hK.out _ _ ⟨(blk_cell BK438.out 0).trans rfl, (blk_cell BK438.out 1).trans rfl, (blk_cell BK438.out 2).trans rfl⟩ (fun hHeld => ?_)
          clear hK K
          refine nm_ 46 ?_
          exact norm_ (by simp only [putAll, Act.put, Z1, Z2, Z3]) (hCont (v447, v450) _ ⟨hHeld, (by (with_reducible repeat (first | apply Kd.R_alloc | apply Kd.R_drewN | apply Kd.R_drew)); exact Kd.R_mono HO448.out (fun _ hk => hk.2)), (by (with_reducible repeat (first | apply Kd.R_alloc | apply Kd.R_drewN | apply Kd.R_drew)); exact Kd.R_mono HO451.out (fun _ hk => hk.2)), (by (with_reducible repeat (first | refine blk_drewN ?_ _ | refine blk_drew ?_ | refine blk_alloc ?_ _)); exact BK438.out), (by repeat (first | (with_reducible first | exact HB.out | apply below_alloc | apply pw_below_drewN | apply below_drew1 | refine below_set ?_ GE438.out) | exact HB.out))⟩)
         ·
          skip
          refine Kd.R_lit_step (Kd.int .i64) _ 3 ?hg (N := 46) ?hd (xs := ([((rd_T46 l1 x20_1).f0)] : List Int)) (inner := [.int .i64 ((rd_T46 l1 x20_1).f0)]) (ok := fun _ => True) (okp := fun _ => True) ?hr ?hp (fun _ hk => hk) trivial (Below.refl _ _) (Nat.le_refl _) (by simp) ?_; (case hd => rfl); (case hg => rfl); (case hr => first | (go_simp; done) | (go_simp; rfl)); (case hp => exact (Reps.one (show Kd.M (Kd.int .i64) _ _ _ ((rd_T46 l1 x20_1).f0) [.int .i64 ((rd_T46 l1 x20_1).f0)] from rfl) (Reps.none _ _)))
          intro v450 w47 ho48 hb hg_ hnew_
          clear hg_ hnew_
          (first | rw [← Ny449.out] at ho48 | (simp only [Int.reduceToNat] at ho48; rw [← Ny449.out] at ho48))
          have n0_ := Aside0.mk (Kd.R_lower ho48 (below_size (by repeat (first | (with_reducible first | exact HB.out | apply below_alloc | apply pw_below_drewN | apply below_drew1 | refine below_set ?_ GE438.out) | exact HB.out))))
          have n1_ := Aside0.mk (blk_below (g := gb438) (o := .cells #[.int .i64 ((rd_T46 l1 x20_1).f0), .int .i64 ((rd_T46 l1 x20_1).f1), .slice A437_2 ((rd_T46 l1 x20_1).f2).length c437_2] 46 (0, 0)) (by (with_reducible repeat (first | refine blk_drewN ?_ _ | refine blk_drew ?_ | refine blk_alloc ?_ _)); exact BK438.out) hb)
          have n2_ := Aside0.mk (below_step (by repeat (first | (with_reducible first | exact HB.out | apply below_alloc | apply pw_below_drewN | apply below_drew1 | refine below_set ?_ GE438.out) | exact HB.out)) hb)
          clear BK438
          clear HB
          have HO451 := n0_
          have BK438 := n1_
          have HB := n2_
          clear n0_ n1_ n2_
          clear hb ho48
          refine hK.out _ _ ⟨(blk_cell BK438.out 0).trans rfl, (blk_cell BK438.out 1).trans rfl, (blk_cell BK438.out 2).trans rfl⟩ (fun hHeld => ?_)
          clear hK K
          refine nm_ 46 ?_
          refine one_ (i := 5) (N := some 43) (bv 16 511) rfl rfl (one_of HT_.out (by kernel_rfl)) (by decide) (fun K hK => ?_)
          refine goes_ Try.func90 (by kernel_rfl) rfl #[.slice A3 l3.length c3] (by rfl) rfl rfl (by (try simp only [List.map_toArray, List.map_cons, List.map_nil]); first | done | rfl | (simp only [List.length_drop, List.length_take]; rfl)) ?_
          with_reducible refine (slices_Clone_int_int.calls _ _ l3 t446 _ ?side1 ?side2 A25.out).mono ?_
          (case side1 => repeat (first | exact (Kd.C_below HR3.out HB.out) | (with_reducible refine Kd.C_alloc ?_ _) | (with_reducible refine Kd.C_drewN ?_ _) | (with_reducible refine Kd.C_drew ?_)))
          (case side2 => exact HC3.out)
          rintro e w49 ⟨v447, rfl, ho0, hb⟩
          refine ⟨_, rfl, ?_⟩
          have n0_ := Aside0.mk (Kd.R_elder' (by (with_reducible repeat (first | apply Kd.R_alloc | apply Kd.R_drewN | apply Kd.R_drew)); exact HO451.out) (Kd.R_base ho0) hb)
          have n1_ := Aside0.mk (Kd.R_lower (Kd.R_new' ho0 (Kd.R_lt (by (with_reducible repeat (first | apply Kd.R_alloc | apply Kd.R_drewN | apply Kd.R_drew)); exact HO451.out))) (below_size (by repeat (first | (with_reducible first | exact HB.out | apply below_alloc | apply pw_below_drewN | apply below_drew1 | refine below_set ?_ GE438.out) | exact HB.out))))
          have n2_ := Aside0.mk (blk_below (g := gb438) (o := .cells #[.int .i64 ((rd_T46 l1 x20_1).f0), .int .i64 ((rd_T46 l1 x20_1).f1), .slice A437_2 ((rd_T46 l1 x20_1).f2).length c437_2] 46 (0, 0)) (by (with_reducible repeat (first | refine blk_drewN ?_ _ | refine blk_drew ?_ | refine blk_alloc ?_ _)); exact BK438.out) hb)
          have n3_ := Aside0.mk (below_step (by repeat (first | (with_reducible first | exact HB.out | apply below_alloc | apply pw_below_drewN | apply below_drew1 | refine below_set ?_ GE438.out) | exact HB.out)) hb)
          clear HO451
          clear BK438
          clear HB
          have HO451 := n0_
          have HO448 := n1_
          have BK438 := n2_
          have HB := n3_
          clear n0_ n1_ n2_ n3_
          (try clear hb)
          (try clear hb2)
          (try clear hk)
          (try clear hi)
          (try clear ho0)
          refine hK.out _ _ ⟨(blk_cell BK438.out 0).trans rfl, (blk_cell BK438.out 1).trans rfl, (blk_cell BK438.out 2).trans rfl⟩ (fun hHeld => ?_)
          clear hK K
          refine nm_ 43 ?_
          exact norm_ (by simp only [putAll, Act.put, Z1, Z2, Z3]) (hCont (v447, v450) _ ⟨hHeld, (by (with_reducible repeat (first | apply Kd.R_alloc | apply Kd.R_drewN | apply Kd.R_drew)); exact Kd.R_mono HO448.out (fun _ hk => hk.2)), (by (with_reducible repeat (first | apply Kd.R_alloc | apply Kd.R_drewN | apply Kd.R_drew)); exact Kd.R_mono HO451.out (fun _ hk => hk.2)), (by (with_reducible repeat (first | refine blk_drewN ?_ _ | refine blk_drew ?_ | refine blk_alloc ?_ _)); exact BK438.out), (by repeat (first | (with_reducible first | exact HB.out | apply below_alloc | apply pw_below_drewN | apply below_drew1 | refine below_set ?_ GE438.out) | exact HB.out))⟩)
        rintro ⟨v447, v450⟩ w50 ⟨hS_, h0_, h1_, h2_, h3_⟩
        have n0_ : Aside0 (Kd.R (Kd.int .i64) 3 w50 w.heap.size (fun k_ => some k_ ≠ (v450 : Value).ownBlock) v447 t446) := ⟨h0_⟩
        have n1_ : Aside0 (Kd.R (Kd.int .i64) 3 w50 w.heap.size (fun k_ => some k_ ≠ (v447 : Value).ownBlock) v450 y449) := ⟨h1_⟩
        have n2_ : Aside0 (w50.heap[gb438]? = some (.cells #[.int .i64 ((rd_T46 l1 x20_1).f0), .int .i64 ((rd_T46 l1 x20_1).f1), .slice A437_2 ((rd_T46 l1 x20_1).f2).length c437_2] 46 (0, 0))) := ⟨h2_⟩
        have n3_ : Aside0 (Below w.heap.size w w50) := ⟨h3_⟩
        clear BK438
        clear HB
        clear h0_ h1_ h2_ h3_
        have HO448 := n0_
        have HO451 := n1_
        have BK438 := n2_
        have HB := n3_
        clear n0_ n1_ n2_ n3_
        have hHeld : w50.cell? ⟨gb438, 0, none⟩ = some (.int .i64 ((rd_T46 l1 x20_1).f0)) ∧ w50.cell? ⟨gb438, 1, none⟩ = some (.int .i64 ((rd_T46 l1 x20_1).f1)) ∧ w50.cell? ⟨gb438, 2, none⟩ = some (.slice A437_2 ((rd_T46 l1 x20_1).f2).length c437_2) := hS_
        obtain ⟨Ao52, co52, eo52⟩ := Kd.R_slice HO451.out
        (first | subst eo52 | (injection eo52 with f1_ f2_ f3_; have f4_ := f1_.symm; have f5_ := f3_.symm; clear f1_ f2_ f3_; subst f4_; subst f5_))
        refine norm_ (a' := ?_) ?_ ?_
        rotate_left
        ·
         simp only [putAll, Act.put, Z1, Z2, Z3]
         rfl
        refine one_ (i := 9) (N := some 47) (bv 16 1023) rfl rfl (one_of HT_.out (by kernel_rfl)) (by decide) (fun K hK => ?_)
        refine Kd.R_append_rows_step (Kd.int .i64) (w0 := w) w.heap.size (by rfl) (.tmp 43) (.tmp 46) 29 3 (.int .i64 0) 8 rfl Try.underlying29 info3 rfl (by decide) (by omega) v447 t446 y449 _ _ _ (fun k_ => some k_ ≠ (.slice Ao52 y449.length co52 : Value).ownBlock) (fun _ => False) rfl rfl ?aO ?aR (fun _ _ h => h) (fun _ h => h.elim) ?aF ?aB ?aS ?aL ?_
        (case aR => repeat (first | exact (Kd.R_reads' HO451.out).2.2 | (with_reducible refine Kd.C_alloc ?_ _) | (with_reducible refine Kd.C_drewN ?_ _) | (with_reducible refine Kd.C_drew ?_)))
        (case aB => exact (by repeat (first | (with_reducible first | exact HB.out | apply below_alloc | apply pw_below_drewN | apply below_drew1 | refine below_set ?_ GE438.out) | exact HB.out)))
        (case aF => exact (fun k_ hk => Kd.fresh' (Kd.R_lt (by (with_reducible repeat (first | apply Kd.R_alloc | apply Kd.R_drewN | apply Kd.R_drew)); exact HO451.out)) k_ hk))
        (case aO => exact (by (with_reducible repeat (first | apply Kd.R_alloc | apply Kd.R_drewN | apply Kd.R_drew)); exact HO448.out))
        (case aS => exact (below_size (by repeat (first | (with_reducible first | exact HB.out | apply below_alloc | apply pw_below_drewN | apply below_drew1 | refine below_set ?_ GE438.out) | exact HB.out))))
        (case aL => have := LMc26.out; omega)
        intro v453 w51 ho hb hg hat
        rw [← Ny452.out] at ho
        have n0_ := Aside0.mk (blk_grown (g := gb438) (o := .cells #[.int .i64 ((rd_T46 l1 x20_1).f0), .int .i64 ((rd_T46 l1 x20_1).f1), .slice A437_2 ((rd_T46 l1 x20_1).f2).length c437_2] 46 (0, 0)) (by (with_reducible repeat (first | refine blk_drewN ?_ _ | refine blk_drew ?_ | refine blk_alloc ?_ _)); exact BK438.out) hg (Kd.R_ne HO448.out BK438.out (by decide)))
        have n1_ := Aside0.mk (Kd.R_after (ok := (fun _ => True)) (by (with_reducible repeat (first | apply Kd.R_alloc | apply Kd.R_drewN | apply Kd.R_drew)); exact Kd.R_mono HO451.out (fun _ hk => ⟨trivial, hk⟩)) hg hat)
        have n2_ := Aside0.mk (hb)
        have n3_ := Aside0.mk (ho)
        clear BK438
        clear HO451
        clear HB
        clear HO448
        have BK438 := n0_
        have HO451 := n1_
        have HB := n2_
        have HO454 := n3_
        clear n0_ n1_ n2_ n3_
        clear ho hb hg hat
        obtain ⟨Ao53, co53, eo53⟩ := Kd.R_slice HO454.out
        (first | subst eo53 | (injection eo53 with f1_ f2_ f3_; have f4_ := f1_.symm; have f5_ := f3_.symm; clear f1_ f2_ f3_; subst f4_; subst f5_))
        refine hK.out _ _ ⟨(blk_cell BK438.out 0).trans rfl, (blk_cell BK438.out 1).trans rfl, (blk_cell BK438.out 2).trans rfl⟩ (fun hHeld => ?_)
        clear hK K
        refine nm_ 47 ?_
        refine one_ (i := 10) (N := some 48) (bv 16 2047) rfl rfl (one_of HT_.out (by kernel_rfl)) (by decide) (fun K hK => ?_)
        refine goes_ Try.func71 (by kernel_rfl) rfl #[.slice A0 l0.length c0, .slice (some ad437) l1.length c1, .slice A46 y442.length c46, .slice Ao53 y452.length co53] (by rfl) rfl rfl (by (try simp only [List.map_toArray, List.map_cons, List.map_nil]); first | done | rfl | (simp only [List.length_drop, List.length_take]; rfl)) ?_
        with_reducible refine (ih kj10 (by have := HK1.out; have := HJ10.out; omega) _ _ l0 _ _ l1 _ _ y442 _ _ y452 t455 false _ ?side1 ?side2 ?side3 ?side4 ?side5 ?side6 ?side7 ?side8 A27.out).mono ?_
        (case side1 => repeat (first | exact (Kd.C_below HR0.out HB.out) | (with_reducible refine Kd.C_alloc ?_ _) | (with_reducible refine Kd.C_drewN ?_ _) | (with_reducible refine Kd.C_drew ?_)))
        (case side2 => exact HC0.out)
        (case side3 => repeat (first | exact (Kd.C_below HR1.out HB.out) | (with_reducible refine Kd.C_alloc ?_ _) | (with_reducible refine Kd.C_drewN ?_ _) | (with_reducible refine Kd.C_drew ?_)))
        (case side4 => exact HC1.out)
        (case side5 => repeat (first | exact (Kd.C_below HR445.out HB.out) | (with_reducible refine Kd.C_alloc ?_ _) | (with_reducible refine Kd.C_drewN ?_ _) | (with_reducible refine Kd.C_drew ?_)))
        (case side6 => exact HC445.out)
        (case side7 => repeat (first | exact (Kd.R_reads' HO454.out).2.2 | (with_reducible refine Kd.C_alloc ?_ _) | (with_reducible refine Kd.C_drewN ?_ _) | (with_reducible refine Kd.C_drew ?_)))
        (case side8 => exact (Kd.R_reads' HO454.out).2.1)
        rintro e w54 ⟨v457, rfl, ho0, hb⟩
        refine ⟨_, rfl, ?_⟩
        have n0_ := Aside0.mk (Kd.R_elder' (by (with_reducible repeat (first | apply Kd.R_alloc | apply Kd.R_drewN | apply Kd.R_drew)); exact HO451.out) (Kd.R_base ho0) hb)
        have n1_ := Aside0.mk (Kd.R_elder' (by (with_reducible repeat (first | apply Kd.R_alloc | apply Kd.R_drewN | apply Kd.R_drew)); exact HO454.out) (Kd.R_base ho0) hb)
        have n2_ := Aside0.mk (Kd.R_lower (Kd.R_new' (Kd.R_new' ho0 (Kd.R_lt (by (with_reducible repeat (first | apply Kd.R_alloc | apply Kd.R_drewN | apply Kd.R_drew)); exact HO451.out))) (Kd.R_lt (by (with_reducible repeat (first | apply Kd.R_alloc | apply Kd.R_drewN | apply Kd.R_drew)); exact HO454.out))) (below_size (by repeat (first | (with_reducible first | exact HB.out | apply below_alloc | apply pw_below_drewN | apply below_drew1 | refine below_set ?_ GE438.out) | exact HB.out))))
        have n3_ := Aside0.mk (blk_below (g := gb438) (o := .cells #[.int .i64 ((rd_T46 l1 x20_1).f0), .int .i64 ((rd_T46 l1 x20_1).f1), .slice A437_2 ((rd_T46 l1 x20_1).f2).length c437_2] 46 (0, 0)) (by (with_reducible repeat (first | refine blk_drewN ?_ _ | refine blk_drew ?_ | refine blk_alloc ?_ _)); exact BK438.out) hb)
        have n4_ := Aside0.mk (below_step (by repeat (first | (with_reducible first | exact HB.out | apply below_alloc | apply pw_below_drewN | apply below_drew1 | refine below_set ?_ GE438.out) | exact HB.out)) hb)
        clear HO451
        clear HO454
        clear BK438
        clear HB
        have HO451 := n0_
        have HO454 := n1_
        have HO458 := n2_
        have BK438 := n3_
        have HB := n4_
        clear n0_ n1_ n2_ n3_ n4_
        (try clear hb)
        (try clear hb2)
        (try clear hk)
        (try clear hi)
        (try clear ho0)
        refine hK.out _ _ ⟨(blk_cell BK438.out 0).trans rfl, (blk_cell BK438.out 1).trans rfl, (blk_cell BK438.out 2).trans rfl⟩ (fun hHeld => ?_)
        clear hK K
        refine nm_ 48 ?_
        refine pv_ 16 11 37 4095 rfl rfl HT_ ?_; refine pv_ 16 12 49 8191 rfl rfl HT_ ?_; refine pv_ 16 13 50 16383 rfl rfl HT_ ?_; refine pv_ 16 14 12 32767 rfl rfl HT_ ?_; refine pv_ 16 15 13 65535 rfl rfl HT_ ?_
        refine done_ (done_of HT_.out (by kernel_rfl)) ?_
        try go_wp2
        go_roundg kj10
        case measure => have := HK1.out; have := HJ10.out; omega
        case rel => exact ⟨(wrap64 (x20_1 + 1)), (by first | rfl | (simp; done) | (simp [*]; done)), H', ⟨by have := HK1.out; have := HJ10.out; omega⟩, ⟨by repeat (first | (with_reducible first | exact HB.out | apply below_alloc | apply pw_below_drewN | apply below_drew1 | refine below_set ?_ GE438.out) | exact HB.out)⟩⟩
       subst c28
       have H1 : ((some (([((rd_T46 l1 x20_1).f0)] : List Int) : List Int)).bind fun y459 => (if y459.length + t455.length < 17592186044416 then (some ((y459 ++ t455), true)) else (none))) = some (r1, r2) := by rw [if_pos rfl] at H; exact H
       clear H
       have H := H1
       clear H1
       obtain ⟨y459, hy459⟩ : ∃ y_ : List Int, y_ = (([((rd_T46 l1 x20_1).f0)] : List Int)) := ⟨_, rfl⟩
       replace H : (if y459.length + t455.length < 17592186044416 then (some ((y459 ++ t455), true)) else (none)) = some (r1, r2) := by first | (rw [hy459]; with_reducible exact H) | (have H2_ := (Option.bind_some _ _).symm.trans H; rw [hy459]; with_reducible exact H2_) | (have H2_ := (Option.bind_some _ _).symm.trans H; with_reducible exact H2_) | with_reducible exact H | (rw [hy459]; exact H) | exact H
       have Ny459 := Aside0.mk hy459
       clear hy459
       by_cases c29 : y459.length + t455.length < 17592186044416
       rotate_left
       ·
        rw [if_neg c29] at H
        exact absurd H (by simp)
       rw [if_pos c29] at H
       have LMc29 := Aside0.mk c29
       clear c29
       obtain ⟨y462, hy462⟩ : ∃ y_ : List Int, y_ = (y459 ++ t455) := ⟨_, rfl⟩
       replace H : (some (y462, true)) = some (r1, r2) := by first | (rw [hy462]; with_reducible exact H) | (have H2_ := (Option.bind_some _ _).symm.trans H; rw [hy462]; with_reducible exact H2_) | (have H2_ := (Option.bind_some _ _).symm.trans H; with_reducible exact H2_) | with_reducible exact H | (rw [hy462]; exact H) | exact H
       have Ny462 := Aside0.mk hy462
       clear hy462
       simp only [Option.some.injEq, Prod.mk.injEq] at H
       obtain ⟨rfl, rfl⟩ := H
       try go_wp2
       have n0_ := Aside0.mk (blk_drew BK438.out)
       have n1_ := Aside0.mk (below_drew1 HB.out)
       clear BK438
       clear HB
       have BK438 := n0_
       have HB := n1_
       clear n0_ n1_
       have q31 : (1 : Int) ≤ ((l2.length : Int) : Int) := of_decide_eq_true (by first | (with_reducible assumption) | assumption)
       obtain ⟨i031, hi031, _, hsz31, _⟩ := info_parts info48
       have hroom31 : l2.length ≤ c2 := HC2.out
       have hC31 : Kd.C k48 _ A2 l2.length l2 := HR2.out
       have hcut31 := cut_from (P := Try.prog) 56 48 .i64 Try.underlying56 hi031 2 hsz31 A2 l2.length c2 1 (by omega) q31
       have hr31 := Kd.C_drop (m := (1 : Int).toNat) (c := c2) hC31 (by omega) hroom31
       obtain ⟨A31, hA31⟩ : ∃ A1, A1 = (if c2 = (1 : Int).toNat then A2 else (A2 : Option Addr).map (·.add ((1 : Int).toNat * 2))) := ⟨_, rfl⟩
       obtain ⟨c31, hc31⟩ : ∃ c_, c_ = c2 - (1 : Int).toNat := ⟨_, rfl⟩
       have hy31 : y442.length = l2.length - (1 : Int).toNat := (by rw [Ny442.out, List.length_drop] <;> omega)
       rw [show (l2).drop (1 : Int).toNat = y442 from Ny442.out.symm] at hr31
       replace hr31 : Kd.C k48 _ A31 y442.length y442 := (by rw [hA31]; exact hr31)
       rw [← hy31, ← hA31, ← hc31] at hcut31
       have HR445 := Aside0.mk hr31
       have HC445 := Aside0.mk (show y442.length ≤ c31 from by rw [hy31, hc31]; exact Nat.sub_le_sub_right hroom31 _)
       clear hr31 hC31 hroom31 hi031 hsz31 hc31
       have KY31 := Aside0.mk hy31
       have KA31 := Aside0.mk hA31
       clear hy31 hA31
       replace q31 := eq_true q31
       refine start_ (n := 16) (S := fun w' => w'.cell? ⟨gb438, 0, none⟩ = some (.int .i64 ((rd_T46 l1 x20_1).f0)) ∧ w'.cell? ⟨gb438, 1, none⟩ = some (.int .i64 ((rd_T46 l1 x20_1).f1)) ∧ w'.cell? ⟨gb438, 2, none⟩ = some (.slice A437_2 ((rd_T46 l1 x20_1).f2).length c437_2)) (ds := []) (bv 16 0) (by kernel_rfl) rfl rfl ⟨(blk_cell BK438.out 0).trans rfl, (blk_cell BK438.out 1).trans rfl, (blk_cell BK438.out 2).trans rfl⟩ (fun hHeld => ?_); refine with_tabW impl_seated.tab7 impl_seated.bits7 (fun HT_ HW_ => ?_)
       generalize wc.drew = w30 at BK438 HB HR445 hHeld ⊢
       refine pv_ 16 0 38 1 rfl rfl HT_ ?_; refine pv_ 16 1 39 3 rfl rfl HT_ ?_; refine pv_ 16 2 40 7 rfl rfl HT_ ?_; refine pv_ 16 3 41 15 rfl rfl HT_ ?_; refine pv_ 16 4 42 31 rfl rfl HT_ ?_; refine pv_ 16 6 44 95 rfl rfl HT_ ?_
       refine tv_ 16 7 45 223 rfl rfl HT_ HW_ hHeld (by rintro w' ⟨s0, s1, s2⟩; go_simp; with_reducible rfl) ?_
       refine join_ (σ := Value × Value) 7 (bv 16 511) (fun s_ => [(43, s_.1), (46, s_.2)]) (fun s_ w' => (w'.cell? ⟨gb438, 0, none⟩ = some (.int .i64 ((rd_T46 l1 x20_1).f0)) ∧ w'.cell? ⟨gb438, 1, none⟩ = some (.int .i64 ((rd_T46 l1 x20_1).f1)) ∧ w'.cell? ⟨gb438, 2, none⟩ = some (.slice A437_2 ((rd_T46 l1 x20_1).f2).length c437_2)) ∧ (Kd.R (Kd.int .i64) 3 w' w.heap.size (fun k_ => some k_ ≠ (s_.2 : Value).ownBlock) s_.1 t446) ∧ (Kd.R (Kd.int .i64) 3 w' w.heap.size (fun k_ => some k_ ≠ (s_.1 : Value).ownBlock) s_.2 y449) ∧ (w'.heap[gb438]? = some (.cells #[.int .i64 ((rd_T46 l1 x20_1).f0), .int .i64 ((rd_T46 l1 x20_1).f1), .slice A437_2 ((rd_T46 l1 x20_1).f2).length c437_2] 46 (0, 0))) ∧ (Below w.heap.size w w')) ?_ ?_
       rotate_left
       ·
        intro hCont
        refine two_ (i := 5) (j := 8) (Ni := some 43) (Nj := some 46) (bv 16 255) (bv 16 479) rfl rfl rfl rfl (two_of HT_.out (by kernel_rfl)) (by decide) (by decide) (fun K hK => ?_) (fun K hK => ?_)
        ·
         skip
         refine goes_ Try.func90 (by kernel_rfl) rfl #[.slice A3 l3.length c3] (by rfl) rfl rfl (by (try simp only [List.map_toArray, List.map_cons, List.map_nil]); first | done | rfl | (simp only [List.length_drop, List.length_take]; rfl)) ?_
         with_reducible refine (slices_Clone_int_int.calls _ _ l3 t446 _ ?side1 ?side2 A25.out).mono ?_
         (case side1 => repeat (first | exact (Kd.C_below HR3.out HB.out) | (with_reducible refine Kd.C_alloc ?_ _) | (with_reducible refine Kd.C_drewN ?_ _) | (with_reducible refine Kd.C_drew ?_)))
         (case side2 => exact HC3.out)
         rintro e w32 ⟨v447, rfl, ho0, hb⟩
         refine ⟨_, rfl, ?_⟩
         have n0_ := Aside0.mk (Kd.R_lower ho0 (below_size (by repeat (first | (with_reducible first | exact HB.out | apply below_alloc | apply pw_below_drewN | apply below_drew1 | refine below_set ?_ GE438.out) | exact HB.out))))
         have n1_ := Aside0.mk (blk_below (g := gb438) (o := .cells #[.int .i64 ((rd_T46 l1 x20_1).f0), .int .i64 ((rd_T46 l1 x20_1).f1), .slice A437_2 ((rd_T46 l1 x20_1).f2).length c437_2] 46 (0, 0)) (by (with_reducible repeat (first | refine blk_drewN ?_ _ | refine blk_drew ?_ | refine blk_alloc ?_ _)); exact BK438.out) hb)
         have n2_ := Aside0.mk (below_step (by repeat (first | (with_reducible first | exact HB.out | apply below_alloc | apply pw_below_drewN | apply below_drew1 | refine below_set ?_ GE438.out) | exact HB.out)) hb)
         clear BK438
         clear HB
         have HO448 := n0_
         have BK438 := n1_
         have HB := n2_
         clear n0_ n1_ n2_
         (try clear hb)
         (try clear hb2)
         (try clear hk)
         (try clear hi)
         (try clear ho0)
         refine hK.out _ _ ⟨(blk_cell BK438.out 0).trans rfl, (blk_cell BK438.out 1).trans rfl, (blk_cell BK438.out 2).trans rfl⟩ (fun hHeld => ?_)
         clear hK K
         refine nm_ 43 ?_
         refine one_ (i := 8) (N := some 46) (bv 16 511) rfl rfl (one_of HT_.out (by kernel_rfl)) (by decide) (fun K hK => ?_)
         refine Kd.R_lit_step (Kd.int .i64) _ 3 ?hg (N := 46) ?hd (xs := ([((rd_T46 l1 x20_1).f0)] : List Int)) (inner := [.int .i64 ((rd_T46 l1 x20_1).f0)]) (ok := fun _ => True) (okp := fun _ => True) ?hr ?hp (fun _ hk => hk) trivial (Below.refl _ _) (Nat.le_refl _) (by simp) ?_; (case hd => rfl); (case hg => rfl); (case hr => first | (go_simp; done) | (go_simp; rfl)); (case hp => exact (Reps.one (show Kd.M (Kd.int .i64) _ _ _ ((rd_T46 l1 x20_1).f0) [.int .i64 ((rd_T46 l1 x20_1).f0)] from rfl) (Reps.none _ _)))
         intro v450 w33 ho34 hb hg_ hnew_
         clear hg_ hnew_
         (first | rw [← Ny449.out] at ho34 | (simp only [Int.reduceToNat] at ho34; rw [← Ny449.out] at ho34))
         have n0_ := Aside0.mk (Kd.R_elder' (by (with_reducible repeat (first | apply Kd.R_alloc | apply Kd.R_drewN | apply Kd.R_drew)); exact HO448.out) (Kd.R_base ho34) hb)
         have n1_ := Aside0.mk (Kd.R_lower (Kd.R_new' ho34 (Kd.R_lt (by (with_reducible repeat (first | apply Kd.R_alloc | apply Kd.R_drewN | apply Kd.R_drew)); exact HO448.out))) (below_size (by repeat (first | (with_reducible first | exact HB.out | apply below_alloc | apply pw_below_drewN | apply below_drew1 | refine below_set ?_ GE438.out) | exact HB.out))))
         have n2_ := Aside0.mk (blk_below (g := gb438) (o := .cells #[.int .i64 ((rd_T46 l1 x20_1).f0), .int .i64 ((rd_T46 l1 x20_1).f1), .slice A437_2 ((rd_T46 l1 x20_1).f2).length c437_2] 46 (0, 0)) (by (with_reducible repeat (first | refine blk_drewN ?_ _ | refine blk_drew ?_ | refine blk_alloc ?_ _)); exact BK438.out) hb)
         have n3_ := Aside0.mk (below_step (by repeat (first | (with_reducible first | exact HB.out | apply below_alloc | apply pw_below_drewN | apply below_drew1 | refine below_set ?_ GE438.out) | exact HB.out)) hb)
         clear HO448
         clear BK438
         clear HB
         have HO448 := n0_
         have HO451 := n1_
         have BK438 := n2_
         have HB := n3_
         clear n0_ n1_ n2_ n3_
         clear hb ho34
         refine hK.out _ _ ⟨(blk_cell BK438.out 0).trans rfl, (blk_cell BK438.out 1).trans rfl, (blk_cell BK438.out 2).trans rfl⟩ (fun hHeld => ?_)
         clear hK K
         refine nm_ 46 ?_
         exact norm_ (by simp only [putAll, Act.put, Z1, Z2, Z3]) (hCont (v447, v450) _ ⟨hHeld, (by (with_reducible repeat (first | apply Kd.R_alloc | apply Kd.R_drewN | apply Kd.R_drew)); exact Kd.R_mono HO448.out (fun _ hk => hk.2)), (by (with_reducible repeat (first | apply Kd.R_alloc | apply Kd.R_drewN | apply Kd.R_drew)); exact Kd.R_mono HO451.out (fun _ hk => hk.2)), (by (with_reducible repeat (first | refine blk_drewN ?_ _ | refine blk_drew ?_ | refine blk_alloc ?_ _)); exact BK438.out), (by repeat (first | (with_reducible first | exact HB.out | apply below_alloc | apply pw_below_drewN | apply below_drew1 | refine below_set ?_ GE438.out) | exact HB.out))⟩)
        ·
         skip
         refine Kd.R_lit_step (Kd.int .i64) _ 3 ?hg (N := 46) ?hd (xs := ([((rd_T46 l1 x20_1).f0)] : List Int)) (inner := [.int .i64 ((rd_T46 l1 x20_1).f0)]) (ok := fun _ => True) (okp := fun _ => True) ?hr ?hp (fun _ hk => hk) trivial (Below.refl _ _) (Nat.le_refl _) (by simp) ?_; (case hd => rfl); (case hg => rfl); (case hr => first | (go_simp; done) | (go_simp; rfl)); (case hp => exact (Reps.one (show Kd.M (Kd.int .i64) _ _ _ ((rd_T46 l1 x20_1).f0) [.int .i64 ((rd_T46 l1 x20_1).f0)] from rfl) (Reps.none _ _)))
         intro v450 w32 ho33 hb hg_ hnew_
         clear hg_ hnew_
         (first | rw [← Ny449.out] at ho33 | (simp only [Int.reduceToNat] at ho33; rw [← Ny449.out] at ho33))
         have n0_ := Aside0.mk (Kd.R_lower ho33 (below_size (by repeat (first | (with_reducible first | exact HB.out | apply below_alloc | apply pw_below_drewN | apply below_drew1 | refine below_set ?_ GE438.out) | exact HB.out))))
         have n1_ := Aside0.mk (blk_below (g := gb438) (o := .cells #[.int .i64 ((rd_T46 l1 x20_1).f0), .int .i64 ((rd_T46 l1 x20_1).f1), .slice A437_2 ((rd_T46 l1 x20_1).f2).length c437_2] 46 (0, 0)) (by (with_reducible repeat (first | refine blk_drewN ?_ _ | refine blk_drew ?_ | refine blk_alloc ?_ _)); exact BK438.out) hb)
         have n2_ := Aside0.mk (below_step (by repeat (first | (with_reducible first | exact HB.out | apply below_alloc | apply pw_below_drewN | apply below_drew1 | refine below_set ?_ GE438.out) | exact HB.out)) hb)
         clear BK438
         clear HB
         have HO451 := n0_
         have BK438 := n1_
         have HB := n2_
         clear n0_ n1_ n2_
         clear hb ho33
         refine hK.out _ _ ⟨(blk_cell BK438.out 0).trans rfl, (blk_cell BK438.out 1).trans rfl, (blk_cell BK438.out 2).trans rfl⟩ (fun hHeld => ?_)
         clear hK K
         refine nm_ 46 ?_
         refine one_ (i := 5) (N := some 43) (bv 16 511) rfl rfl (one_of HT_.out (by kernel_rfl)) (by decide) (fun K hK => ?_)
         refine goes_ Try.func90 (by kernel_rfl) rfl #[.slice A3 l3.length c3] (by rfl) rfl rfl (by (try simp only [List.map_toArray, List.map_cons, List.map_nil]); first | done | rfl | (simp only [List.length_drop, List.length_take]; rfl)) ?_
         with_reducible refine (slices_Clone_int_int.calls _ _ l3 t446 _ ?side1 ?side2 A25.out).mono ?_
         (case side1 => repeat (first | exact (Kd.C_below HR3.out HB.out) | (with_reducible refine Kd.C_alloc ?_ _) | (with_reducible refine Kd.C_drewN ?_ _) | (with_reducible refine Kd.C_drew ?_)))
         (case side2 => exact HC3.out)
         rintro e w34 ⟨v447, rfl, ho0, hb⟩
         refine ⟨_, rfl, ?_⟩
         have n0_ := Aside0.mk (Kd.R_elder' (by (with_reducible repeat (first | apply Kd.R_alloc | apply Kd.R_drewN | apply Kd.R_drew)); exact HO451.out) (Kd.R_base ho0) hb)
         have n1_ := Aside0.mk (Kd.R_lower (Kd.R_new' ho0 (Kd.R_lt (by (with_reducible repeat (first | apply Kd.R_alloc | apply Kd.R_drewN | apply Kd.R_drew)); exact HO451.out))) (below_size (by repeat (first | (with_reducible first | exact HB.out | apply below_alloc | apply pw_below_drewN | apply below_drew1 | refine below_set ?_ GE438.out) | exact HB.out))))
         have n2_ := Aside0.mk (blk_below (g := gb438) (o := .cells #[.int .i64 ((rd_T46 l1 x20_1).f0), .int .i64 ((rd_T46 l1 x20_1).f1), .slice A437_2 ((rd_T46 l1 x20_1).f2).length c437_2] 46 (0, 0)) (by (with_reducible repeat (first | refine blk_drewN ?_ _ | refine blk_drew ?_ | refine blk_alloc ?_ _)); exact BK438.out) hb)
         have n3_ := Aside0.mk (below_step (by repeat (first | (with_reducible first | exact HB.out | apply below_alloc | apply pw_below_drewN | apply below_drew1 | refine below_set ?_ GE438.out) | exact HB.out)) hb)
         clear HO451
         clear BK438
         clear HB
         have HO451 := n0_
         have HO448 := n1_
         have BK438 := n2_
         have HB := n3_
         clear n0_ n1_ n2_ n3_
         (try clear hb)
         (try clear hb2)
         (try clear hk)
         (try clear hi)
         (try clear ho0)
         refine hK.out _ _ ⟨(blk_cell BK438.out 0).trans rfl, (blk_cell BK438.out 1).trans rfl, (blk_cell BK438.out 2).trans rfl⟩ (fun hHeld => ?_)
         clear hK K
         refine nm_ 43 ?_
         exact norm_ (by simp only [putAll, Act.put, Z1, Z2, Z3]) (hCont (v447, v450) _ ⟨hHeld, (by (with_reducible repeat (first | apply Kd.R_alloc | apply Kd.R_drewN | apply Kd.R_drew)); exact Kd.R_mono HO448.out (fun _ hk => hk.2)), (by (with_reducible repeat (first | apply Kd.R_alloc | apply Kd.R_drewN | apply Kd.R_drew)); exact Kd.R_mono HO451.out (fun _ hk => hk.2)), (by (with_reducible repeat (first | refine blk_drewN ?_ _ | refine blk_drew ?_ | refine blk_alloc ?_ _)); exact BK438.out), (by repeat (first | (with_reducible first | exact HB.out | apply below_alloc | apply pw_below_drewN | apply below_drew1 | refine below_set ?_ GE438.out) | exact HB.out))⟩)
       rintro ⟨v447, v450⟩ w35 ⟨hS_, h0_, h1_, h2_, h3_⟩
       have n0_ : Aside0 (Kd.R (Kd.int .i64) 3 w35 w.heap.size (fun k_ => some k_ ≠ (v450 : Value).ownBlock) v447 t446) := ⟨h0_⟩
       have n1_ : Aside0 (Kd.R (Kd.int .i64) 3 w35 w.heap.size (fun k_ => some k_ ≠ (v447 : Value).ownBlock) v450 y449) := ⟨h1_⟩
       have n2_ : Aside0 (w35.heap[gb438]? = some (.cells #[.int .i64 ((rd_T46 l1 x20_1).f0), .int .i64 ((rd_T46 l1 x20_1).f1), .slice A437_2 ((rd_T46 l1 x20_1).f2).length c437_2] 46 (0, 0))) := ⟨h2_⟩
       have n3_ : Aside0 (Below w.heap.size w w35) := ⟨h3_⟩
       clear BK438
       clear HB
       clear h0_ h1_ h2_ h3_
       have HO448 := n0_
       have HO451 := n1_
       have BK438 := n2_
       have HB := n3_
       clear n0_ n1_ n2_ n3_
       have hHeld : w35.cell? ⟨gb438, 0, none⟩ = some (.int .i64 ((rd_T46 l1 x20_1).f0)) ∧ w35.cell? ⟨gb438, 1, none⟩ = some (.int .i64 ((rd_T46 l1 x20_1).f1)) ∧ w35.cell? ⟨gb438, 2, none⟩ = some (.slice A437_2 ((rd_T46 l1 x20_1).f2).length c437_2) := hS_
       obtain ⟨Ao37, co37, eo37⟩ := Kd.R_slice HO451.out
       (first | subst eo37 | (injection eo37 with f1_ f2_ f3_; have f4_ := f1_.symm; have f5_ := f3_.symm; clear f1_ f2_ f3_; subst f4_; subst f5_))
       refine norm_ (a' := ?_) ?_ ?_
       rotate_left
       ·
        simp only [putAll, Act.put, Z1, Z2, Z3]
        rfl
       refine one_ (i := 9) (N := some 47) (bv 16 1023) rfl rfl (one_of HT_.out (by kernel_rfl)) (by decide) (fun K hK => ?_)
       refine Kd.R_append_rows_step (Kd.int .i64) (w0 := w) w.heap.size (by rfl) (.tmp 43) (.tmp 46) 29 3 (.int .i64 0) 8 rfl Try.underlying29 info3 rfl (by decide) (by omega) v447 t446 y449 _ _ _ (fun k_ => some k_ ≠ (.slice Ao37 y449.length co37 : Value).ownBlock) (fun _ => False) rfl rfl ?aO ?aR (fun _ _ h => h) (fun _ h => h.elim) ?aF ?aB ?aS ?aL ?_
       (case aR => repeat (first | exact (Kd.R_reads' HO451.out).2.2 | (with_reducible refine Kd.C_alloc ?_ _) | (with_reducible refine Kd.C_drewN ?_ _) | (with_reducible refine Kd.C_drew ?_)))
       (case aB => exact (by repeat (first | (with_reducible first | exact HB.out | apply below_alloc | apply pw_below_drewN | apply below_drew1 | refine below_set ?_ GE438.out) | exact HB.out)))
       (case aF => exact (fun k_ hk => Kd.fresh' (Kd.R_lt (by (with_reducible repeat (first | apply Kd.R_alloc | apply Kd.R_drewN | apply Kd.R_drew)); exact HO451.out)) k_ hk))
       (case aO => exact (by (with_reducible repeat (first | apply Kd.R_alloc | apply Kd.R_drewN | apply Kd.R_drew)); exact HO448.out))
       (case aS => exact (below_size (by repeat (first | (with_reducible first | exact HB.out | apply below_alloc | apply pw_below_drewN | apply below_drew1 | refine below_set ?_ GE438.out) | exact HB.out))))
       (case aL => have := LMc26.out; omega)
       intro v453 w36 ho hb hg hat
       rw [← Ny452.out] at ho
       have n0_ := Aside0.mk (blk_grown (g := gb438) (o := .cells #[.int .i64 ((rd_T46 l1 x20_1).f0), .int .i64 ((rd_T46 l1 x20_1).f1), .slice A437_2 ((rd_T46 l1 x20_1).f2).length c437_2] 46 (0, 0)) (by (with_reducible repeat (first | refine blk_drewN ?_ _ | refine blk_drew ?_ | refine blk_alloc ?_ _)); exact BK438.out) hg (Kd.R_ne HO448.out BK438.out (by decide)))
       have n1_ := Aside0.mk (Kd.R_after (ok := (fun _ => True)) (by (with_reducible repeat (first | apply Kd.R_alloc | apply Kd.R_drewN | apply Kd.R_drew)); exact Kd.R_mono HO451.out (fun _ hk => ⟨trivial, hk⟩)) hg hat)
       have n2_ := Aside0.mk (hb)
       have n3_ := Aside0.mk (ho)
       clear BK438
       clear HO451
       clear HB
       clear HO448
       have BK438 := n0_
       have HO451 := n1_
       have HB := n2_
       have HO454 := n3_
       clear n0_ n1_ n2_ n3_
       clear ho hb hg hat
       obtain ⟨Ao38, co38, eo38⟩ := Kd.R_slice HO454.out
       (first | subst eo38 | (injection eo38 with f1_ f2_ f3_; have f4_ := f1_.symm; have f5_ := f3_.symm; clear f1_ f2_ f3_; subst f4_; subst f5_))
       refine hK.out _ _ ⟨(blk_cell BK438.out 0).trans rfl, (blk_cell BK438.out 1).trans rfl, (blk_cell BK438.out 2).trans rfl⟩ (fun hHeld => ?_)
       clear hK K
       refine nm_ 47 ?_
       refine one_ (i := 10) (N := some 48) (bv 16 2047) rfl rfl (one_of HT_.out (by kernel_rfl)) (by decide) (fun K hK => ?_)
       refine goes_ Try.func71 (by kernel_rfl) rfl #[.slice A0 l0.length c0, .slice (some ad437) l1.length c1, .slice A31 y442.length c31, .slice Ao38 y452.length co38] (by rfl) rfl rfl (by (try simp only [List.map_toArray, List.map_cons, List.map_nil]); first | done | rfl | (simp only [List.length_drop, List.length_take]; rfl)) ?_
       with_reducible refine (ih kj10 (by have := HK1.out; have := HJ10.out; omega) _ _ l0 _ _ l1 _ _ y442 _ _ y452 t455 true _ ?side1 ?side2 ?side3 ?side4 ?side5 ?side6 ?side7 ?side8 A27.out).mono ?_
       (case side1 => repeat (first | exact (Kd.C_below HR0.out HB.out) | (with_reducible refine Kd.C_alloc ?_ _) | (with_reducible refine Kd.C_drewN ?_ _) | (with_reducible refine Kd.C_drew ?_)))
       (case side2 => exact HC0.out)
       (case side3 => repeat (first | exact (Kd.C_below HR1.out HB.out) | (with_reducible refine Kd.C_alloc ?_ _) | (with_reducible refine Kd.C_drewN ?_ _) | (with_reducible refine Kd.C_drew ?_)))
       (case side4 => exact HC1.out)
       (case side5 => repeat (first | exact (Kd.C_below HR445.out HB.out) | (with_reducible refine Kd.C_alloc ?_ _) | (with_reducible refine Kd.C_drewN ?_ _) | (with_reducible refine Kd.C_drew ?_)))
       (case side6 => exact HC445.out)
       (case side7 => repeat (first | exact (Kd.R_reads' HO454.out).2.2 | (with_reducible refine Kd.C_alloc ?_ _) | (with_reducible refine Kd.C_drewN ?_ _) | (with_reducible refine Kd.C_drew ?_)))
       (case side8 => exact (Kd.R_reads' HO454.out).2.1)
       rintro e w39 ⟨v457, rfl, ho0, hb⟩
       refine ⟨_, rfl, ?_⟩
       have n0_ := Aside0.mk (Kd.R_elder' (by (with_reducible repeat (first | apply Kd.R_alloc | apply Kd.R_drewN | apply Kd.R_drew)); exact HO451.out) (Kd.R_base ho0) hb)
       have n1_ := Aside0.mk (Kd.R_elder' (by (with_reducible repeat (first | apply Kd.R_alloc | apply Kd.R_drewN | apply Kd.R_drew)); exact HO454.out) (Kd.R_base ho0) hb)
       have n2_ := Aside0.mk (Kd.R_lower (Kd.R_new' (Kd.R_new' ho0 (Kd.R_lt (by (with_reducible repeat (first | apply Kd.R_alloc | apply Kd.R_drewN | apply Kd.R_drew)); exact HO451.out))) (Kd.R_lt (by (with_reducible repeat (first | apply Kd.R_alloc | apply Kd.R_drewN | apply Kd.R_drew)); exact HO454.out))) (below_size (by repeat (first | (with_reducible first | exact HB.out | apply below_alloc | apply pw_below_drewN | apply below_drew1 | refine below_set ?_ GE438.out) | exact HB.out))))
       have n3_ := Aside0.mk (blk_below (g := gb438) (o := .cells #[.int .i64 ((rd_T46 l1 x20_1).f0), .int .i64 ((rd_T46 l1 x20_1).f1), .slice A437_2 ((rd_T46 l1 x20_1).f2).length c437_2] 46 (0, 0)) (by (with_reducible repeat (first | refine blk_drewN ?_ _ | refine blk_drew ?_ | refine blk_alloc ?_ _)); exact BK438.out) hb)
       have n4_ := Aside0.mk (below_step (by repeat (first | (with_reducible first | exact HB.out | apply below_alloc | apply pw_below_drewN | apply below_drew1 | refine below_set ?_ GE438.out) | exact HB.out)) hb)
       clear HO451
       clear HO454
       clear BK438
       clear HB
       have HO451 := n0_
       have HO454 := n1_
       have HO458 := n2_
       have BK438 := n3_
       have HB := n4_
       clear n0_ n1_ n2_ n3_ n4_
       (try clear hb)
       (try clear hb2)
       (try clear hk)
       (try clear hi)
       (try clear ho0)
       refine hK.out _ _ ⟨(blk_cell BK438.out 0).trans rfl, (blk_cell BK438.out 1).trans rfl, (blk_cell BK438.out 2).trans rfl⟩ (fun hHeld => ?_)
       clear hK K
       refine nm_ 48 ?_
       refine pv_ 16 11 37 4095 rfl rfl HT_ ?_; refine pv_ 16 12 49 8191 rfl rfl HT_ ?_; refine pv_ 16 13 50 16383 rfl rfl HT_ ?_; refine pv_ 16 14 12 32767 rfl rfl HT_ ?_; refine pv_ 16 15 13 65535 rfl rfl HT_ ?_
       refine done_ (done_of HT_.out (by kernel_rfl)) ?_
       have hcz40_0 : w39.cell? ⟨gb438, 0, none⟩ = some (.int .i64 ((rd_T46 l1 x20_1).f0)) := (blk_cell BK438.out 0).trans rfl
       have hcz40_1 : w39.cell? ⟨gb438, 1, none⟩ = some (.int .i64 ((rd_T46 l1 x20_1).f1)) := (blk_cell BK438.out 1).trans rfl
       have hcz40_2 : w39.cell? ⟨gb438, 2, none⟩ = some (.slice A437_2 ((rd_T46 l1 x20_1).f2).length c437_2) := (blk_cell BK438.out 2).trans rfl
       have hfz40_0 := blk_frozen BK438.out 0
       have hfz40_1 := blk_frozen BK438.out 1
       have hfz40_2 := blk_frozen BK438.out 2
       try go_wp2_with (first | ((with_reducible refine gate_dst (N := 54) rfl ?_); refine Kd.R_lit (Kd.int .i64) _ 3 ?hg (N := 54) ?hd (xs := ([((rd_T46 l1 x20_1).f0)] : List Int)) (inner := [.int .i64 ((rd_T46 l1 x20_1).f0)]) (ok := fun _ => True) (okp := fun _ => True) ?hr ?hp (fun _ hk => hk) trivial (Below.refl _ _) (Nat.le_refl _) (by simp) ?_; (case hd => rfl); (case hg => rfl); (case hr => first | (go_simp; done) | (go_simp; rfl)); (case hp => exact (Reps.one (show Kd.M (Kd.int .i64) _ _ _ ((rd_T46 l1 x20_1).f0) [.int .i64 ((rd_T46 l1 x20_1).f0)] from rfl) (Reps.none _ _))); intro v460 w41 ho42 hb hg_ hnew_; clear hg_ hnew_; (first | rw [← Ny459.out] at ho42 | (simp only [Int.reduceToNat] at ho42; rw [← Ny459.out] at ho42)); have n0_ := Aside0.mk (Kd.R_elder' (by (with_reducible repeat (first | apply Kd.R_alloc | apply Kd.R_drewN | apply Kd.R_drew)); exact HO451.out) (Kd.R_base ho42) hb); have n1_ := Aside0.mk (Kd.R_elder' (by (with_reducible repeat (first | apply Kd.R_alloc | apply Kd.R_drewN | apply Kd.R_drew)); exact HO454.out) (Kd.R_base ho42) hb); have n2_ := Aside0.mk (Kd.R_elder' (by (with_reducible repeat (first | apply Kd.R_alloc | apply Kd.R_drewN | apply Kd.R_drew)); exact HO458.out) (Kd.R_base ho42) hb); have n3_ := Aside0.mk (Kd.R_lower (Kd.R_new' (Kd.R_new' (Kd.R_new' ho42 (Kd.R_lt (by (with_reducible repeat (first | apply Kd.R_alloc | apply Kd.R_drewN | apply Kd.R_drew)); exact HO451.out))) (Kd.R_lt (by (with_reducible repeat (first | apply Kd.R_alloc | apply Kd.R_drewN | apply Kd.R_drew)); exact HO454.out))) (Kd.R_lt (by (with_reducible repeat (first | apply Kd.R_alloc | apply Kd.R_drewN | apply Kd.R_drew)); exact HO458.out))) (below_size (by repeat (first | (with_reducible first | exact HB.out | apply below_alloc | apply pw_below_drewN | apply below_drew1 | refine below_set ?_ GE438.out) | exact HB.out)))); have n4_ := Aside0.mk (blk_below (g := gb438) (o := .cells #[.int .i64 ((rd_T46 l1 x20_1).f0), .int .i64 ((rd_T46 l1 x20_1).f1), .slice A437_2 ((rd_T46 l1 x20_1).f2).length c437_2] 46 (0, 0)) (by (with_reducible repeat (first | refine blk_drewN ?_ _ | refine blk_drew ?_ | refine blk_alloc ?_ _)); exact BK438.out) hb); have n5_ := Aside0.mk (below_step (by repeat (first | (with_reducible first | exact HB.out | apply below_alloc | apply pw_below_drewN | apply below_drew1 | refine below_set ?_ GE438.out) | exact HB.out)) hb); clear HO451; clear HO454; clear HO458; clear BK438; clear HB; have HO451 := n0_; have HO454 := n1_; have HO458 := n2_; have HO461 := n3_; have BK438 := n4_; have HB := n5_; clear n0_ n1_ n2_ n3_ n4_ n5_; clear hb ho42; obtain ⟨Ao44, co44, eo44⟩ := Kd.R_slice HO458.out; subst eo44) | ((with_reducible refine gate_builtin (b := .append) (xs := #[.tmp 54, .tmp 55]) rfl ?_); at_builtin; refine Kd.R_append_rows (Kd.int .i64) (w0 := w) w.heap.size rfl (.tmp 54) (.tmp 55) 29 3 (.int .i64 0) 8 rfl Try.underlying29 info3 rfl (by decide) (by omega) v460 y459 t455 _ _ _ (fun k_ => some k_ ≠ (.slice Ao37 y449.length co37 : Value).ownBlock ∧ some k_ ≠ (.slice Ao38 y452.length co38 : Value).ownBlock ∧ some k_ ≠ (.slice Ao44 t455.length co44 : Value).ownBlock) (fun _ => False) rfl rfl ?aO ?aR (fun _ _ h => h) (fun _ h => h.elim) ?aF ?aB ?aS ?aL ?_; (case aR => repeat (first | exact (Kd.R_reads' HO458.out).2.2 | (with_reducible refine Kd.C_alloc ?_ _) | (with_reducible refine Kd.C_drewN ?_ _) | (with_reducible refine Kd.C_drew ?_))); (case aB => exact (by repeat (first | (with_reducible first | exact HB.out | apply below_alloc | apply pw_below_drewN | apply below_drew1 | refine below_set ?_ GE438.out) | exact HB.out))); (case aF => exact (fun k_ hk => ⟨Kd.fresh' (Kd.R_lt (by (with_reducible repeat (first | apply Kd.R_alloc | apply Kd.R_drewN | apply Kd.R_drew)); exact HO451.out)) k_ hk, Kd.fresh' (Kd.R_lt (by (with_reducible repeat (first | apply Kd.R_alloc | apply Kd.R_drewN | apply Kd.R_drew)); exact HO454.out)) k_ hk, Kd.fresh' (Kd.R_lt (by (with_reducible repeat (first | apply Kd.R_alloc | apply Kd.R_drewN | apply Kd.R_drew)); exact HO458.out)) k_ hk⟩)); (case aO => exact (by (with_reducible repeat (first | apply Kd.R_alloc | apply Kd.R_drewN | apply Kd.R_drew)); exact Kd.R_mono HO461.out (fun _ hk => ⟨hk.1.1.2, ⟨hk.1.2, hk.2⟩⟩))); (case aS => exact (below_size (by repeat (first | (with_reducible first | exact HB.out | apply below_alloc | apply pw_below_drewN | apply below_drew1 | refine below_set ?_ GE438.out) | exact HB.out)))); (case aL => have := LMc29.out; omega); intro v463 w43 ho hb hg hat; rw [← Ny462.out] at ho; have n0_ := Aside0.mk (blk_grown (g := gb438) (o := .cells #[.int .i64 ((rd_T46 l1 x20_1).f0), .int .i64 ((rd_T46 l1 x20_1).f1), .slice A437_2 ((rd_T46 l1 x20_1).f2).length c437_2] 46 (0, 0)) (by (with_reducible repeat (first | refine blk_drewN ?_ _ | refine blk_drew ?_ | refine blk_alloc ?_ _)); exact BK438.out) hg (Kd.R_ne HO461.out BK438.out (by decide))); have n1_ := Aside0.mk (Kd.R_after (ok := (fun k_ => some k_ ≠ (.slice Ao38 y452.length co38 : Value).ownBlock ∧ some k_ ≠ (.slice Ao44 t455.length co44 : Value).ownBlock)) (by (with_reducible repeat (first | apply Kd.R_alloc | apply Kd.R_drewN | apply Kd.R_drew)); exact Kd.R_mono HO451.out (fun _ hk => ⟨⟨hk.1.1.2, hk.1.2⟩, hk.2⟩)) hg hat); have n2_ := Aside0.mk (Kd.R_after (ok := (fun k_ => some k_ ≠ (.slice Ao37 y449.length co37 : Value).ownBlock ∧ some k_ ≠ (.slice Ao44 t455.length co44 : Value).ownBlock)) (by (with_reducible repeat (first | apply Kd.R_alloc | apply Kd.R_drewN | apply Kd.R_drew)); exact HO454.out) hg hat); have n3_ := Aside0.mk (Kd.R_after (ok := (fun k_ => some k_ ≠ (.slice Ao37 y449.length co37 : Value).ownBlock ∧ some k_ ≠ (.slice Ao38 y452.length co38 : Value).ownBlock)) (by (with_reducible repeat (first | apply Kd.R_alloc | apply Kd.R_drewN | apply Kd.R_drew)); exact Kd.R_mono HO458.out (fun _ hk => ⟨⟨hk.1.1.2, hk.1.2⟩, hk.2⟩)) hg hat); have n4_ := Aside0.mk (hb); have n5_ := Aside0.mk (ho); clear BK438; clear HO451; clear HO454; clear HO458; clear HB; clear HO461; have BK438 := n0_; have HO451 := n1_; have HO454 := n2_; have HO458 := n3_; have HB := n4_; have HO464 := n5_; clear n0_ n1_ n2_ n3_ n4_ n5_; clear ho hb hg hat))
       go_ret2
       exact ⟨_, by first | rfl | (simp [errW_none, errW_some] <;> rfl) | (simp [*, errW_none, errW_some] <;> rfl), by (with_reducible repeat (first | apply Kd.R_alloc | apply Kd.R_drewN | apply Kd.R_drew)); exact Kd.R_mono HO464.out (fun _ hk => trivial), by repeat (first | (with_reducible first | exact HB.out | apply below_alloc | apply pw_below_drewN | apply below_drew1 | refine below_set ?_ GE438.out) | exact HB.out)⟩
      subst c23
      have H1 : (impl_seated.l0 kj10 l0 l1 l2 l3 l1 (l1.length : Int) (wrap64 (x20_1 + 1))) = some (r1, r2) := by rw [if_pos rfl] at H; exact H
      clear H
      have H := H1
      clear H1
      have H' := Aside0.mk H
      clear H
      go_wp2
      go_roundg kj10
      case measure => have := HK1.out; have := HJ10.out; omega
      case rel => exact ⟨(wrap64 (x20_1 + 1)), (by first | rfl | (simp; done) | (simp [*]; done)), H', ⟨by have := HK1.out; have := HJ10.out; omega⟩, ⟨by repeat (first | (with_reducible first | exact HB.out | apply below_alloc | apply pw_below_drewN | apply below_drew1 | refine below_set ?_ GE438.out) | exact HB.out)⟩⟩
 rw [if_pos c5] at H
 have c5b0 : ((l2.length : Int) == 0) = true := beq_iff_eq.mpr c5
 have c5b1 : ((l2.length : Int) != 0) = false := bne_eq_false_iff_eq.mpr c5
 clear c5
 obtain ⟨y431, hy431⟩ : ∃ y_ : List Int, y_ = (([] : List Int)) := ⟨_, rfl⟩
 replace H : (some (y431, true)) = some (r1, r2) := by first | (rw [hy431]; with_reducible exact H) | (have H2_ := (Option.bind_some _ _).symm.trans H; rw [hy431]; with_reducible exact H2_) | (have H2_ := (Option.bind_some _ _).symm.trans H; with_reducible exact H2_) | with_reducible exact H | (rw [hy431]; exact H) | exact H
 have Ny431 := Aside0.mk hy431
 clear hy431
 simp only [Option.some.injEq, Prod.mk.injEq] at H
 obtain ⟨rfl, rfl⟩ := H
 go_enter Try.func71, Try.ntmps71
 go_wp2_with (first | ((with_reducible refine gate_dst (N := 17) rfl ?_); refine Kd.R_lit (Kd.int .i64) _ 3 ?hg (N := 17) ?hd (xs := ([] : List Int)) (inner := []) (ok := fun _ => True) (okp := fun _ => True) ?hr ?hp (fun _ hk => hk) trivial (Below.refl _ _) (Nat.le_refl _) (by simp) ?_; (case hd => rfl); (case hg => rfl); (case hr => first | (go_simp; done) | (go_simp; rfl)); (case hp => exact (Reps.none _ _)); intro v432 w6 ho7 hb hg_ hnew_; clear hg_ hnew_; (first | rw [← Ny431.out] at ho7 | (simp only [Int.reduceToNat] at ho7; rw [← Ny431.out] at ho7)); have n0_ := Aside0.mk (Kd.R_lower ho7 (below_size (by repeat (first | (with_reducible first | exact HB.out | apply below_alloc | apply pw_below_drewN | apply below_drew1) | exact HB.out)))); have n1_ := Aside0.mk (below_step (by repeat (first | (with_reducible first | exact HB.out | apply below_alloc | apply pw_below_drewN | apply below_drew1) | exact HB.out)) hb); clear HB; have HO433 := n0_; have HB := n1_; clear n0_ n1_; clear hb ho7))
 go_ret2
 exact ⟨_, by first | rfl | (simp [errW_none, errW_some] <;> rfl) | (simp [*, errW_none, errW_some] <;> rfl), by (with_reducible repeat (first | apply Kd.R_alloc | apply Kd.R_drewN | apply Kd.R_drew)); exact HO433.out, by repeat (first | (with_reducible first | exact HB.out | apply below_alloc | apply pw_below_drewN | apply below_drew1) | exact HB.out)⟩
end Go.Proofs.Ytdlebbmmanjffaa.A
end

section
namespace Go.Proofs.Ytdlebbmmanjffaa.A
open Go.RowKit Go.Proofs.YtdlebbmmanjffaaW.PrintWords Go.Proofs.YtdlebbmmanjffaaW.PrintLast Go.Proofs.YtdlebbmmanjffaaW.PrintMore
attribute [local go_sem] max2_int min2_int max_two min_two max_three min_three max_four min_four   -- for this text's walks alone
set_option linter.unusedVariables false
set_option linter.unusedSimpArgs false
def impl_SeatJudges.f (k : Nat) (l0 : List (S78)) (l1 : List (S46)) (l2 : List (S48)) : Option (List Int × Bool) := (impl_AreJudges.f k l1).bind fun t465 => (if t465 = true then ((impl_AreTeams.f k l0).bind fun t466 => (if t466 = true then (if (l2.length : Int) > (l1.length : Int) then (some ((([] : List Int)), false)) else ((impl_seated.f k l0 l1 l2 ([] : List Int)).bind fun bt470 => (some (bt470.1, bt470.2)))) else (some ((([] : List Int)), false)))) else (some ((([] : List Int)), false)))
set_option maxHeartbeats 8000000 in
set_option maxRecDepth 100000 in
theorem impl_SeatJudges.calls (k : Nat) (A0 : Option Addr) (c0 : Nat) (l0 : List (S78)) (A1 : Option Addr) (c1 : Nat) (l1 : List (S46)) (A2 : Option Addr) (c2 : Nat) (l2 : List (S48)) (r1 : List Int) (r2 : Bool) (w : World) (hr0 : Kd.C k78 w A0 l0.length l0) (hc0 : l0.length ≤ c0) (hr1 : Kd.C k46 w A1 l1.length l1) (hc1 : l1.length ≤ c1) (hr2 : Kd.C k48 w A2 l2.length l2) (hc2 : l2.length ≤ c2) (h : impl_SeatJudges.f k l0 l1 l2 = some (r1, r2)) :
  Calls Try.prog 37 #[.slice A0 l0.length c0, .slice A1 l1.length c1, .slice A2 l2.length c2] w fun e w' => ∃ v0_ : Value, e = .returned (.tuple #[v0_, .bool r2]) ∧ Kd.R (Kd.int .i64) 3 w' w.heap.size (fun _ => True) v0_ r1 ∧ Below w.heap.size w w' := by
 have HR0 := Aside0.mk hr0
 have HC0 := Aside0.mk hc0
 clear hr0 hc0
 have HR1 := Aside0.mk hr1
 have HC1 := Aside0.mk hc1
 clear hr1 hc1
 have HR2 := Aside0.mk hr2
 have HC2 := Aside0.mk hc2
 clear hr2 hc2
 have HB := Aside0.mk (Below.refl w.heap.size w)
 have H : ((impl_AreJudges.f k l1).bind fun t465 => (if t465 = true then ((impl_AreTeams.f k l0).bind fun t466 => (if t466 = true then (if (l2.length : Int) > (l1.length : Int) then (some ((([] : List Int)), false)) else ((impl_seated.f k l0 l1 l2 ([] : List Int)).bind fun bt470 => (some (bt470.1, bt470.2)))) else (some ((([] : List Int)), false)))) else (some ((([] : List Int)), false)))) = some (r1, r2) := h
 clear h
 replace H := Option.bind_eq_some_iff.mp H
 obtain ⟨t465, A40, H⟩ := H
 replace H : (if t465 = true then ((impl_AreTeams.f k l0).bind fun t466 => (if t466 = true then (if (l2.length : Int) > (l1.length : Int) then (some ((([] : List Int)), false)) else ((impl_seated.f k l0 l1 l2 ([] : List Int)).bind fun bt470 => (some (bt470.1, bt470.2)))) else (some ((([] : List Int)), false)))) else (some ((([] : List Int)), false))) = some (r1, r2) := H
 have A4 := Aside0.mk A40
 clear A40
 by_cases c5 : t465 = true
 rotate_left
 ·
  replace c5 := Bool.eq_false_iff.mpr c5
  subst c5
  have H1 : (some ((([] : List Int)), false)) = some (r1, r2) := by rw [if_neg (show ¬ (false = true) by decide)] at H; exact H
  clear H
  have H := H1
  clear H1
  obtain ⟨y477, hy477⟩ : ∃ y_ : List Int, y_ = (([] : List Int)) := ⟨_, rfl⟩
  replace H : (some (y477, false)) = some (r1, r2) := by first | (rw [hy477]; with_reducible exact H) | (have H2_ := (Option.bind_some _ _).symm.trans H; rw [hy477]; with_reducible exact H2_) | (have H2_ := (Option.bind_some _ _).symm.trans H; with_reducible exact H2_) | with_reducible exact H | (rw [hy477]; exact H) | exact H
  have Ny477 := Aside0.mk hy477
  clear hy477
  simp only [Option.some.injEq, Prod.mk.injEq] at H
  obtain ⟨rfl, rfl⟩ := H
  go_enter Try.func37, Try.ntmps37
  go_wp2_with (first | ((with_reducible refine gate_callee (f := 13) rfl ?_); refine goesL_ (some 9) rfl rfl Try.func13 (by kernel_rfl) rfl #[.slice A1 l1.length c1] rfl (by (try simp only [List.map_toArray, List.map_cons, List.map_nil]); first | done | rfl | (simp only [List.length_drop, List.length_take]; rfl)) ?_; (with_reducible refine (impl_AreJudges.calls k _ _ l1 false _ ?side1 ?side2 A4.out).mono ?_); (case side1 => repeat (first | exact HR1.out | (with_reducible refine Kd.C_alloc ?_ _) | (with_reducible refine Kd.C_drewN ?_ _) | (with_reducible refine Kd.C_drew ?_))); (case side2 => exact HC1.out); rintro e w21 ⟨rfl, hb⟩; refine ⟨_, rfl, ?_⟩; have n0_ := Aside0.mk (below_step (by repeat (first | (with_reducible first | exact HB.out | apply below_alloc | apply pw_below_drewN | apply below_drew1) | exact HB.out)) hb); clear HB; have HB := n0_; clear n0_; (try clear hb); (try clear hb2); (try clear hk); (try clear hi)) | ((with_reducible refine gate_dst (N := 23) rfl ?_); (try (refine gate_guard (by rfl) ?_; dsimp only)); refine Kd.R_lit (Kd.int .i64) _ 3 ?hg (N := 23) ?hd (xs := ([] : List Int)) (inner := []) (ok := fun _ => True) (okp := fun _ => True) ?hr ?hp (fun _ hk => hk) trivial (Below.refl _ _) (Nat.le_refl _) (by simp) ?_; (case hd => rfl); (case hg => rfl); (case hr => first | (go_simp; done) | (go_simp; rfl)); (case hp => exact (Reps.none _ _)); intro v478 w22 ho23 hb hg_ hnew_; clear hg_ hnew_; (first | rw [← Ny477.out] at ho23 | (simp only [Int.reduceToNat] at ho23; rw [← Ny477.out] at ho23)); have n0_ := Aside0.mk (Kd.R_lower ho23 (below_size (by repeat (first | (with_reducible first | exact HB.out | apply below_alloc | apply pw_below_drewN | apply below_drew1) | exact HB.out)))); have n1_ := Aside0.mk (below_step (by repeat (first | (with_reducible first | exact HB.out | apply below_alloc | apply pw_below_drewN | apply below_drew1) | exact HB.out)) hb); clear HB; have HO479 := n0_; have HB := n1_; clear n0_ n1_; clear hb ho23))
  go_ret2
  exact ⟨_, by first | rfl | (simp [errW_none, errW_some] <;> rfl) | (simp [*, errW_none, errW_some] <;> rfl), by (with_reducible repeat (first | apply Kd.R_alloc | apply Kd.R_drewN | apply Kd.R_drew)); exact HO479.out, by repeat (first | (with_reducible first | exact HB.out | apply below_alloc | apply pw_below_drewN | apply below_drew1) | exact HB.out)⟩

 subst c5
 have H1 : ((impl_AreTeams.f k l0).bind fun t466 => (if t466 = true then (if (l2.length : Int) > (l1.length : Int) then (some ((([] : List Int)), false)) else ((impl_seated.f k l0 l1 l2 ([] : List Int)).bind fun bt470 => (some (bt470.1, bt470.2)))) else (some ((([] : List Int)), false)))) = some (r1, r2) := by rw [if_pos rfl] at H; exact H
 clear H
 have H := H1
 clear H1
 replace H := Option.bind_eq_some_iff.mp H
 obtain ⟨t466, A60, H⟩ := H
 replace H : (if t466 = true then (if (l2.length : Int) > (l1.length : Int) then (some ((([] : List Int)), false)) else ((impl_seated.f k l0 l1 l2 ([] : List Int)).bind fun bt470 => (some (bt470.1, bt470.2)))) else (some ((([] : List Int)), false))) = some (r1, r2) := H
 have A6 := Aside0.mk A60
 clear A60
 by_cases c7 : t466 = true
 rotate_left
 ·
  replace c7 := Bool.eq_false_iff.mpr c7
  subst c7
  have H1 : (some ((([] : List Int)), false)) = some (r1, r2) := by rw [if_neg (show ¬ (false = true) by decide)] at H; exact H
  clear H
  have H := H1
  clear H1
  obtain ⟨y474, hy474⟩ : ∃ y_ : List Int, y_ = (([] : List Int)) := ⟨_, rfl⟩
  replace H : (some (y474, false)) = some (r1, r2) := by first | (rw [hy474]; with_reducible exact H) | (have H2_ := (Option.bind_some _ _).symm.trans H; rw [hy474]; with_reducible exact H2_) | (have H2_ := (Option.bind_some _ _).symm.trans H; with_reducible exact H2_) | with_reducible exact H | (rw [hy474]; exact H) | exact H
  have Ny474 := Aside0.mk hy474
  clear hy474
  simp only [Option.some.injEq, Prod.mk.injEq] at H
  obtain ⟨rfl, rfl⟩ := H
  go_enter Try.func37, Try.ntmps37
  go_wp2_with (first | ((with_reducible refine gate_callee (f := 13) rfl ?_); refine goesL_ (some 9) rfl rfl Try.func13 (by kernel_rfl) rfl #[.slice A1 l1.length c1] rfl (by (try simp only [List.map_toArray, List.map_cons, List.map_nil]); first | done | rfl | (simp only [List.length_drop, List.length_take]; rfl)) ?_; (with_reducible refine (impl_AreJudges.calls k _ _ l1 true _ ?side1 ?side2 A4.out).mono ?_); (case side1 => repeat (first | exact HR1.out | (with_reducible refine Kd.C_alloc ?_ _) | (with_reducible refine Kd.C_drewN ?_ _) | (with_reducible refine Kd.C_drew ?_))); (case side2 => exact HC1.out); rintro e w17 ⟨rfl, hb⟩; refine ⟨_, rfl, ?_⟩; have n0_ := Aside0.mk (below_step (by repeat (first | (with_reducible first | exact HB.out | apply below_alloc | apply pw_below_drewN | apply below_drew1) | exact HB.out)) hb); clear HB; have HB := n0_; clear n0_; (try clear hb); (try clear hb2); (try clear hk); (try clear hi)) | (go_at_call 42; (with_reducible refine (impl_AreTeams.calls k _ _ l0 false _ ?side1 ?side2 A6.out).mono ?_); (case side1 => repeat (first | exact (Kd.C_below HR0.out HB.out) | (with_reducible refine Kd.C_alloc ?_ _) | (with_reducible refine Kd.C_drewN ?_ _) | (with_reducible refine Kd.C_drew ?_))); (case side2 => exact HC0.out); rintro e w18 ⟨rfl, hb⟩; have n0_ := Aside0.mk (below_step (by repeat (first | (with_reducible first | exact HB.out | apply below_alloc | apply pw_below_drewN | apply below_drew1) | exact HB.out)) hb); clear HB; have HB := n0_; clear n0_; (try clear hb); (try clear hb2); (try clear hk); (try clear hi)) | ((with_reducible refine gate_dst (N := 23) rfl ?_); (try (refine gate_guard (by rfl) ?_; dsimp only)); refine Kd.R_lit (Kd.int .i64) _ 3 ?hg (N := 23) ?hd (xs := ([] : List Int)) (inner := []) (ok := fun _ => True) (okp := fun _ => True) ?hr ?hp (fun _ hk => hk) trivial (Below.refl _ _) (Nat.le_refl _) (by simp) ?_; (case hd => rfl); (case hg => rfl); (case hr => first | (go_simp; done) | (go_simp; rfl)); (case hp => exact (Reps.none _ _)); intro v475 w19 ho20 hb hg_ hnew_; clear hg_ hnew_; (first | rw [← Ny474.out] at ho20 | (simp only [Int.reduceToNat] at ho20; rw [← Ny474.out] at ho20)); have n0_ := Aside0.mk (Kd.R_lower ho20 (below_size (by repeat (first | (with_reducible first | exact HB.out | apply below_alloc | apply pw_below_drewN | apply below_drew1) | exact HB.out)))); have n1_ := Aside0.mk (below_step (by repeat (first | (with_reducible first | exact HB.out | apply below_alloc | apply pw_below_drewN | apply below_drew1) | exact HB.out)) hb); clear HB; have HO476 := n0_; have HB := n1_; clear n0_ n1_; clear hb ho20))
  go_ret2
  exact ⟨_, by first | rfl | (simp [errW_none, errW_some] <;> rfl) | (simp [*, errW_none, errW_some] <;> rfl), by (with_reducible repeat (first | apply Kd.R_alloc | apply Kd.R_drewN | apply Kd.R_drew)); exact HO476.out, by repeat (first | (with_reducible first | exact HB.out | apply below_alloc | apply pw_below_drewN | apply below_drew1) | exact HB.out)⟩
 subst c7
 have H1 : (if (l2.length : Int) > (l1.length : Int) then (some ((([] : List Int)), false)) else ((impl_seated.f k l0 l1 l2 ([] : List Int)).bind fun bt470 => (some (bt470.1, bt470.2)))) = some (r1, r2) := by rw [if_pos rfl] at H; exact H
 clear H
 have H := H1
 clear H1
 by_cases c8 : (l2.length : Int) > (l1.length : Int)
 rotate_left
 ·
  rw [if_neg c8] at H
  have c8b0 : decide ((l1.length : Int) < (l2.length : Int)) = false := decide_eq_false c8
  have c8b1 : decide (l1.length < l2.length) = false := decide_eq_false (fun h => c8 (Int.ofNat_lt.mpr h))
  clear c8
  replace H := Option.bind_eq_some_iff.mp H
  obtain ⟨⟨t470, t471⟩, A130, H⟩ := H
  replace H : (some (t470, t471)) = some (r1, r2) := H
  have A13 := Aside0.mk A130
  clear A130
  simp only [Option.some.injEq, Prod.mk.injEq] at H
  obtain ⟨rfl, rfl⟩ := H
  go_enter Try.func37, Try.ntmps37
  go_wp2_with (first | ((with_reducible refine gate_callee (f := 13) rfl ?_); refine goesL_ (some 9) rfl rfl Try.func13 (by kernel_rfl) rfl #[.slice A1 l1.length c1] rfl (by (try simp only [List.map_toArray, List.map_cons, List.map_nil]); first | done | rfl | (simp only [List.length_drop, List.length_take]; rfl)) ?_; (with_reducible refine (impl_AreJudges.calls k _ _ l1 true _ ?side1 ?side2 A4.out).mono ?_); (case side1 => repeat (first | exact HR1.out | (with_reducible refine Kd.C_alloc ?_ _) | (with_reducible refine Kd.C_drewN ?_ _) | (with_reducible refine Kd.C_drew ?_))); (case side2 => exact HC1.out); rintro e w14 ⟨rfl, hb⟩; refine ⟨_, rfl, ?_⟩; have n0_ := Aside0.mk (below_step (by repeat (first | (with_reducible first | exact HB.out | apply below_alloc | apply pw_below_drewN | apply below_drew1) | exact HB.out)) hb); clear HB; have HB := n0_; clear n0_; (try clear hb); (try clear hb2); (try clear hk); (try clear hi)) | (go_at_call 42; (with_reducible refine (impl_AreTeams.calls k _ _ l0 true _ ?side1 ?side2 A6.out).mono ?_); (case side1 => repeat (first | exact (Kd.C_below HR0.out HB.out) | (with_reducible refine Kd.C_alloc ?_ _) | (with_reducible refine Kd.C_drewN ?_ _) | (with_reducible refine Kd.C_drew ?_))); (case side2 => exact HC0.out); rintro e w15 ⟨rfl, hb⟩; have n0_ := Aside0.mk (below_step (by repeat (first | (with_reducible first | exact HB.out | apply below_alloc | apply pw_below_drewN | apply below_drew1) | exact HB.out)) hb); clear HB; have HB := n0_; clear n0_; (try clear hb); (try clear hb2); (try clear hk); (try clear hi)) | ((with_reducible refine gate_callee (f := 71) rfl ?_); refine goesL_ (some 27) rfl rfl Try.func71 (by kernel_rfl) rfl #[.slice A0 l0.length c0, .slice A1 l1.length c1, .slice A2 l2.length c2, .slice none 0 0] rfl (by (try simp only [List.map_toArray, List.map_cons, List.map_nil]); first | done | rfl | (simp only [List.length_drop, List.length_take]; rfl)) ?_; (refine (impl_seated.calls k _ _ l0 _ _ l1 _ _ l2 _ _ ([] : List Int) t470 t471 _ ?side1 ?side2 ?side3 ?side4 ?side5 ?side6 ?side7 ?side8 A13.out).mono ?_); (case side1 => repeat (first | exact (Kd.C_below HR0.out HB.out) | (with_reducible refine Kd.C_alloc ?_ _) | (with_reducible refine Kd.C_drewN ?_ _) | (with_reducible refine Kd.C_drew ?_))); (case side2 => exact HC0.out); (case side3 => repeat (first | exact (Kd.C_below HR1.out HB.out) | (with_reducible refine Kd.C_alloc ?_ _) | (with_reducible refine Kd.C_drewN ?_ _) | (with_reducible refine Kd.C_drew ?_))); (case side4 => exact HC1.out); (case side5 => repeat (first | exact (Kd.C_below HR2.out HB.out) | (with_reducible refine Kd.C_alloc ?_ _) | (with_reducible refine Kd.C_drewN ?_ _) | (with_reducible refine Kd.C_drew ?_))); (case side6 => exact HC2.out); (case side7 => exact Kd.C_nil _ _); (case side8 => exact Nat.le_refl _); rintro e w16 ⟨v472, rfl, ho0, hb⟩; refine ⟨_, rfl, ?_⟩; have n0_ := Aside0.mk (Kd.R_lower ho0 (below_size (by repeat (first | (with_reducible first | exact HB.out | apply below_alloc | apply pw_below_drewN | apply below_drew1) | exact HB.out)))); have n1_ := Aside0.mk (below_step (by repeat (first | (with_reducible first | exact HB.out | apply below_alloc | apply pw_below_drewN | apply below_drew1) | exact HB.out)) hb); clear HB; have HO473 := n0_; have HB := n1_; clear n0_ n1_; (try clear hb); (try clear hb2); (try clear hk); (try clear hi); (try clear ho0)))
  go_ret2
  exact ⟨_, by first | rfl | (simp [errW_none, errW_some] <;> rfl) | (simp [*, errW_none, errW_some] <;> rfl), by (with_reducible repeat (first | apply Kd.R_alloc | apply Kd.R_drewN | apply Kd.R_drew)); exact HO473.out, by repeat (first | (with_reducible first | exact HB.out | apply below_alloc | apply pw_below_drewN | apply below_drew1) | exact HB.out)⟩
 rw [if_pos c8] at H
 have c8b0 : decide ((l1.length : Int) < (l2.length : Int)) = true := decide_eq_true c8
 have c8b1 : decide (l1.length < l2.length) = true := decide_eq_true (Int.ofNat_lt.mp c8)
 clear c8
 obtain ⟨y467, hy467⟩ : ∃ y_ : List Int, y_ = (([] : List Int)) := ⟨_, rfl⟩
 replace H : (some (y467, false)) = some (r1, r2) := by first | (rw [hy467]; with_reducible exact H) | (have H2_ := (Option.bind_some _ _).symm.trans H; rw [hy467]; with_reducible exact H2_) | (have H2_ := (Option.bind_some _ _).symm.trans H; with_reducible exact H2_) | with_reducible exact H | (rw [hy467]; exact H) | exact H
 have Ny467 := Aside0.mk hy467
 clear hy467
 simp only [Option.some.injEq, Prod.mk.injEq] at H
 obtain ⟨rfl, rfl⟩ := H
 go_enter Try.func37, Try.ntmps37
 go_wp2_with (first | ((with_reducible refine gate_callee (f := 13) rfl ?_); refine goesL_ (some 9) rfl rfl Try.func13 (by kernel_rfl) rfl #[.slice A1 l1.length c1] rfl (by (try simp only [List.map_toArray, List.map_cons, List.map_nil]); first | done | rfl | (simp only [List.length_drop, List.length_take]; rfl)) ?_; (with_reducible refine (impl_AreJudges.calls k _ _ l1 true _ ?side1 ?side2 A4.out).mono ?_); (case side1 => repeat (first | exact HR1.out | (with_reducible refine Kd.C_alloc ?_ _) | (with_reducible refine Kd.C_drewN ?_ _) | (with_reducible refine Kd.C_drew ?_))); (case side2 => exact HC1.out); rintro e w9 ⟨rfl, hb⟩; refine ⟨_, rfl, ?_⟩; have n0_ := Aside0.mk (below_step (by repeat (first | (with_reducible first | exact HB.out | apply below_alloc | apply pw_below_drewN | apply below_drew1) | exact HB.out)) hb); clear HB; have HB := n0_; clear n0_; (try clear hb); (try clear hb2); (try clear hk); (try clear hi)) | (go_at_call 42; (with_reducible refine (impl_AreTeams.calls k _ _ l0 true _ ?side1 ?side2 A6.out).mono ?_); (case side1 => repeat (first | exact (Kd.C_below HR0.out HB.out) | (with_reducible refine Kd.C_alloc ?_ _) | (with_reducible refine Kd.C_drewN ?_ _) | (with_reducible refine Kd.C_drew ?_))); (case side2 => exact HC0.out); rintro e w10 ⟨rfl, hb⟩; have n0_ := Aside0.mk (below_step (by repeat (first | (with_reducible first | exact HB.out | apply below_alloc | apply pw_below_drewN | apply below_drew1) | exact HB.out)) hb); clear HB; have HB := n0_; clear n0_; (try clear hb); (try clear hb2); (try clear hk); (try clear hi)) | ((with_reducible refine gate_dst (N := 23) rfl ?_); (try (refine gate_guard (by rfl) ?_; dsimp only)); refine Kd.R_lit (Kd.int .i64) _ 3 ?hg (N := 23) ?hd (xs := ([] : List Int)) (inner := []) (ok := fun _ => True) (okp := fun _ => True) ?hr ?hp (fun _ hk => hk) trivial (Below.refl _ _) (Nat.le_refl _) (by simp) ?_; (case hd => rfl); (case hg => rfl); (case hr => first | (go_simp; done) | (go_simp; rfl)); (case hp => exact (Reps.none _ _)); intro v468 w11 ho12 hb hg_ hnew_; clear hg_ hnew_; (first | rw [← Ny467.out] at ho12 | (simp only [Int.reduceToNat] at ho12; rw [← Ny467.out] at ho12)); have n0_ := Aside0.mk (Kd.R_lower ho12 (below_size (by repeat (first | (with_reducible first | exact HB.out | apply below_alloc | apply pw_below_drewN | apply below_drew1) | exact HB.out)))); have n1_ := Aside0.mk (below_step (by repeat (first | (with_reducible first | exact HB.out | apply below_alloc | apply pw_below_drewN | apply below_drew1) | exact HB.out)) hb); clear HB; have HO469 := n0_; have HB := n1_; clear n0_ n1_; clear hb ho12))
 go_ret2
 exact ⟨_, by first | rfl | (simp [errW_none, errW_some] <;> rfl) | (simp [*, errW_none, errW_some] <;> rfl), by (with_reducible repeat (first | apply Kd.R_alloc | apply Kd.R_drewN | apply Kd.R_drew)); exact HO469.out, by repeat (first | (with_reducible first | exact HB.out | apply below_alloc | apply pw_below_drewN | apply below_drew1) | exact HB.out)⟩
end Go.Proofs.Ytdlebbmmanjffaa.A
end

section
namespace Go.Proofs.Ytdlebbmmanjffaa.A
open Go.RowKit Go.Proofs.YtdlebbmmanjffaaW.PrintWords Go.Proofs.YtdlebbmmanjffaaW.PrintLast Go.Proofs.YtdlebbmmanjffaaW.PrintMore
attribute [local go_sem] max2_int min2_int max_two min_two max_three min_three max_four min_four   -- for this text's walks alone
set_option linter.unusedVariables false
set_option linter.unusedSimpArgs false
def laws_markPairS.l0 : Nat → List (S48) → Int → Int → Option (Int × (List (S48)))
  | 0, _, _, _ => none
  | k + 1, x0, x1, x5 => if x5 < (x0.length : Int) then (if 0 ≤ x5 then ((some (x0.set (x5 : Int).toNat (⟨x1, (rd_T48 x0 x5).f1⟩ : S48) : List (S48))).bind fun y480 => (laws_markPairS.l0 k (y480.set (x5 : Int).toNat (⟨(rd_T48 y480 x5).f0, wrap64 (x1 + 1)⟩ : S48)) (wrap64 ((wrap64 (x1 + 1)) + 1)) (wrap64 (x5 + 1)))) else (none)) else (some (x1, x0))
def laws_markPairS.f (k : Nat) (l0 : List (S48)) (a1 : Int) : Option (Int × (List (S48))) := laws_markPairS.l0 k l0 a1 0
set_option maxHeartbeats 8000000 in
set_option maxRecDepth 100000 in
theorem laws_markPairS.calls (k : Nat) (P0_ : Nat → Prop) (u9000_ : Value) (l0 : List (S48)) (a1 : Int) (r1 : Int) (r2 : List (S48)) (w0 w : World) (hB : Below w0.heap.size w0 w) (ho0 : Kd.R k48 48 w w0.heap.size P0_ u9000_ l0) (h : laws_markPairS.f k l0 a1 = some (r1, r2)) :
  Calls Try.prog 39 #[u9000_, .int .i64 a1] w fun e w' => e = .returned (.int .i64 r1) ∧ Kd.R k48 48 w' w0.heap.size (fun k_ => (P0_ k_ ∨ w.heap.size ≤ k_)) u9000_ r2 ∧ Below w0.heap.size w0 w' ∧ Kept w w' (fun k_ => P0_ k_) := by
 have HO0 := Aside0.mk (show Kd.R k48 48 w w0.heap.size (fun k_ => (P0_ k_ ∨ w.heap.size ≤ k_)) u9000_ l0 from Kd.R_mono ho0 (fun k_ hk => (.inl hk)))
 have HK := Aside0.mk (Kept.refl w (fun k_ => P0_ k_))
 have HW0 := Aside0.mk hB.size
 have HB := Aside0.mk hB
 clear hB
 have H : (laws_markPairS.l0 k l0 a1 0) = some (r1, r2) := h
 clear h
 have H' := Aside0.mk H
 clear H
 go_enter Try.func39, Try.ntmps39
 go_wp2
 go_loopg [1, 5] k (fun kq v1 v5 w' => ∃ (x0_1 : List (S48)) (x1_1 : Int) (x5_1 : Int), v1 = .int .i64 x1_1 ∧ v5 = .int .i64 x5_1 ∧ Aside0 (laws_markPairS.l0 kq x0_1 x1_1 x5_1 = some (r1, r2)) ∧ Aside0 (kq ≤ k) ∧ Aside0 (Kd.R k48 48 w' w0.heap.size (fun k_ => (P0_ k_ ∨ w.heap.size ≤ k_)) u9000_ x0_1) ∧ Aside0 (Kept w w' (fun k_ => P0_ k_)) ∧ Aside0 (Below w0.heap.size w0 w'))
 case atStart => exact ⟨(l0), (a1), (0), (by first | rfl | (simp; done) | (simp [*]; done)), (by first | rfl | (simp; done) | (simp [*]; done)), H', ⟨Nat.le_refl _⟩, ⟨by (with_reducible repeat (first | apply Kd.R_alloc | apply Kd.R_drewN | apply Kd.R_drew)); exact HO0.out⟩, ⟨by repeat (first | (with_reducible first | exact HK.out | apply Kept.alloc | apply Kept.drewN | apply Kept.drew) | exact HK.out)⟩, ⟨by repeat (first | (with_reducible first | exact HB.out | apply below_alloc | apply pw_below_drewN | apply below_drew1) | exact HB.out)⟩⟩
 case round =>
  clear H'
  try clear p2
  obtain ⟨x0_1, x1_1, x5_1, rfl, rfl, HA, HK1, HO_0, HK, HB⟩ := hrel
  cases gk with
  | zero => exact absurd HA.out (by simp [laws_markPairS.l0])
  | succ k1 =>
   have H := HA.out
   clear HA
   simp only [laws_markPairS.l0] at H
   by_cases c3 : x5_1 < (x0_1.length : Int)
   rotate_left
   ·
    rw [if_neg c3] at H
    have c3b0 : decide (x5_1 < (x0_1.length : Int)) = false := decide_eq_false c3
    clear c3
    simp only [Option.some.injEq, Prod.mk.injEq] at H
    obtain ⟨rfl, rfl⟩ := H
    obtain ⟨Ao12, co12, eo12⟩ := Kd.R_slice HO_0.out
    subst eo12
    go_wp2
    go_ret
    exact ⟨by first | rfl | (simp [errW_none, errW_some] <;> rfl) | (simp [*, errW_none, errW_some] <;> rfl), by (with_reducible repeat (first | apply Kd.R_alloc | apply Kd.R_drewN | apply Kd.R_drew)); exact HO_0.out, by repeat (first | (with_reducible first | exact HB.out | apply below_alloc | apply pw_below_drewN | apply below_drew1) | exact HB.out), by repeat (first | (with_reducible first | exact HK.out | apply Kept.alloc | apply Kept.drewN | apply Kept.drew) | exact HK.out)⟩

   rw [if_pos c3] at H
   have c3b0 : decide (x5_1 < (x0_1.length : Int)) = true := decide_eq_true c3
   clear c3
   by_cases c4 : 0 ≤ x5_1
   rotate_left
   ·
    rw [if_neg c4] at H
    exact absurd H (by simp)
   rw [if_pos c4] at H
   have c4b0 : decide (0 ≤ x5_1) = true := decide_eq_true c4
   clear c4
   obtain ⟨y480, hy480⟩ : ∃ y_ : List (S48), y_ = (x0_1.set (x5_1 : Int).toNat (⟨x1_1, (rd_T48 x0_1 x5_1).f1⟩ : S48)) := ⟨_, rfl⟩
   replace H : (laws_markPairS.l0 k1 (y480.set (x5_1 : Int).toNat (⟨(rd_T48 y480 x5_1).f0, wrap64 (x1_1 + 1)⟩ : S48)) (wrap64 ((wrap64 (x1_1 + 1)) + 1)) (wrap64 (x5_1 + 1))) = some (r1, r2) := by first | (rw [hy480]; with_reducible exact H) | (have H2_ := (Option.bind_some _ _).symm.trans H; rw [hy480]; with_reducible exact H2_) | (have H2_ := (Option.bind_some _ _).symm.trans H; with_reducible exact H2_) | with_reducible exact H | (rw [hy480]; exact H) | exact H
   have Ny480 := Aside0.mk hy480
   clear hy480
   obtain ⟨y481, hy481⟩ : ∃ y_ : List (S48), y_ = (y480.set (x5_1 : Int).toNat (⟨(rd_T48 y480 x5_1).f0, wrap64 (x1_1 + 1)⟩ : S48)) := ⟨_, rfl⟩
   replace H : (laws_markPairS.l0 k1 y481 (wrap64 ((wrap64 (x1_1 + 1)) + 1)) (wrap64 (x5_1 + 1))) = some (r1, r2) := by first | (rw [hy481]; with_reducible exact H) | (have H2_ := (Option.bind_some _ _).symm.trans H; rw [hy481]; with_reducible exact H2_) | (have H2_ := (Option.bind_some _ _).symm.trans H; with_reducible exact H2_) | with_reducible exact H | (rw [hy481]; exact H) | exact H
   have Ny481 := Aside0.mk hy481
   clear hy481
   have H' := Aside0.mk H
   clear H
   obtain ⟨Ao7, co7, eo7⟩ := Kd.R_slice HO_0.out
   subst eo7
   have p5 : 0 ≤ (x5_1 : Int) := of_decide_eq_true (by first | (with_reducible assumption) | assumption)
   have q5 : (x5_1 : Int) < ((x0_1.length : Int) : Int) := of_decide_eq_true (by first | (with_reducible assumption) | assumption)
   obtain ⟨go5, co5, eo5, gb5, gl5, cl5, HG5⟩ := Kd.R_form HO_0.out (by omega)
   (first | cases eo5 | (injection eo5 with ea_ en_ ec_; (first | subst ea_ | (injection ea_ with ea_; subst ea_)); subst ec_; clear en_))
   have GB5 := Aside0.mk gb5
   have GG5 := Aside0.mk HG5
   clear gb5 gl5 HG5
   have HMgo5 := Aside0.mk (show (P0_ go5 ∨ w.heap.size ≤ go5) from (HO_0.out.1 _ rfl))
   obtain ⟨ce5, hcl5, hM5, hcc5, hfr5⟩ := Kd.R_elem HO_0.out z48 (x5_1 : Int) p5 q5
   obtain rfl := k48_openM hM5
   have hx5_0 : wr.cell? ⟨go5, (x5_1 : Int).toNat * 2, none⟩ = some (.int .i64 ((rd_T48 x0_1 x5_1).f0)) := hcc5 0 _ rfl
   have hx5_1 : wr.cell? ⟨go5, (x5_1 : Int).toNat * 2 + 1, none⟩ = some (.int .i64 ((rd_T48 x0_1 x5_1).f1)) := hcc5 1 _ rfl
   have hf5_0 : wr.frozen? ⟨go5, (x5_1 : Int).toNat * 2, none⟩ = false := hfr5 0
   have hf5_1 : wr.frozen? ⟨go5, (x5_1 : Int).toNat * 2 + 1, none⟩ = false := hfr5 1
   clear hcl5 hcc5 hfr5 hM5
   replace p5 := eq_true p5
   replace q5 := eq_true q5
   have HX8 := Aside0.mk (show Kd.R k48 48 wr w0.heap.size (fun k_ => (P0_ k_ ∨ w.heap.size ≤ k_)) (.slice (some ⟨go5, 0, none⟩) x0_1.length co7) x0_1 from (by (with_reducible repeat (first | apply Kd.R_alloc | apply Kd.R_drewN | apply Kd.R_drew)); exact HO_0.out))
   obtain ⟨ce8, hcl8, hM8, hcc8, hfr8⟩ := Kd.R_elem HX8.out z48 (x5_1 : Int) (of_decide_eq_true (by first | (with_reducible assumption) | assumption)) (by have h_ : (x5_1 : Int) < ((x0_1.length : Int) : Int) := of_decide_eq_true (by first | (with_reducible assumption) | assumption); first | exact h_ | (have e_ := (Kd.R_reads' HO_0.out).1; omega) | simpa using h_)
   obtain rfl := k48_openM hM8
   have HP8 := Kd.R_seg HX8.out (x5_1 : Int) (of_decide_eq_true (by first | (with_reducible assumption) | assumption)) (by have h_ : (x5_1 : Int) < ((x0_1.length : Int) : Int) := of_decide_eq_true (by first | (with_reducible assumption) | assumption); first | exact h_ | (have e_ := (Kd.R_reads' HO_0.out).1; omega) | simpa using h_) (seg := [.int .i64 x1_1]) (j := 0) hcl8 hcc8 (show 1 ≤ 2 from by decide) (x' := (⟨x1_1, (rd_T48 x0_1 x5_1).f1⟩ : S48)) (k48_mkM _ _ _ (⟨x1_1, (rd_T48 x0_1 x5_1).f1⟩ : S48) ) (fun _ hk => hk)
   have hx8_0 := hcc8 0 _ rfl
   (try simp only [show (k48).sz = 2 from rfl, Nat.mul_one, Nat.add_zero] at hx8_0)
   have hf8_0 := hfr8 0
   (try simp only [show (k48).sz = 2 from rfl, Nat.mul_one, Nat.add_zero] at hf8_0)
   clear hcl8 hcc8 hfr8 hM8
   go_wp2_with (first | ((with_reducible refine gate_store (t := 3) (p := 16) rfl ?_); refine store_event (t := 3) (p := 16) (v := ?vo_w9) (w1 := (wr.setCell ⟨go5, (x5_1 : Int).toNat * 2, none⟩ (.int .i64 x1_1))) ?hg ?ho ?hn ?hr ?_; (case ho => rfl); (case hg => rfl); (case hn => rfl); (case hr => first | (go_simp; done) | (go_simp; rfl)); intro w9 hw; have hg : wr.grownBy w9 (some go5) := (by rw [hw]; exact HP8.2); have hp_ : Kd.R k48 48 w9 w0.heap.size (fun k_ => (P0_ k_ ∨ w.heap.size ≤ k_)) (.slice (some ⟨go5, 0, none⟩) x0_1.length co7) y480 := (by rw [hw, Ny480.out]; exact HP8.1); clear HP8; have n0_ := Aside0.mk (hp_); have n1_ := Aside0.mk ((by rw [hw]; exact below_set (HB.out) GB5.out : Below w0.heap.size w0 w9)); have n2_ := Aside0.mk (Kept.of_grown (S := (fun k_ => P0_ k_)) hg (by repeat (first | (with_reducible first | exact HK.out | apply Kept.alloc | apply Kept.drewN | apply Kept.drew) | exact HK.out)) (fun k_ e_ => (HO_0.out.1 k_ e_))); clear HO_0; clear HB; clear HK; have HO_0 := n0_; have HB := n1_; have HK := n2_; clear n0_ n1_ n2_; clear hg hw hp_; have p6 : 0 ≤ (x5_1 : Int) := of_decide_eq_true (by first | (with_reducible assumption) | assumption); have q6 : (x5_1 : Int) < ((x0_1.length : Int) : Int) := of_decide_eq_true (by first | (with_reducible assumption) | assumption); obtain ⟨ce6, hcl6, hM6, hcc6, hfr6⟩ := Kd.R_elem HO_0.out z48 (x5_1 : Int) p6 q6; obtain rfl := k48_openM hM6; have hx6_0 : w9.cell? ⟨go5, (x5_1 : Int).toNat * 2, none⟩ = some (.int .i64 ((rd_T48 y480 x5_1).f0)) := hcc6 0 _ rfl; have hx6_1 : w9.cell? ⟨go5, (x5_1 : Int).toNat * 2 + 1, none⟩ = some (.int .i64 ((rd_T48 y480 x5_1).f1)) := hcc6 1 _ rfl; have hf6_0 : w9.frozen? ⟨go5, (x5_1 : Int).toNat * 2, none⟩ = false := hfr6 0; have hf6_1 : w9.frozen? ⟨go5, (x5_1 : Int).toNat * 2 + 1, none⟩ = false := hfr6 1; clear hcl6 hcc6 hfr6 hM6; replace p6 := eq_true p6; replace q6 := eq_true q6; have HX10 := Aside0.mk (show Kd.R k48 48 w9 w0.heap.size (fun k_ => (P0_ k_ ∨ w.heap.size ≤ k_)) (.slice (some ⟨go5, 0, none⟩) x0_1.length co7) y480 from (by (with_reducible repeat (first | apply Kd.R_alloc | apply Kd.R_drewN | apply Kd.R_drew)); exact HO_0.out)); obtain ⟨ce10, hcl10, hM10, hcc10, hfr10⟩ := Kd.R_elem HX10.out z48 (x5_1 : Int) (of_decide_eq_true (by first | (with_reducible assumption) | assumption)) (by have h_ : (x5_1 : Int) < ((x0_1.length : Int) : Int) := of_decide_eq_true (by first | (with_reducible assumption) | assumption); first | exact h_ | (have e_ := (Kd.R_reads' HO_0.out).1; omega) | simpa using h_); obtain rfl := k48_openM hM10; have HP10 := Kd.R_seg HX10.out (x5_1 : Int) (of_decide_eq_true (by first | (with_reducible assumption) | assumption)) (by have h_ : (x5_1 : Int) < ((x0_1.length : Int) : Int) := of_decide_eq_true (by first | (with_reducible assumption) | assumption); first | exact h_ | (have e_ := (Kd.R_reads' HO_0.out).1; omega) | simpa using h_) (seg := [.int .i64 (wrap64 (x1_1 + 1))]) (j := 1) hcl10 hcc10 (show 2 ≤ 2 from by decide) (x' := (⟨(rd_T48 y480 x5_1).f0, wrap64 (x1_1 + 1)⟩ : S48)) (k48_mkM _ _ _ (⟨(rd_T48 y480 x5_1).f0, wrap64 (x1_1 + 1)⟩ : S48) ) (fun _ hk => hk); have hx10_1 := hcc10 1 _ rfl; (try simp only [show (k48).sz = 2 from rfl, Nat.mul_one, Nat.add_zero] at hx10_1); have hf10_1 := hfr10 1; (try simp only [show (k48).sz = 2 from rfl, Nat.mul_one, Nat.add_zero] at hf10_1); clear hcl10 hcc10 hfr10 hM10) | ((with_reducible refine gate_store (t := 3) (p := 23) rfl ?_); refine store_event (t := 3) (p := 23) (v := ?vo_w11) (w1 := (w9.setCell ⟨go5, (x5_1 : Int).toNat * 2 + 1, none⟩ (.int .i64 (wrap64 (x1_1 + 1))))) ?hg ?ho ?hn ?hr ?_; (case ho => rfl); (case hg => rfl); (case hn => rfl); (case hr => first | (go_simp; done) | (go_simp; rfl)); intro w11 hw; have hg : w9.grownBy w11 (some go5) := (by rw [hw]; exact HP10.2); have hp_ : Kd.R k48 48 w11 w0.heap.size (fun k_ => (P0_ k_ ∨ w.heap.size ≤ k_)) (.slice (some ⟨go5, 0, none⟩) x0_1.length co7) y481 := (by rw [hw, Ny481.out]; exact HP10.1); clear HP10; have n0_ := Aside0.mk (hp_); have n1_ := Aside0.mk ((by rw [hw]; exact below_set (HB.out) GB5.out : Below w0.heap.size w0 w11)); have n2_ := Aside0.mk (Kept.of_grown (S := (fun k_ => P0_ k_)) hg (by repeat (first | (with_reducible first | exact HK.out | apply Kept.alloc | apply Kept.drewN | apply Kept.drew) | exact HK.out)) (fun k_ e_ => (HO_0.out.1 k_ e_))); clear HO_0; clear HB; clear HK; have HO_0 := n0_; have HB := n1_; have HK := n2_; clear n0_ n1_ n2_; clear hg hw hp_))
   go_roundg k1
   case measure => have := HK1.out; omega
   case rel => exact ⟨(y481), (wrap64 ((wrap64 (x1_1 + 1)) + 1)), (wrap64 (x5_1 + 1)), (by first | rfl | (simp; done) | (simp [*]; done)), (by first | rfl | (simp; done) | (simp [*]; done)), H', ⟨by have := HK1.out; omega⟩, ⟨by (with_reducible repeat (first | apply Kd.R_alloc | apply Kd.R_drewN | apply Kd.R_drew)); exact HO_0.out⟩, ⟨by repeat (first | (with_reducible first | exact HK.out | apply Kept.alloc | apply Kept.drewN | apply Kept.drew) | exact HK.out)⟩, ⟨by repeat (first | (with_reducible first | exact HB.out | apply below_alloc | apply pw_below_drewN | apply below_drew1) | exact HB.out)⟩⟩
end Go.Proofs.Ytdlebbmmanjffaa.A
end

section
namespace Go.Proofs.Ytdlebbmmanjffaa.A
open Go.RowKit Go.Proofs.YtdlebbmmanjffaaW.PrintWords Go.Proofs.YtdlebbmmanjffaaW.PrintLast Go.Proofs.YtdlebbmmanjffaaW.PrintMore
attribute [local go_sem] max2_int min2_int max_two min_two max_three min_three max_four min_four   -- for this text's walks alone
set_option linter.unusedVariables false
set_option linter.unusedSimpArgs false
def laws_toJudge.f (k : Nat) (a0_0 : Int) (a0_1 : Int) (l0_2 : List Int) : Option (Int × Int × List Int) := (laws_toIntS.f k l0_2).bind fun t127 => (some (a0_0, a0_1, t127))
set_option maxHeartbeats 8000000 in
set_option maxRecDepth 100000 in
theorem laws_toJudge.calls (k : Nat) (a0_0 : Int) (a0_1 : Int) (A0_2 : Option Addr) (c0_2 : Nat) (l0_2 : List Int) (r1 : Int) (r2 : Int) (r3 : List Int) (w : World) (hr0_2 : Kd.C (Kd.int .i64) w A0_2 l0_2.length l0_2) (hc0_2 : l0_2.length ≤ c0_2) (h : laws_toJudge.f k a0_0 a0_1 l0_2 = some (r1, r2, r3)) :
  Calls Try.prog 26 #[.agg #[.int .i64 a0_0, .int .i64 a0_1, .slice A0_2 l0_2.length c0_2]] w fun e w' => ∃ v2_ : Value, e = .returned (.agg #[.int .i64 r1, .int .i64 r2, v2_]) ∧ Kd.R (Kd.int .i64) 3 w' w.heap.size (fun _ => True) v2_ r3 ∧ Below w.heap.size w w' := by
 have hu38 := Try.underlying38
 have hu46 := Try.underlying46
 have HR0_2 := Aside0.mk hr0_2
 have HC0_2 := Aside0.mk hc0_2
 clear hr0_2 hc0_2
 have HB := Aside0.mk (Below.refl w.heap.size w)
 have H : ((laws_toIntS.f k l0_2).bind fun t127 => (some (a0_0, a0_1, t127))) = some (r1, r2, r3) := h
 clear h
 replace H := Option.bind_eq_some_iff.mp H
 obtain ⟨t127, A20, H⟩ := H
 replace H : (some (a0_0, a0_1, t127)) = some (r1, r2, r3) := H
 have A2 := Aside0.mk A20
 clear A20
 simp only [Option.some.injEq, Prod.mk.injEq] at H
 obtain ⟨rfl, rfl, rfl⟩ := H
 go_enter Try.func26, Try.ntmps26
 go_wp2_with (first | ((with_reducible refine gate_dst (N := 1) rfl ?_); refine box_event ?hg (N := 1) ?hd (cs := #[.int .i64 a0_0, .int .i64 a0_1, .slice A0_2 l0_2.length c0_2]) (t := 38) ?hr ?_; (case hd => rfl); (case hg => rfl); (case hr => first | (go_simp; done) | (go_simp; rfl)); intro gb124 hg w3 hbox hb; have n0_ := Aside0.mk (below_step (by repeat (first | (with_reducible first | exact HB.out | apply below_alloc | apply pw_below_drewN | apply below_drew1) | exact HB.out)) hb); have n1_ := Aside0.mk (hbox); have n2_ := Aside0.mk ((by rw [hg]; exact (below_size (by repeat (first | (with_reducible first | exact HB.out | apply below_alloc | apply pw_below_drewN | apply below_drew1) | exact HB.out))) : w.heap.size ≤ gb124)); have n3_ := Aside0.mk ((by rw [hg]; exact (below_size (by repeat (first | (with_reducible first | exact HB.out | apply below_alloc | apply pw_below_drewN | apply below_drew1) | exact HB.out))) : w.heap.size ≤ gb124)); clear HB; have HB := n0_; have BK124 := n1_; have GW124 := n2_; have GE124 := n3_; clear n0_ n1_ n2_ n3_; clear hb hbox hg) | ((with_reducible refine gate_dst (N := 2) rfl ?_); refine box_event ?hg (N := 2) ?hd (cs := #[.int .i64 0, .int .i64 0, .slice none 0 0]) (t := 46) ?hr ?_; (case hd => rfl); (case hg => rfl); (case hr => first | (go_simp; done) | (go_simp; rfl)); intro gb125 hg w4 hbox hb; have n0_ := Aside0.mk (blk_below (g := gb124) (o := .cells #[.int .i64 a0_0, .int .i64 a0_1, .slice A0_2 l0_2.length c0_2] 38 (0, 0)) (by (with_reducible repeat (first | refine blk_drewN ?_ _ | refine blk_drew ?_ | refine blk_alloc ?_ _)); exact BK124.out) hb); have n1_ := Aside0.mk (below_step (by repeat (first | (with_reducible first | exact HB.out | apply below_alloc | apply pw_below_drewN | apply below_drew1 | refine below_set ?_ GE124.out) | exact HB.out)) hb); have n2_ := Aside0.mk (hbox); have n3_ := Aside0.mk ((by rw [hg]; exact (below_size (by repeat (first | (with_reducible first | exact HB.out | apply below_alloc | apply pw_below_drewN | apply below_drew1 | refine below_set ?_ GE124.out) | exact HB.out))) : w.heap.size ≤ gb125)); have n4_ := Aside0.mk ((by rw [hg]; exact (below_size (by repeat (first | (with_reducible first | exact HB.out | apply below_alloc | apply pw_below_drewN | apply below_drew1 | refine below_set ?_ GE124.out) | exact HB.out))) : w.heap.size ≤ gb125)); have n5_ := Aside0.mk ((by rw [hg]; exact Nat.ne_of_lt (blk_lt (g := gb124) (o := .cells #[.int .i64 a0_0, .int .i64 a0_1, .slice A0_2 l0_2.length c0_2] 38 (0, 0)) (by (with_reducible repeat (first | refine blk_drewN ?_ _ | refine blk_drew ?_ | refine blk_alloc ?_ _)); exact BK124.out)) : gb124 ≠ gb125)); have n6_ := Aside0.mk ((by rw [hg]; exact Nat.ne_of_gt (blk_lt (g := gb124) (o := .cells #[.int .i64 a0_0, .int .i64 a0_1, .slice A0_2 l0_2.length c0_2] 38 (0, 0)) (by (with_reducible repeat (first | refine blk_drewN ?_ _ | refine blk_drew ?_ | refine blk_alloc ?_ _)); exact BK124.out)) : gb125 ≠ gb124)); clear BK124; clear HB; have BK124 := n0_; have HB := n1_; have BK125 := n2_; have GW125 := n3_; have GE125 := n4_; have NB124_125 := n5_; have NB125_124 := n6_; clear n0_ n1_ n2_ n3_ n4_ n5_ n6_; clear hb hbox hg) | ((with_reducible refine gate_dst (N := 3) rfl ?_); refine box_event ?hg (N := 3) ?hd (cs := #[.int .i64 0, .int .i64 0, .slice none 0 0]) (t := 46) ?hr ?_; (case hd => rfl); (case hg => rfl); (case hr => first | (go_simp; done) | (go_simp; rfl)); intro gb126 hg w5 hbox hb; have n0_ := Aside0.mk (blk_below (g := gb124) (o := .cells #[.int .i64 a0_0, .int .i64 a0_1, .slice A0_2 l0_2.length c0_2] 38 (0, 0)) (by (with_reducible repeat (first | refine blk_drewN ?_ _ | refine blk_drew ?_ | refine blk_alloc ?_ _)); exact BK124.out) hb); have n1_ := Aside0.mk (blk_below (g := gb125) (o := .cells #[.int .i64 0, .int .i64 0, .slice none 0 0] 46 (0, 0)) (by (with_reducible repeat (first | refine blk_drewN ?_ _ | refine blk_drew ?_ | refine blk_alloc ?_ _)); exact BK125.out) hb); have n2_ := Aside0.mk (below_step (by repeat (first | (with_reducible first | exact HB.out | apply below_alloc | apply pw_below_drewN | apply below_drew1 | refine below_set ?_ GE124.out | refine below_set ?_ GE125.out) | exact HB.out)) hb); have n3_ := Aside0.mk (hbox); have n4_ := Aside0.mk ((by rw [hg]; exact (below_size (by repeat (first | (with_reducible first | exact HB.out | apply below_alloc | apply pw_below_drewN | apply below_drew1 | refine below_set ?_ GE124.out | refine below_set ?_ GE125.out) | exact HB.out))) : w.heap.size ≤ gb126)); have n5_ := Aside0.mk ((by rw [hg]; exact (below_size (by repeat (first | (with_reducible first | exact HB.out | apply below_alloc | apply pw_below_drewN | apply below_drew1 | refine below_set ?_ GE124.out | refine below_set ?_ GE125.out) | exact HB.out))) : w.heap.size ≤ gb126)); have n6_ := Aside0.mk ((by rw [hg]; exact Nat.ne_of_lt (blk_lt (g := gb124) (o := .cells #[.int .i64 a0_0, .int .i64 a0_1, .slice A0_2 l0_2.length c0_2] 38 (0, 0)) (by (with_reducible repeat (first | refine blk_drewN ?_ _ | refine blk_drew ?_ | refine blk_alloc ?_ _)); exact BK124.out)) : gb124 ≠ gb126)); have n7_ := Aside0.mk ((by rw [hg]; exact Nat.ne_of_gt (blk_lt (g := gb124) (o := .cells #[.int .i64 a0_0, .int .i64 a0_1, .slice A0_2 l0_2.length c0_2] 38 (0, 0)) (by (with_reducible repeat (first | refine blk_drewN ?_ _ | refine blk_drew ?_ | refine blk_alloc ?_ _)); exact BK124.out)) : gb126 ≠ gb124)); have n8_ := Aside0.mk ((by rw [hg]; exact Nat.ne_of_lt (blk_lt (g := gb125) (o := .cells #[.int .i64 0, .int .i64 0, .slice none 0 0] 46 (0, 0)) (by (with_reducible repeat (first | refine blk_drewN ?_ _ | refine blk_drew ?_ | refine blk_alloc ?_ _)); exact BK125.out)) : gb125 ≠ gb126)); have n9_ := Aside0.mk ((by rw [hg]; exact Nat.ne_of_gt (blk_lt (g := gb125) (o := .cells #[.int .i64 0, .int .i64 0, .slice none 0 0] 46 (0, 0)) (by (with_reducible repeat (first | refine blk_drewN ?_ _ | refine blk_drew ?_ | refine blk_alloc ?_ _)); exact BK125.out)) : gb126 ≠ gb125)); clear BK124; clear BK125; clear HB; have BK124 := n0_; have BK125 := n1_; have HB := n2_; have BK126 := n3_; have GW126 := n4_; have GE126 := n5_; have NB124_126 := n6_; have NB126_124 := n7_; have NB125_126 := n8_; have NB126_125 := n9_; clear n0_ n1_ n2_ n3_ n4_ n5_ n6_ n7_ n8_ n9_; clear hb hbox hg; have hnb6 := NB124_125.out; have hnc6 := NB125_124.out; have hnb7 := NB124_126.out; have hnc7 := NB126_124.out; have hcz8_0 : w5.cell? ⟨gb124, 0, none⟩ = some (.int .i64 a0_0) := (blk_cell BK124.out 0).trans rfl; have hcz8_1 : w5.cell? ⟨gb124, 1, none⟩ = some (.int .i64 a0_1) := (blk_cell BK124.out 1).trans rfl; have hcz8_2 : w5.cell? ⟨gb124, 2, none⟩ = some (.slice A0_2 l0_2.length c0_2) := (blk_cell BK124.out 2).trans rfl; have hfz8_0 := blk_frozen BK124.out 0; have hfz8_1 := blk_frozen BK124.out 1; have hfz8_2 := blk_frozen BK124.out 2; have hnb9 := NB126_125.out; have hnc9 := NB125_126.out; have hcz10_0 : w5.cell? ⟨gb126, 0, none⟩ = some (.int .i64 0) := (blk_cell BK126.out 0).trans rfl; have hcz10_1 : w5.cell? ⟨gb126, 1, none⟩ = some (.int .i64 0) := (blk_cell BK126.out 1).trans rfl; have hcz10_2 : w5.cell? ⟨gb126, 2, none⟩ = some (.slice none 0 0) := (blk_cell BK126.out 2).trans rfl; have hfz10_0 := blk_frozen BK126.out 0; have hfz10_1 := blk_frozen BK126.out 1; have hfz10_2 := blk_frozen BK126.out 2) | ((with_reducible refine gate_callee (f := 16) rfl ?_); refine goesL_ (some 12) rfl rfl Try.func16 (by kernel_rfl) rfl #[.slice A0_2 l0_2.length c0_2] rfl (by (try simp only [List.map_toArray, List.map_cons, List.map_nil]); first | done | rfl | (simp only [List.length_drop, List.length_take]; rfl)) ?_; (with_reducible refine (laws_toIntS.calls k _ _ l0_2 t127 _ ?side1 ?side2 A2.out).mono ?_); (case side1 => exact Kd.C_below HR0_2.out (by repeat (first | (with_reducible first | exact HB.out | apply below_alloc | apply pw_below_drewN | apply below_drew1 | refine below_set ?_ GE124.out | refine below_set ?_ GE125.out | refine below_set ?_ GE126.out) | exact HB.out))); (case side2 => exact HC0_2.out); rintro e w11 ⟨v128, rfl, ho0, hb⟩; refine ⟨_, rfl, ?_⟩; have n0_ := Aside0.mk (Kd.R_lower ho0 (below_size (by repeat (first | (with_reducible first | exact HB.out | apply below_alloc | apply pw_below_drewN | apply below_drew1 | refine below_set ?_ GE124.out | refine below_set ?_ GE125.out | refine below_set ?_ GE126.out) | exact HB.out)))); have n1_ := Aside0.mk (blk_below (g := gb124) (o := .cells #[.int .i64 a0_0, .int .i64 a0_1, .slice A0_2 l0_2.length c0_2] 38 (0, 0)) (by (with_reducible repeat (first | refine blk_drewN ?_ _ | refine blk_drew ?_ | refine blk_alloc ?_ _)); refine blk_far ?_ NB124_126.out _; (with_reducible repeat (first | refine blk_drewN ?_ _ | refine blk_drew ?_ | refine blk_alloc ?_ _)); refine blk_far ?_ NB124_126.out _; (with_reducible repeat (first | refine blk_drewN ?_ _ | refine blk_drew ?_ | refine blk_alloc ?_ _)); exact BK124.out) hb); have n2_ := Aside0.mk (blk_below (g := gb125) (o := .cells #[.int .i64 0, .int .i64 0, .slice none 0 0] 46 (0, 0)) (by (with_reducible repeat (first | refine blk_drewN ?_ _ | refine blk_drew ?_ | refine blk_alloc ?_ _)); refine blk_far ?_ NB125_126.out _; (with_reducible repeat (first | refine blk_drewN ?_ _ | refine blk_drew ?_ | refine blk_alloc ?_ _)); refine blk_far ?_ NB125_126.out _; (with_reducible repeat (first | refine blk_drewN ?_ _ | refine blk_drew ?_ | refine blk_alloc ?_ _)); exact BK125.out) hb); have n3_ := Aside0.mk (blk_below (g := gb126) (o := .cells #[.int .i64 a0_0, .int .i64 a0_1, .slice none 0 0] 46 (0, 0)) (by (with_reducible repeat (first | refine blk_drewN ?_ _ | refine blk_drew ?_ | refine blk_alloc ?_ _)); refine blk_put (cs := #[.int .i64 a0_0, .int .i64 0, .slice none 0 0]) ?_ 1 _ rfl; (with_reducible repeat (first | refine blk_drewN ?_ _ | refine blk_drew ?_ | refine blk_alloc ?_ _)); refine blk_put (cs := #[.int .i64 0, .int .i64 0, .slice none 0 0]) ?_ 0 _ rfl; (with_reducible repeat (first | refine blk_drewN ?_ _ | refine blk_drew ?_ | refine blk_alloc ?_ _)); exact BK126.out) hb); have n4_ := Aside0.mk (below_step (by repeat (first | (with_reducible first | exact HB.out | apply below_alloc | apply pw_below_drewN | apply below_drew1 | refine below_set ?_ GE124.out | refine below_set ?_ GE125.out | refine below_set ?_ GE126.out) | exact HB.out)) hb); clear BK124; clear BK125; clear BK126; clear HB; have HO129 := n0_; have BK124 := n1_; have BK125 := n2_; have BK126 := n3_; have HB := n4_; clear n0_ n1_ n2_ n3_ n4_; (try clear hb); (try clear hb2); (try clear hk); (try clear hi); (try clear ho0); obtain ⟨Ao12, co12, eo12⟩ := Kd.R_slice HO129.out; subst eo12; have hcz13_0 : w11.cell? ⟨gb126, 0, none⟩ = some (.int .i64 a0_0) := (blk_cell BK126.out 0).trans rfl; have hcz13_1 : w11.cell? ⟨gb126, 1, none⟩ = some (.int .i64 a0_1) := (blk_cell BK126.out 1).trans rfl; have hcz13_2 : w11.cell? ⟨gb126, 2, none⟩ = some (.slice none 0 0) := (blk_cell BK126.out 2).trans rfl; have hfz13_0 := blk_frozen BK126.out 0; have hfz13_1 := blk_frozen BK126.out 1; have hfz13_2 := blk_frozen BK126.out 2; have hcz14_0 : w11.cell? ⟨gb125, 0, none⟩ = some (.int .i64 0) := (blk_cell BK125.out 0).trans rfl; have hcz14_1 : w11.cell? ⟨gb125, 1, none⟩ = some (.int .i64 0) := (blk_cell BK125.out 1).trans rfl; have hcz14_2 : w11.cell? ⟨gb125, 2, none⟩ = some (.slice none 0 0) := (blk_cell BK125.out 2).trans rfl; have hfz14_0 := blk_frozen BK125.out 0; have hfz14_1 := blk_frozen BK125.out 1; have hfz14_2 := blk_frozen BK125.out 2))
 refine bodyPost_ret (results_cell_row rfl _ _ gb125 46 #[.int .i64 a0_0, .int .i64 a0_1, .slice Ao12 t127.length co12] (0, 0) _ rfl (by (with_reducible repeat (first | refine blk_drewN ?_ _ | refine blk_drew ?_ | refine blk_alloc ?_ _)); refine blk_put (cs := #[.int .i64 a0_0, .int .i64 a0_1, .slice none 0 0]) ?_ 2 _ rfl; (with_reducible repeat (first | refine blk_drewN ?_ _ | refine blk_drew ?_ | refine blk_alloc ?_ _)); refine blk_put (cs := #[.int .i64 a0_0, .int .i64 0, .slice none 0 0]) ?_ 1 _ rfl; (with_reducible repeat (first | refine blk_drewN ?_ _ | refine blk_drew ?_ | refine blk_alloc ?_ _)); refine blk_put (cs := #[.int .i64 0, .int .i64 0, .slice none 0 0]) ?_ 0 _ rfl; (with_reducible repeat (first | refine blk_drewN ?_ _ | refine blk_drew ?_ | refine blk_alloc ?_ _)); refine blk_far ?_ NB125_126.out _; (with_reducible repeat (first | refine blk_drewN ?_ _ | refine blk_drew ?_ | refine blk_alloc ?_ _)); exact BK125.out) Try.underlying46 rfl (by kernel_rfl)) rfl ?_
 exact ⟨_, by first | rfl | (simp [errW_none, errW_some] <;> rfl) | (simp [*, errW_none, errW_some] <;> rfl), by (with_reducible repeat (first | apply Kd.R_alloc | apply Kd.R_drewN | apply Kd.R_drew)); exact Kd.R_mono (Kd.R_far (p := ⟨gb125, 2, none⟩) (Kd.R_far (p := ⟨gb125, 1, none⟩) (Kd.R_far (p := ⟨gb125, 0, none⟩) (Kd.R_far (p := ⟨gb126, 2, none⟩) (Kd.R_types (Kd.R_types HO129.out BK126.out (by decide)) BK125.out (by decide)) (fun _ hk => hk.1.2) (.slice Ao12 t127.length co12)) (fun _ hk => hk.2) (.int .i64 a0_0)) (fun _ hk => hk.2) (.int .i64 a0_1)) (fun _ hk => hk.2) (.slice Ao12 t127.length co12)) (fun _ hk => trivial), by repeat (first | (with_reducible first | exact HB.out | apply below_alloc | apply pw_below_drewN | apply below_drew1 | refine below_set ?_ GE124.out | refine below_set ?_ GE125.out | refine below_set ?_ GE126.out) | exact HB.out)⟩
end Go.Proofs.Ytdlebbmmanjffaa.A
end

section
namespace Go.Proofs.Ytdlebbmmanjffaa.A
open Go.RowKit Go.Proofs.YtdlebbmmanjffaaW.PrintWords Go.Proofs.YtdlebbmmanjffaaW.PrintLast Go.Proofs.YtdlebbmmanjffaaW.PrintMore
attribute [local go_sem] max2_int min2_int max_two min_two max_three min_three max_four min_four   -- for this text's walks alone
set_option linter.unusedVariables false
set_option linter.unusedSimpArgs false
def laws_toJudgeS.l0 : Nat → List (S38) → List (S46) → Int → Option ((List (S46)))
  | 0, _, _, _ => none
  | k + 1, x0, x3, x4 => if x4 < (x0.length : Int) then (if 0 ≤ x4 then ((laws_toJudge.f k ((rd_T38 x0 x4).f0) ((rd_T38 x0 x4).f1) ((rd_T38 x0 x4).f2)).bind fun bt134 => (if x4 < (x3.length : Int) then (laws_toJudgeS.l0 k x0 (x3.set (x4 : Int).toNat (⟨bt134.1, bt134.2.1, bt134.2.2⟩ : S46)) (wrap64 (x4 + 1))) else (none))) else (none)) else (some x3)
def laws_toJudgeS.f (k : Nat) (l0 : List (S38)) : Option ((List (S46))) := if 0 ≤ (l0.length : Int) then (if ((l0.length : Int) : Int).toNat ≤ 7036874417766 then (laws_toJudgeS.l0 k l0 (List.replicate ((l0.length : Int) : Int).toNat z46) 0) else (none)) else (none)
set_option maxHeartbeats 8000000 in
set_option maxRecDepth 100000 in
theorem laws_toJudgeS.calls (k : Nat) (A0 : Option Addr) (c0 : Nat) (l0 : List (S38)) (r : List (S46)) (w : World) (hr0 : Kd.C k38 w A0 l0.length l0) (hc0 : l0.length ≤ c0) (h : laws_toJudgeS.f k l0 = some r) :
  Calls Try.prog 12 #[.slice A0 l0.length c0] w fun e w' => ∃ v0_ : Value, e = .returned (v0_) ∧ Kd.S k46 46 w' w.heap.size (fun _ => True) v0_ r ∧ Below w.heap.size w w' := by
 have hu38 := Try.underlying38
 have hu46 := Try.underlying46
 have HR0 := Aside0.mk hr0
 have HC0 := Aside0.mk hc0
 clear hr0 hc0
 have HB := Aside0.mk (Below.refl w.heap.size w)
 have H : (if 0 ≤ (l0.length : Int) then (if ((l0.length : Int) : Int).toNat ≤ 7036874417766 then (laws_toJudgeS.l0 k l0 (List.replicate ((l0.length : Int) : Int).toNat z46) 0) else (none)) else (none)) = some r := h
 clear h
 by_cases c2 : 0 ≤ (l0.length : Int)
 rotate_left
 ·
  rw [if_neg c2] at H
  exact absurd H (by simp)

 rw [if_pos c2] at H
 have c2b0 := eq_true c2
 have c2b1 : decide (0 ≤ (l0.length : Int)) = true := decide_eq_true c2
 clear c2
 by_cases c3 : ((l0.length : Int) : Int).toNat ≤ 7036874417766
 rotate_left
 ·
  rw [if_neg c3] at H
  exact absurd H (by simp)
 rw [if_pos c3] at H
 have c3b0 := eq_true c3
 have c3b1 : decide (((l0.length : Int) : Int).toNat ≤ 7036874417766) = true := decide_eq_true c3
 clear c3
 obtain ⟨y130, hy130⟩ : ∃ y_ : List (S46), y_ = (List.replicate ((l0.length : Int) : Int).toNat z46) := ⟨_, rfl⟩
 replace H : (laws_toJudgeS.l0 k l0 y130 0) = some r := by first | (rw [hy130]; with_reducible exact H) | (have H2_ := (Option.bind_some _ _).symm.trans H; rw [hy130]; with_reducible exact H2_) | (have H2_ := (Option.bind_some _ _).symm.trans H; with_reducible exact H2_) | with_reducible exact H | (rw [hy130]; exact H) | exact H
 have Ny130 := Aside0.mk hy130
 clear hy130
 have H' := Aside0.mk H
 clear H
 go_enter Try.func12, Try.ntmps12
 go_wp2_with (first | ((with_reducible refine gate_dst (N := 7) rfl ?_); refine Kd.S_make k46 _ 46 rfl (N := 7) rfl 25 _ _ rfl (l0.length : Int) rfl rfl Try.underlying25 (.agg #[(.int .i64 0), (.int .i64 0), (.slice none 0 0)]) 40 info46 rfl (by decide) (by omega) z46 (ok := fun _ => True) (okp := fun _ => True) (k46_mkM _ _ _ z46 (Kd.R_nil _ _ _ _ _)) (fun _ hk => hk) trivial (of_decide_eq_true (by first | (with_reducible assumption) | assumption)) (Nat.le_trans (Nat.mul_le_mul_right _ (of_decide_eq_true (by first | (with_reducible assumption) | assumption) : (l0.length : Int).toNat ≤ 7036874417766)) (by omega)) (Below.refl _ _) (Nat.le_refl _) ?_; intro v131 w4 ho5 hb hg_ hnew_; clear hg_ hnew_; (first | rw [← Ny130.out] at ho5 | (simp only [Int.reduceToNat] at ho5; rw [← Ny130.out] at ho5)); have n0_ := Aside0.mk (Kd.S_lower ho5 (below_size (by repeat (first | (with_reducible first | exact HB.out | apply below_alloc | apply pw_below_drewN | apply below_drew1) | exact HB.out)))); have n1_ := Aside0.mk (below_step (by repeat (first | (with_reducible first | exact HB.out | apply below_alloc | apply pw_below_drewN | apply below_drew1) | exact HB.out)) hb); clear HB; have HO132 := n0_; have HB := n1_; clear n0_ n1_; clear hb ho5))
 go_loopg [4] k (fun kq v4 w' => ∃ (x3_1 : List (S46)) (x4_1 : Int), v4 = .int .i64 x4_1 ∧ Aside0 (laws_toJudgeS.l0 kq l0 x3_1 x4_1 = some r) ∧ Aside0 (kq ≤ k) ∧ Aside0 (Kd.S k46 46 w' w.heap.size (fun _ => True) v131 x3_1) ∧ Aside0 (Below w.heap.size w w'))
 case atStart => exact ⟨(y130), (0), (by first | rfl | (simp; done) | (simp [*]; done)), H', ⟨Nat.le_refl _⟩, ⟨by (with_reducible repeat (first | apply Kd.S_alloc | apply Kd.S_drewN | apply Kd.S_drew)); exact HO132.out⟩, ⟨by repeat (first | (with_reducible first | exact HB.out | apply below_alloc | apply pw_below_drewN | apply below_drew1) | exact HB.out)⟩⟩
 case round =>
  clear H'
  try clear c1
  try clear c2
  try clear c2b0
  try clear c2b1
  try clear p2
  try clear c3
  try clear c3b0
  try clear c3b1
  obtain ⟨x3_1, x4_1, rfl, HA, HK1, HO_3, HB⟩ := hrel
  cases gk with
  | zero => exact absurd HA.out (by simp [laws_toJudgeS.l0])
  | succ k1 =>
   have H := HA.out
   clear HA
   simp only [laws_toJudgeS.l0] at H
   by_cases c6 : x4_1 < (l0.length : Int)
   rotate_left
   ·
    rw [if_neg c6] at H
    have c6b0 : decide (x4_1 < (l0.length : Int)) = false := decide_eq_false c6
    clear c6
    obtain rfl := Option.some.inj H
    go_wp2
    all_goals (go_ret; exact ⟨_, by first | rfl | (simp [errW_none, errW_some] <;> rfl) | (simp [*, errW_none, errW_some] <;> rfl), by (with_reducible repeat (first | apply Kd.S_alloc | apply Kd.S_drewN | apply Kd.S_drew)); exact HO_3.out, by repeat (first | (with_reducible first | exact HB.out | apply below_alloc | apply pw_below_drewN | apply below_drew1) | exact HB.out)⟩)
   rw [if_pos c6] at H
   have c6b0 : decide (x4_1 < (l0.length : Int)) = true := decide_eq_true c6
   clear c6
   by_cases c7 : 0 ≤ x4_1
   rotate_left
   ·
    rw [if_neg c7] at H
    exact absurd H (by simp)
   rw [if_pos c7] at H
   have c7b0 : decide (0 ≤ x4_1) = true := decide_eq_true c7
   clear c7
   replace H := Option.bind_eq_some_iff.mp H
   obtain ⟨⟨t134, t135, t136⟩, A80, H⟩ := H
   replace H : (if x4_1 < (x3_1.length : Int) then (laws_toJudgeS.l0 k1 l0 (x3_1.set (x4_1 : Int).toNat (⟨t134, t135, t136⟩ : S46)) (wrap64 (x4_1 + 1))) else (none)) = some r := H
   have A8 := Aside0.mk A80
   clear A80
   by_cases c9 : x4_1 < (x3_1.length : Int)
   rotate_left
   ·
    rw [if_neg c9] at H
    exact absurd H (by simp)
   rw [if_pos c9] at H
   have c9b0 : decide (x4_1 < (x3_1.length : Int)) = true := decide_eq_true c9
   clear c9
   obtain ⟨y139, hy139⟩ : ∃ y_ : List (S46), y_ = (x3_1.set (x4_1 : Int).toNat (⟨t134, t135, t136⟩ : S46)) := ⟨_, rfl⟩
   replace H : (laws_toJudgeS.l0 k1 l0 y139 (wrap64 (x4_1 + 1))) = some r := by first | (rw [hy139]; with_reducible exact H) | (have H2_ := (Option.bind_some _ _).symm.trans H; rw [hy139]; with_reducible exact H2_) | (have H2_ := (Option.bind_some _ _).symm.trans H; with_reducible exact H2_) | with_reducible exact H | (rw [hy139]; exact H) | exact H
   have Ny139 := Aside0.mk hy139
   clear hy139
   have H' := Aside0.mk H
   clear H
   have p133 : 0 ≤ (x4_1 : Int) := of_decide_eq_true (by first | (with_reducible assumption) | assumption)
   have q133 : x4_1 < (l0.length : Int) := of_decide_eq_true (by first | (with_reducible assumption) | assumption)
   obtain ⟨ad133, A133_2, c133_2, e133, hx133_0, hx133_1, hx133_2, hl133_2, hi133_2⟩ := at_T38 HR0.out x4_1 p133 q133
   cases e133
   replace hx133_0 := (HB.out.cell (World.block_lt_of_cell? w _ hx133_0)).trans hx133_0
   replace hx133_1 := (HB.out.cell (World.block_lt_of_cell? w _ hx133_1)).trans hx133_1
   replace hx133_2 := (HB.out.cell (World.block_lt_of_cell? w _ hx133_2)).trans hx133_2
   have HR133_2 := Aside0.mk hi133_2
   have HC133_2 := Aside0.mk hl133_2
   clear hi133_2 hl133_2
   replace p133 := eq_true p133
   replace q133 := eq_true q133
   go_wp2_with (first | ((with_reducible refine gate_callee (f := 26) rfl ?_); refine goesL_ (some 20) rfl rfl Try.func26 (by kernel_rfl) rfl #[.agg #[.int .i64 ((rd_T38 l0 x4_1).f0), .int .i64 ((rd_T38 l0 x4_1).f1), .slice A133_2 ((rd_T38 l0 x4_1).f2).length c133_2]] rfl (by (try simp only [List.map_toArray, List.map_cons, List.map_nil]); first | done | rfl | (simp only [List.length_drop, List.length_take]; rfl)) ?_; (with_reducible refine (laws_toJudge.calls k1 ((rd_T38 l0 x4_1).f0) ((rd_T38 l0 x4_1).f1) _ _ ((rd_T38 l0 x4_1).f2) t134 t135 t136 _ ?side1 ?side2 A8.out).mono ?_); (case side1 => repeat (first | exact (Kd.C_below HR133_2.out HB.out) | (with_reducible refine Kd.C_alloc ?_ _) | (with_reducible refine Kd.C_drewN ?_ _) | (with_reducible refine Kd.C_drew ?_))); (case side2 => exact HC133_2.out); rintro e w11 ⟨v137, rfl, ho0, hb⟩; refine ⟨_, rfl, ?_⟩; have n0_ := Aside0.mk (Kd.S_elder' (by (with_reducible repeat (first | apply Kd.S_alloc | apply Kd.S_drewN | apply Kd.S_drew)); exact HO_3.out) (Kd.R_base ho0) hb); have n1_ := Aside0.mk (Kd.R_lower ho0 (below_size (by repeat (first | (with_reducible first | exact HB.out | apply below_alloc | apply pw_below_drewN | apply below_drew1) | exact HB.out)))); have n2_ := Aside0.mk (below_step (by repeat (first | (with_reducible first | exact HB.out | apply below_alloc | apply pw_below_drewN | apply below_drew1) | exact HB.out)) hb); clear HO_3; clear HB; have HO_3 := n0_; have HO138 := n1_; have HB := n2_; clear n0_ n1_ n2_; (try clear hb); (try clear hb2); (try clear hk); (try clear hi); (try clear ho0); have p10 : 0 ≤ (x4_1 : Int) := of_decide_eq_true (by first | (with_reducible assumption) | assumption); have q10 : (x4_1 : Int) < ((x3_1.length : Int) : Int) := of_decide_eq_true (by first | (with_reducible assumption) | assumption); obtain ⟨go10, co10, eo10, gb10, gl10, cl10, HG10⟩ := Kd.S_form HO_3.out (by omega); (first | cases eo10 | (injection eo10 with ea_ en_ ec_; (first | subst ea_ | (injection ea_ with ea_; subst ea_)); subst ec_; clear en_)); have GB10 := Aside0.mk gb10; have GG10 := Aside0.mk HG10; clear gb10 gl10 HG10; obtain ⟨_, ce10, hcl10, hM10, hcc10, hfr10, _, _⟩ := Kd.S_elem HO_3.out z46 (x4_1 : Int) p10 q10; obtain ⟨ve10_2, rfl, ge10_2⟩ := k46_openM hM10; have hx10_0 : w11.cell? ⟨go10, (x4_1 : Int).toNat * 3, none⟩ = some (.int .i64 ((rd_T46 x3_1 x4_1).f0)) := hcc10 0 _ rfl; have hx10_1 : w11.cell? ⟨go10, (x4_1 : Int).toNat * 3 + 1, none⟩ = some (.int .i64 ((rd_T46 x3_1 x4_1).f1)) := hcc10 1 _ rfl; have hx10_2 : w11.cell? ⟨go10, (x4_1 : Int).toNat * 3 + 2, none⟩ = some (ve10_2) := hcc10 2 _ rfl; have hf10_0 : w11.frozen? ⟨go10, (x4_1 : Int).toNat * 3, none⟩ = false := hfr10 0; have hf10_1 : w11.frozen? ⟨go10, (x4_1 : Int).toNat * 3 + 1, none⟩ = false := hfr10 1; have hf10_2 : w11.frozen? ⟨go10, (x4_1 : Int).toNat * 3 + 2, none⟩ = false := hfr10 2; (try clear hcl10); (try clear hcc10); (try clear hfr10); (try clear hM10); replace p10 := eq_true p10; replace q10 := eq_true q10; have n_ := Aside0.mk (Kd.S_mono (ok' := (fun k_ => some k_ ≠ (v137 : Value).ownBlock)) HO_3.out (fun k_ hk => hk.2)); clear HO_3; have HO_3 := n_; clear n_; have HX12 := Aside0.mk (show Kd.S k46 46 w11 w.heap.size (fun k_ => ((fun _ => True)) k_ ∧ ¬ ((fun k_ => some k_ = (v137 : Value).ownBlock)) k_) (.slice (some ⟨go10, 0, none⟩) x3_1.length co10) x3_1 from (by (with_reducible repeat (first | apply Kd.S_alloc | apply Kd.S_drewN | apply Kd.S_drew)); exact Kd.S_mono HO_3.out (fun k_ hk => ⟨trivial, fun e_ => hk e_⟩))); obtain ⟨oki12, ce12, hcl12, hM12, hcc12, hfr12, hoki12, hH12⟩ := Kd.S_elem HX12.out z46 (x4_1 : Int) (of_decide_eq_true (by first | (with_reducible assumption) | assumption)) (by have h_ : (x4_1 : Int) < ((x3_1.length : Int) : Int) := of_decide_eq_true (by first | (with_reducible assumption) | assumption); first | exact h_ | (have e_ := (Kd.S_reads' HO_3.out).1; omega) | simpa using h_); obtain ⟨ve12_2, rfl, ge12_2⟩ := k46_openM hM12; have HP12 := Kd.S_seg hH12 (of_decide_eq_true (by first | (with_reducible assumption) | assumption)) (by have h_ : (x4_1 : Int) < ((x3_1.length : Int) : Int) := of_decide_eq_true (by first | (with_reducible assumption) | assumption); first | exact h_ | (have e_ := (Kd.S_reads' HO_3.out).1; omega) | simpa using h_) (seg := [.int .i64 t134, .int .i64 t135, v137]) (j := 0) (show 3 ≤ 3 from by decide) (x' := (⟨t134, t135, t136⟩ : S46)) (k46_mkM _ _ _ (⟨t134, t135, t136⟩ : S46) (Kd.R_mono (Kd.R_tight rfl (Kd.R_mono (ok' := fun k_ => ((fun _ => True)) k_ ∧ k_ ≠ go10) (Kd.R_apart' (HO138.out) (Kd.S_typed HO_3.out) (by decide)) (fun k_ hk => ⟨trivial, fun e_ => (hk.2) (by rw [e_]; rfl)⟩))) (fun _ h_ => Or.inr (h_)))) (fun _ hk => hk) (fun k_ hk_ => ((Kd.R_mono (ok' := fun k_ => ((fun _ => True)) k_ ∧ k_ ≠ go10) (Kd.R_apart' (HO138.out) (Kd.S_typed HO_3.out) (by decide)) (fun k_ hk => ⟨trivial, fun e_ => (hk.2) (by rw [e_]; rfl)⟩))).1 k_ hk_.symm); have hx12_0 := hcc12 0 _ rfl; (try simp only [show (k46).sz = 3 from rfl, Nat.mul_one, Nat.add_zero] at hx12_0); have hf12_0 := hfr12 0; (try simp only [show (k46).sz = 3 from rfl, Nat.mul_one, Nat.add_zero] at hf12_0); have hx12_1 := hcc12 1 _ rfl; (try simp only [show (k46).sz = 3 from rfl, Nat.mul_one, Nat.add_zero] at hx12_1); have hf12_1 := hfr12 1; (try simp only [show (k46).sz = 3 from rfl, Nat.mul_one, Nat.add_zero] at hf12_1); have hx12_2 := hcc12 2 _ rfl; (try simp only [show (k46).sz = 3 from rfl, Nat.mul_one, Nat.add_zero] at hx12_2); have hf12_2 := hfr12 2; (try simp only [show (k46).sz = 3 from rfl, Nat.mul_one, Nat.add_zero] at hf12_2); (try clear hcl12); (try clear hcc12); (try clear hfr12); (try clear hM12); (try clear hoki12); (try clear hH12)) | ((with_reducible refine gate_store (t := 46) (p := 21) rfl ?_); refine store_event (t := 46) (p := 21) (v := ?vo_w13) (w1 := (((w11.setCell ⟨go10, (x4_1 : Int).toNat * 3, none⟩ (.int .i64 t134)).setCell ⟨go10, (x4_1 : Int).toNat * 3 + 1, none⟩ (.int .i64 t135)).setCell ⟨go10, (x4_1 : Int).toNat * 3 + 2, none⟩ (v137))) ?hg ?ho ?hn ?hr ?_; (case ho => rfl); (case hg => rfl); (case hn => rfl); (case hr => first | (go_simp; done) | (go_simp; rfl) | (obtain ⟨_, _, e_⟩ := Kd.R_slice HO138.out; subst e_; first | (go_simp; done) | (go_simp; rfl))); intro w13 hw; have hg : w11.grownBy w13 (some go10) := (by rw [hw]; exact HP12.2); have hp_ : Kd.S k46 46 w13 w.heap.size (fun _ => True) (.slice (some ⟨go10, 0, none⟩) x3_1.length co10) y139 := (by rw [hw, Ny139.out]; exact HP12.1); clear HP12; have n0_ := Aside0.mk (hp_); have n1_ := Aside0.mk ((by rw [hw]; exact below_set (below_set (below_set (HB.out) GB10.out) GB10.out) GB10.out : Below w.heap.size w w13)); clear HO_3; clear HB; clear HO138; have HO_3 := n0_; have HB := n1_; clear n0_ n1_; clear hg hw hp_))
   go_roundg k1
   case measure => have := HK1.out; omega
   case rel => exact ⟨(y139), (wrap64 (x4_1 + 1)), (by first | rfl | (simp; done) | (simp [*]; done)), H', ⟨by have := HK1.out; omega⟩, ⟨by (with_reducible repeat (first | apply Kd.S_alloc | apply Kd.S_drewN | apply Kd.S_drew)); exact HO_3.out⟩, ⟨by repeat (first | (with_reducible first | exact HB.out | apply below_alloc | apply pw_below_drewN | apply below_drew1) | exact HB.out)⟩⟩
end Go.Proofs.Ytdlebbmmanjffaa.A
end

section
set_option linter.unusedVariables false
set_option linter.unusedSimpArgs false
namespace Go.Proofs.Ytdlebbmmanjffaa.M
open Go Go.RowKit Go.Proofs.YtdlebbmmanjffaaW.PrintWords
structure MI (P : Nat → Prop) (w w' : World) : Prop where
  os : w'.os = w.os
  tape : w'.tape = w.tape
  output : w'.output = w.output
  size : w.heap.size ≤ w'.heap.size
  keep : ∀ k, k < w.heap.size → ¬ P k → w'.heap[k]? = w.heap[k]?
  int : ∀ p x, w.cell? p = some (.int .i64 x) → ∃ x', w'.cell? p = some (.int .i64 x')
  oth : ∀ p v, w.cell? p = some v → (∀ x, v ≠ .int .i64 x) → w'.cell? p = some v
  froz : ∀ p, p.block < w.heap.size → w'.frozen? p = w.frozen? p
theorem MI.refl (P : Nat → Prop) (w : World) : MI P w w := ⟨rfl, rfl, rfl, Nat.le_refl _, fun _ _ _ => rfl, fun _ x h => ⟨x, h⟩, fun _ _ h _ => h, fun _ _ => rfl⟩
theorem MI.trans {P : Nat → Prop} {a b c : World} (h : MI P a b) (k : MI P b c) : MI P a c where
  os := k.os.trans h.os
  tape := k.tape.trans h.tape
  output := k.output.trans h.output
  size := Nat.le_trans h.size k.size
  keep := fun i hi hn => (k.keep i (Nat.lt_of_lt_of_le hi h.size) hn).trans (h.keep i hi hn)
  int := fun p x hx => by
    obtain ⟨y, hy⟩ := h.int p x hx
    exact k.int p y hy
  oth := fun p v hv hn => k.oth p v (h.oth p v hv hn) hn
  froz := fun p hp => (k.froz p (Nat.lt_of_lt_of_le hp h.size)).trans (h.froz p hp)
theorem MI.drewN {P : Nat → Prop} {a b : World} (h : MI P a b) (n : Nat) : MI P a (b.drewN n) := ⟨h.os, h.tape, h.output, h.size, h.keep, h.int, h.oth, h.froz⟩
theorem MI.drew {P : Nat → Prop} {a b : World} (h : MI P a b) : MI P a b.drew := ⟨h.os, h.tape, h.output, h.size, h.keep, h.int, h.oth, h.froz⟩
theorem heap_set_ne {w : World} {g o k : Nat} {u : Value} (h : k ≠ g) : (w.setCell ⟨g, o, none⟩ u).heap[k]? = w.heap[k]? := by
  simp [World.setCell, Array.getElem?_modify, Ne.symm h]
theorem heap_set_size (w : World) (p : Addr) (u : Value) : (w.setCell p u).heap.size = w.heap.size := by simp [World.setCell]
theorem cell_set_ne {w : World} {g o : Nat} {q : Addr} {u : Value} (h : q.block = g → q.off ≠ o) : (w.setCell ⟨g, o, none⟩ u).cell? q = w.cell? q := by
  unfold World.cell? World.setCell
  simp only [Array.getElem?_modify]
  by_cases e : g = q.block
  · subst e
    simp only [if_true]
    cases w.heap[q.block]? with
    | none => rfl
    | some ob =>
      cases ob with
      | cells c t f =>
        simp only [Option.map_some]
        simp [Array.getElem?_setIfInBounds_ne (h rfl).symm]
      | _ => rfl
  · simp [e]
theorem frozen_set {w : World} {p q : Addr} {u : Value} : (w.setCell p u).frozen? q = w.frozen? q := by
  unfold World.frozen? World.setCell
  simp only [Array.getElem?_modify]
  by_cases e : p.block = q.block
  · simp only [e, if_true]
    cases w.heap[q.block]? with
    | none => rfl
    | some ob => cases ob <;> rfl
  · simp [e]
theorem cell_set_same {w : World} {g o : Nat} {v u : Value} (h : w.cell? ⟨g, o, none⟩ = some v) : (w.setCell ⟨g, o, none⟩ u).cell? ⟨g, o, none⟩ = some u := by
  unfold World.cell? World.setCell at *
  simp only [Array.getElem?_modify, if_true]
  cases e : w.heap[g]? with
  | none => simp [e] at h
  | some ob =>
    cases ob with
    | cells c t f =>
      simp [e] at h
      have := (Array.getElem?_eq_some_iff.1 h).1
      simp [this]
    | _ => simp [e] at h
theorem cell_spot {w : World} {p : Addr} {v : Value} (h : w.cell? p = some v) : p.spot = none := by
  unfold World.cell? at h
  split at h
  · split at h
    · cases h
    · rename_i hs
      simpa using hs
  · cases h
theorem MI.set {P : Nat → Prop} {a b : World} (h : MI P a b) {g o : Nat} {x : Int} (hg : P g) (hc : b.cell? ⟨g, o, none⟩ = some (.int .i64 x)) (y : Int) : MI P a (b.setCell ⟨g, o, none⟩ (.int .i64 y)) := by
  refine h.trans ⟨rfl, rfl, rfl, Nat.le_of_eq (heap_set_size _ _ _).symm, fun k _ hn => heap_set_ne (fun e => hn (e ▸ hg)), fun p x' hx => ?_, fun p v hv hn => ?_, fun p _ => frozen_set⟩
  · by_cases e : p.block = g ∧ p.off = o
    · have hs := cell_spot hx
      obtain ⟨pb, po, ps⟩ := p
      obtain ⟨rfl, rfl⟩ := e
      cases hs
      exact ⟨y, cell_set_same hx⟩
    · exact ⟨x', by rw [cell_set_ne (fun h1 h2 => e ⟨h1, h2⟩)]; exact hx⟩
  · refine (cell_set_ne (fun h1 h2 => ?_)).trans hv
    have hs := cell_spot hv
    obtain ⟨pb, po, ps⟩ := p
    cases h1
    cases h2
    cases hs
    rw [hv] at hc
    exact hn x (Option.some.inj hc)
theorem MI.kept {P : Nat → Prop} {a b : World} (h : MI P a b) : Kept a b P := ⟨h.size, h.keep⟩
theorem MI.below {P : Nat → Prop} {a b : World} (h : MI P a b) {w0 : World} (hb : Below w0.heap.size w0 a) (hp : ∀ k, P k → w0.heap.size ≤ k) : Below w0.heap.size w0 b :=
  hb.trans ⟨h.os, h.tape, h.output, h.size, fun k hk => h.keep k (Nat.lt_of_lt_of_le hk hb.size) (fun hq => by have := hp k hq; omega)⟩
def RowI (P : Nat → Prop) (w : World) (A : Option Addr) (n : Nat) : Prop := n ≤ 4611686018427387904 ∧ (0 < n → ∃ g, A = some ⟨g, 0, none⟩ ∧ P g ∧ g < w.heap.size ∧ ∀ j, j < n → (∃ x, w.cell? ⟨g, j, none⟩ = some (.int .i64 x)) ∧ w.frozen? ⟨g, j, none⟩ = false)
theorem RowI.mi {P Q : Nat → Prop} {w w' : World} {A : Option Addr} {n : Nat} (h : RowI P w A n) (k : MI Q w w') : RowI P w' A n :=
  ⟨h.1, fun hn => by
    obtain ⟨g, e, hp, hlt, hc⟩ := h.2 hn
    exact ⟨g, e, hp, Nat.lt_of_lt_of_le hlt k.size, fun j hj => by
      obtain ⟨⟨x, hx⟩, hf⟩ := hc j hj
      exact ⟨k.int _ x hx, by rw [k.froz _ hlt]; exact hf⟩⟩⟩
theorem RowI.of_R {P : Nat → Prop} {w : World} {base : Nat} {A : Option Addr} {n c : Nat} {xs : List Int} (h : Kd.R (Kd.int .i64) 3 w base P (.slice A n c) xs) (hl : xs.length ≤ 4611686018427387904) : RowI P w A n := by
  obtain ⟨hn, _, _⟩ := Kd.R_reads' h
  subst hn
  refine ⟨hl, fun hp => ?_⟩
  obtain ⟨g, cap, e, _, hlt, _⟩ := Kd.R_form h hp
  injection e with e1 e2 e3
  subst e1 e3
  refine ⟨g, rfl, h.1 g rfl, hlt, fun j hj => ?_⟩
  obtain ⟨h1, h2⟩ := Kd.R_celln 0 h (j : Int) (by omega) (by omega)
  exact ⟨⟨_, by simpa using h1⟩, by simpa using h2⟩
def RowS (m : Nat) (P : Nat → Prop) (w : World) (A : Option Addr) (ns : List Nat) : Prop :=
  ns.length ≤ 4611686018427387904 ∧ (0 < ns.length → ∃ g, A = some ⟨g, 0, none⟩ ∧ P g ∧ g < w.heap.size ∧ ∀ (i : Nat) (hi : i < ns.length), (∀ j, j < m → (∃ x, w.cell? ⟨g, i * (m + 1) + j, none⟩ = some (.int .i64 x)) ∧ w.frozen? ⟨g, i * (m + 1) + j, none⟩ = false) ∧ ∃ B c, w.cell? ⟨g, i * (m + 1) + m, none⟩ = some (.slice B ns[i] c) ∧ RowI P w B ns[i])
theorem RowS.mi {m : Nat} {P Q : Nat → Prop} {w w' : World} {A : Option Addr} {ns : List Nat} (h : RowS m P w A ns) (k : MI Q w w') : RowS m P w' A ns :=
  ⟨h.1, fun hn => by
    obtain ⟨g, e, hp, hlt, hc⟩ := h.2 hn
    refine ⟨g, e, hp, Nat.lt_of_lt_of_le hlt k.size, fun i hi => ?_⟩
    obtain ⟨h1, B, c, h2, h3⟩ := hc i hi
    refine ⟨fun j hj => ?_, B, c, k.oth _ _ h2 (fun x hx => by cases hx), h3.mi k⟩
    obtain ⟨⟨x, hx⟩, hf⟩ := h1 j hj
    exact ⟨k.int _ x hx, by rw [k.froz _ hlt]; exact hf⟩⟩
theorem RowI.mono {P Q : Nat → Prop} {w : World} {A : Option Addr} {n : Nat} (h : RowI P w A n) (hq : ∀ k, P k → Q k) : RowI Q w A n :=
  ⟨h.1, fun hn => by
    obtain ⟨g, e, hp, r⟩ := h.2 hn
    exact ⟨g, e, hq _ hp, r⟩⟩
theorem RowS.of_R {α : Type} {d : Kd α} (m : Nat) (hsz : d.sz = m + 1) (len : α → Nat) {P : Nat → Prop} {w : World} {e base : Nat} {A : Option Addr} {n c : Nat} {l : List α}
    (hM : ∀ {ok : Nat → Prop} {x : α} {cs : List Value}, d.M w base ok x cs → ∃ (zs : List Int) (v : Value) (xs : List Int), cs = zs.map (Value.int .i64) ++ [v] ∧ zs.length = m ∧ xs.length = len x ∧ Kd.R (Kd.int .i64) 3 w base ok v xs)
    (h : Kd.R d e w base P (.slice A n c) l) (hl : l.length ≤ 4611686018427387904) (hx : ∀ x ∈ l, len x ≤ 4611686018427387904) : RowS m P w A (l.map len) := by
  obtain ⟨hn, _, _⟩ := Kd.R_reads' h
  subst hn
  refine ⟨by simpa using hl, fun hp => ?_⟩
  rw [List.length_map] at hp
  obtain ⟨g, cap, e1, _, hlt, _⟩ := Kd.R_form h hp
  obtain ⟨h0, inner, hown, hreps⟩ := h
  injection e1 with e1 e2 e3
  subst e1 e3
  have hfz : ∀ o, w.frozen? ⟨g, o, none⟩ = false := fun o => by
    rcases hown.2 with ⟨e', _⟩ | ⟨g', cap', cur, e', _, hh, _⟩
    · cases e'
    · injection e' with e1 e2 e3
      injection e1 with e1
      injection e1 with e1
      subst e1
      simp [World.frozen?, hh]
  refine ⟨g, rfl, h0 g rfl, hlt, fun i hi => ?_⟩
  rw [List.length_map] at hi
  obtain ⟨zs, v, xs, hcs, hz, hlen, hr⟩ := hM (hreps.2 i l[i] (List.getElem?_eq_getElem hi))
  rw [hsz] at hcs
  have hcell : ∀ (j : Nat) (u : Value), (zs.map (Value.int .i64) ++ [v])[j]? = some u → w.cell? ⟨g, i * (m + 1) + j, none⟩ = some u := fun j u hu => by
    have h1 : inner[i * (m + 1) + j]? = some u := by
      rw [← hcs, List.getElem?_take] at hu
      split at hu
      · rw [List.getElem?_drop] at hu
        exact hu
      · cases hu
    have := hown.cells (g := g) rfl _ u h1
    unfold Addr.add at this
    split at this
    · rename_i h0
      simpa [h0] using this
    · simpa using this
  obtain ⟨B, cB, rfl, _, _⟩ := Kd.R_reads hr
  refine ⟨fun j hj => ⟨⟨zs[j]'(by omega), hcell j _ ?_⟩, hfz _⟩, B, cB, ?_, ?_⟩
  · rw [List.getElem?_append_left (by simp; omega), List.getElem?_map, List.getElem?_eq_getElem (by omega)]
    rfl
  · have := hcell m (.slice B xs.length cB) (by rw [List.getElem?_append_right (by simp [hz])]; simp [hz])
    simpa [hlen] using this
  · have := RowI.mono (RowI.of_R hr (by rw [hlen]; exact hx _ (List.getElem_mem _))) (fun k hk => hk.1)
    simpa [hlen] using this
def tot (m : Nat) : List Nat → Nat
  | [] => 0
  | k :: r => m + k + tot m r
theorem tot_snoc (m : Nat) : ∀ (a : List Nat) (k : Nat), tot m (a ++ [k]) = tot m a + (m + k)
  | [], k => by simp [tot]
  | x :: a, k => by simp only [List.cons_append, tot, tot_snoc m a k]; omega
theorem tot_take (m : Nat) (ns : List Nat) (i : Nat) (hi : i < ns.length) : tot m (ns.take (i + 1)) = tot m (ns.take i) + (m + ns[i]) := by
  rw [List.take_succ_eq_append_getElem hi, tot_snoc]
theorem tot_take_le (m : Nat) : ∀ (ns : List Nat) (i : Nat), tot m (ns.take i) ≤ tot m ns
  | [], i => by simp [tot]
  | k :: r, 0 => by simp [tot]
  | k :: r, i + 1 => by simp only [List.take_succ_cons, tot]; have := tot_take_le m r i; omega
end Go.Proofs.Ytdlebbmmanjffaa.M
end

section
set_option linter.unusedVariables false
set_option linter.unusedSimpArgs false
namespace Go.Proofs.Ytdlebbmmanjffaa.M
open Go.RowKit Go.Proofs.YtdlebbmmanjffaaW.PrintWords Go.Proofs.YtdlebbmmanjffaaW.PrintLast Go.Proofs.YtdlebbmmanjffaaW.PrintMore
set_option maxHeartbeats 4000000 in
set_option maxRecDepth 100000 in
theorem markI_calls (P : Nat → Prop) (A : Option Addr) (n c : Nat) (a1 : Int) (w : World) (h : RowI P w A n) (h0 : 0 ≤ a1) (h1 : a1 + n ≤ 4611686018427387904) :
    Calls Try.prog 20 #[.slice A n c, .int .i64 a1] w fun e w' => e = .returned (.int .i64 (a1 + n)) ∧ MI P w w' := by
  have HR := Aside0.mk h
  have H0 := Aside0.mk h0
  have H1 := Aside0.mk h1
  clear h h0 h1
  go_enter Try.func20, Try.ntmps20
  go_wp2
  go_loopg [1, 5] n (fun gg v1 v5 wr => ∃ (kk : Nat) (x1 : Int), v1 = .int .i64 x1 ∧ v5 = .int .i64 kk ∧ Aside0 (x1 = a1 + kk) ∧ Aside0 (kk ≤ n ∧ n - kk ≤ gg) ∧ Aside0 (MI P w wr))
  case atStart => exact ⟨0, a1, rfl, rfl, ⟨by simp⟩, ⟨by omega⟩, ⟨MI.refl P w⟩⟩
  case round =>
    obtain ⟨kk, x1, rfl, rfl, HX, HI, HM⟩ := hrel
    by_cases hlt : kk < n
    · have hltb : ((kk : Int) < (n : Int)) = True := eq_true (by omega)
      obtain ⟨g, rfl, hP, hgl, hc⟩ := (HR.out.mi HM.out).2 (by omega)
      obtain ⟨⟨x, hx⟩, hf⟩ := hc kk hlt
      have HP := Aside0.mk hP
      have HC : Aside0 (wr.cell? ⟨g, kk, none⟩ = some (.int .i64 x)) := ⟨hx⟩
      have HLT := Aside0.mk hlt
      have HW1 : Aside0 (wrap64 (x1 + 1) = a1 + ((kk + 1 : Nat) : Int)) := ⟨by have := H1.out; have := HX.out; have := H0.out; unfold wrap64; omega⟩
      have HW5 : Aside0 (wrap64 ((kk : Int) + 1) = ((kk + 1 : Nat) : Int)) := ⟨by have := H1.out; have := H0.out; unfold wrap64; omega⟩
      clear hc hP hgl hlt
      go_wp2
      go_roundg (n - (kk + 1))
      case measure => have := HI.out; have := HLT.out; omega
      case rel => exact ⟨kk + 1, wrap64 (x1 + 1), rfl, by rw [HW5.out], HW1, ⟨by have := HLT.out; omega⟩, ⟨HM.out.set HP.out HC.out _⟩⟩
    · have hltb : ((kk : Int) < (n : Int)) = False := eq_false (by omega)
      have HLT := Aside0.mk hlt
      clear hlt
      go_wp2
      go_ret
      refine ⟨?_, HM.out⟩
      have e : x1 = a1 + (n : Int) := by have := HI.out; have := HLT.out; have := HX.out; omega
      rw [← e]
      rfl
theorem drawn_below {w w' : World} (h : Drawn0 w w') : Below w.heap.size w w' := by
  obtain ⟨n, rfl⟩ := h.out
  exact pw_below_drewN (Below.refl _ _) n
theorem own_interval {α : Type} {d : Kd α} {e : Nat} {w w' : World} {v : Value} {xs : List α} (h : Kd.R d e w' w.heap.size (fun _ => True) v xs) : Kd.R d e w' w.heap.size (fun k => w.heap.size ≤ k ∧ k < w'.heap.size) v xs :=
  Kd.R_mono (Kd.R_bound h) (fun k hk => ⟨hk.2.1, hk.2.2.1⟩)
end Go.Proofs.Ytdlebbmmanjffaa.M
end

section
set_option linter.unusedVariables false
set_option linter.unusedSimpArgs false
namespace Go.Proofs.Ytdlebbmmanjffaa.M
open Go.RowKit Go.Proofs.Ytdlebbmmanjffaa.A Go.Proofs.YtdlebbmmanjffaaW.PrintWords Go.Proofs.YtdlebbmmanjffaaW.PrintLast Go.Proofs.YtdlebbmmanjffaaW.PrintMore
set_option maxHeartbeats 8000000 in
set_option maxRecDepth 100000 in
theorem markJudgeS_calls (P : Nat → Prop) (A : Option Addr) (ns : List Nat) (c : Nat) (a1 : Int) (w : World) (h : RowS 2 P w A ns) (h0 : 0 ≤ a1) (h1 : a1 + tot 2 ns ≤ 4611686018427387904) :
    Calls Try.prog 19 #[.slice A ns.length c, .int .i64 a1] w fun e w' => e = .returned (.int .i64 (a1 + tot 2 ns)) ∧ MI P w w' := by
  have HR := Aside0.mk h
  have H0 := Aside0.mk h0
  have H1 := Aside0.mk h1
  have HN := Aside0.mk h.1
  clear h h0 h1
  have hu46 := Try.underlying46
  go_enter Try.func19, Try.ntmps19
  go_wp2
  go_loopg [1, 5] ns.length (fun gg v1 v5 wr => ∃ (kk : Nat) (x1 : Int), v1 = .int .i64 x1 ∧ v5 = .int .i64 kk ∧ Aside0 (x1 = a1 + tot 2 (ns.take kk)) ∧ Aside0 (kk ≤ ns.length ∧ ns.length - kk ≤ gg) ∧ Aside0 (MI P w wr))
  case atStart => exact ⟨0, a1, rfl, rfl, ⟨by simp [tot]⟩, ⟨by omega⟩, ⟨MI.refl P w⟩⟩
  case round =>
    obtain ⟨kk, x1, rfl, rfl, HX, HI, HM⟩ := hrel
    by_cases hlt : kk < ns.length
    · have hltb : ((kk : Int) < (ns.length : Int)) = True := eq_true (by omega)
      obtain ⟨g, rfl, hP, hgl, hc⟩ := (HR.out.mi HM.out).2 (by omega)
      have HP := Aside0.mk hP
      have HLT := Aside0.mk hlt
      have htk := tot_take 2 ns kk hlt
      have htl := tot_take_le 2 ns (kk + 1)
      obtain ⟨nk, hnk⟩ : ∃ nk, ns[kk] = nk := ⟨_, rfl⟩
      rw [hnk] at htk
      have HB : Aside0 (0 ≤ x1 ∧ x1 + 2 + nk ≤ 4611686018427387904) := ⟨by have := H1.out; have := HX.out; have := H0.out; omega⟩
      have HT : Aside0 (x1 + 2 + nk = a1 + tot 2 (ns.take (kk + 1))) := ⟨by have := HX.out; omega⟩
      have HKK : Aside0 (wrap64 ((kk : Int) + 1) = ((kk + 1 : Nat) : Int)) := ⟨by have := HN.out; unfold wrap64; omega⟩
      obtain ⟨hi_, B, cB, hs0, hrB⟩ := hc kk hlt
      rw [hnk] at hs0 hrB
      obtain ⟨⟨y0, hy0⟩, hz0⟩ := hi_ 0 (by omega)
      obtain ⟨⟨y1, hy1⟩, hz1⟩ := hi_ 1 (by omega)
      have hc0 : wr.cell? ⟨g, kk * 3, none⟩ = some (.int .i64 y0) := hy0
      have hf0 : wr.frozen? ⟨g, kk * 3, none⟩ = false := hz0
      have hc1 : ∀ v0 : Int, (World.setCell wr ⟨g, kk * 3, none⟩ (.int .i64 v0)).cell? ⟨g, kk * 3 + 1, none⟩ = some (.int .i64 y1) := fun v0 => (cell_set_ne (fun _ => by show kk * 3 + 1 ≠ kk * 3; omega)).trans hy1
      have hf1 : ∀ v0 : Int, (World.setCell wr ⟨g, kk * 3, none⟩ (.int .i64 v0)).frozen? ⟨g, kk * 3 + 1, none⟩ = false := fun v0 => frozen_set.trans hz1
      have hs : ∀ v0 v1 : Int, (World.setCell (World.setCell wr ⟨g, kk * 3, none⟩ (.int .i64 v0)) ⟨g, kk * 3 + 1, none⟩ (.int .i64 v1)).cell? ⟨g, kk * 3 + 2, none⟩ = some (.slice B nk cB) := fun v0 v1 => (cell_set_ne (fun _ => by show kk * 3 + 2 ≠ kk * 3 + 1; omega)).trans ((cell_set_ne (fun _ => by show kk * 3 + 2 ≠ kk * 3; omega)).trans hs0)
      have HMM : Aside0 (∀ v0 v1 : Int, MI P w (World.setCell (World.setCell wr ⟨g, kk * 3, none⟩ (.int .i64 v0)) ⟨g, kk * 3 + 1, none⟩ (.int .i64 v1))) := ⟨fun v0 v1 => ((HM.out.set HP.out (hc0 ) v0).set HP.out (hc1 v0) v1)⟩
      have HRB : Aside0 (∀ v0 v1 : Int, RowI P (World.setCell (World.setCell wr ⟨g, kk * 3, none⟩ (.int .i64 v0)) ⟨g, kk * 3 + 1, none⟩ (.int .i64 v1)) B nk) := ⟨fun v0 v1 => hrB.mi (((MI.refl P wr).set HP.out (hc0 ) v0).set HP.out (hc1 v0) v1)⟩
      clear hi_ hrB hc hP htk htl hlt hgl hs0 hnk hy0 hz0 hy1 hz1
      have HV : Aside0 (wrap64 (wrap64 (x1 + 1) + 1) = x1 + 2) := ⟨by have := HB.out; unfold wrap64; omega⟩
      go_wp2_with (go_at_call 20; refine (markI_calls P B nk cB _ _ ?q1 ?q2 ?q3).mono ?_; (case q1 => exact HRB.out _ _); (case q2 => rw [HV.out]; have := HB.out; omega); (case q3 => rw [HV.out]; have := HB.out; omega); rintro e w9 ⟨rfl, hm9⟩; have HM9 := Aside0.mk ((HMM.out _ _).trans hm9); clear hm9)
      go_roundg (ns.length - (kk + 1))
      case measure => have := HI.out; have := HLT.out; omega
      case rel => exact ⟨kk + 1, _, rfl, by rw [HKK.out], ⟨by rw [← HT.out, HV.out]⟩, ⟨by have := HLT.out; omega⟩, HM9⟩
    · have hltb : ((kk : Int) < (ns.length : Int)) = False := eq_false (by omega)
      have HLT := Aside0.mk hlt
      clear hlt
      go_wp2
      go_ret
      refine ⟨?_, HM.out⟩
      have e : x1 = a1 + (tot 2 ns : Int) := by
        have h1 := HX.out
        rw [List.take_of_length_le (by have := HI.out; have := HLT.out; omega)] at h1
        exact h1
      rw [← e]
      rfl
theorem markJudges (P : Nat → Prop) (A : Option Addr) (c : Nat) (l : List S46) (a1 : Int) (w : World) {e base : Nat} (h : Kd.R Go.Proofs.Ytdlebbmmanjffaa.A.k46 e w base P (.slice A l.length c) l) (hl : l.length ≤ 4611686018427387904) (hi : ∀ x ∈ l, x.f2.length ≤ 4611686018427387904) (h0 : 0 ≤ a1) (h1 : a1 + tot 2 (l.map (fun x => x.f2.length)) ≤ 4611686018427387904) :
    Calls Try.prog 19 #[.slice A l.length c, .int .i64 a1] w fun e w' => e = .returned (.int .i64 (a1 + tot 2 (l.map (fun x => x.f2.length)))) ∧ MI P w w' := by
  have hm : ∀ {ok : Nat → Prop} {x : S46} {cs : List Value}, (Go.Proofs.Ytdlebbmmanjffaa.A.k46).M w base ok x cs → ∃ (zs : List Int) (v : Value) (xs : List Int), cs = zs.map (Value.int .i64) ++ [v] ∧ zs.length = 2 ∧ xs.length = x.f2.length ∧ Kd.R (Kd.int .i64) 3 w base ok v xs := by
    intro ok x cs h
    obtain ⟨c0, r0, rfl, h0, c1, r1, rfl, h1, v, rfl, hr⟩ := h
    cases h0
    cases h1
    exact ⟨[x.f0, x.f1], v, x.f2, rfl, rfl, rfl, hr⟩
  have := markJudgeS_calls P A (l.map (fun x => x.f2.length)) c a1 w (RowS.of_R 2 rfl (fun x => x.f2.length) hm h hl hi) h0 h1
  rw [List.length_map] at this
  exact this
end Go.Proofs.Ytdlebbmmanjffaa.M
end

section
set_option linter.unusedVariables false
set_option linter.unusedSimpArgs false
namespace Go.Proofs.Ytdlebbmmanjffaa.M
open Go.RowKit Go.Proofs.Ytdlebbmmanjffaa.A Go.Proofs.YtdlebbmmanjffaaW.PrintWords Go.Proofs.YtdlebbmmanjffaaW.PrintLast Go.Proofs.YtdlebbmmanjffaaW.PrintMore
set_option maxHeartbeats 8000000 in
set_option maxRecDepth 100000 in
theorem markTeamS_calls (P : Nat → Prop) (A : Option Addr) (ns : List Nat) (c : Nat) (a1 : Int) (w : World) (h : RowS 5 P w A ns) (h0 : 0 ≤ a1) (h1 : a1 + tot 5 ns ≤ 4611686018427387904) :
    Calls Try.prog 38 #[.slice A ns.length c, .int .i64 a1] w fun e w' => e = .returned (.int .i64 (a1 + tot 5 ns)) ∧ MI P w w' := by
  have HR := Aside0.mk h
  have H0 := Aside0.mk h0
  have H1 := Aside0.mk h1
  have HN := Aside0.mk h.1
  clear h h0 h1
  have hu78 := Try.underlying78
  go_enter Try.func38, Try.ntmps38
  go_wp2
  go_loopg [1, 5] ns.length (fun gg v1 v5 wr => ∃ (kk : Nat) (x1 : Int), v1 = .int .i64 x1 ∧ v5 = .int .i64 kk ∧ Aside0 (x1 = a1 + tot 5 (ns.take kk)) ∧ Aside0 (kk ≤ ns.length ∧ ns.length - kk ≤ gg) ∧ Aside0 (MI P w wr))
  case atStart => exact ⟨0, a1, rfl, rfl, ⟨by simp [tot]⟩, ⟨by omega⟩, ⟨MI.refl P w⟩⟩
  case round =>
    obtain ⟨kk, x1, rfl, rfl, HX, HI, HM⟩ := hrel
    by_cases hlt : kk < ns.length
    · have hltb : ((kk : Int) < (ns.length : Int)) = True := eq_true (by omega)
      obtain ⟨g, rfl, hP, hgl, hc⟩ := (HR.out.mi HM.out).2 (by omega)
      have HP := Aside0.mk hP
      have HLT := Aside0.mk hlt
      have htk := tot_take 5 ns kk hlt
      have htl := tot_take_le 5 ns (kk + 1)
      obtain ⟨nk, hnk⟩ : ∃ nk, ns[kk] = nk := ⟨_, rfl⟩
      rw [hnk] at htk
      have HB : Aside0 (0 ≤ x1 ∧ x1 + 5 + nk ≤ 4611686018427387904) := ⟨by have := H1.out; have := HX.out; have := H0.out; omega⟩
      have HT : Aside0 (x1 + 5 + nk = a1 + tot 5 (ns.take (kk + 1))) := ⟨by have := HX.out; omega⟩
      have HKK : Aside0 (wrap64 ((kk : Int) + 1) = ((kk + 1 : Nat) : Int)) := ⟨by have := HN.out; unfold wrap64; omega⟩
      obtain ⟨hi_, B, cB, hs0, hrB⟩ := hc kk hlt
      rw [hnk] at hs0 hrB
      obtain ⟨⟨y0, hy0⟩, hz0⟩ := hi_ 0 (by omega)
      obtain ⟨⟨y1, hy1⟩, hz1⟩ := hi_ 1 (by omega)
      obtain ⟨⟨y2, hy2⟩, hz2⟩ := hi_ 2 (by omega)
      obtain ⟨⟨y3, hy3⟩, hz3⟩ := hi_ 3 (by omega)
      obtain ⟨⟨y4, hy4⟩, hz4⟩ := hi_ 4 (by omega)
      have hc0 : wr.cell? ⟨g, kk * 6, none⟩ = some (.int .i64 y0) := hy0
      have hf0 : wr.frozen? ⟨g, kk * 6, none⟩ = false := hz0
      have hc1 : ∀ v0 : Int, (World.setCell wr ⟨g, kk * 6, none⟩ (.int .i64 v0)).cell? ⟨g, kk * 6 + 1, none⟩ = some (.int .i64 y1) := fun v0 => (cell_set_ne (fun _ => by show kk * 6 + 1 ≠ kk * 6; omega)).trans hy1
      have hf1 : ∀ v0 : Int, (World.setCell wr ⟨g, kk * 6, none⟩ (.int .i64 v0)).frozen? ⟨g, kk * 6 + 1, none⟩ = false := fun v0 => frozen_set.trans hz1
      have hc2 : ∀ v0 v1 : Int, (World.setCell (World.setCell wr ⟨g, kk * 6, none⟩ (.int .i64 v0)) ⟨g, kk * 6 + 1, none⟩ (.int .i64 v1)).cell? ⟨g, kk * 6 + 2, none⟩ = some (.int .i64 y2) := fun v0 v1 => (cell_set_ne (fun _ => by show kk * 6 + 2 ≠ kk * 6 + 1; omega)).trans ((cell_set_ne (fun _ => by show kk * 6 + 2 ≠ kk * 6; omega)).trans hy2)
      have hf2 : ∀ v0 v1 : Int, (World.setCell (World.setCell wr ⟨g, kk * 6, none⟩ (.int .i64 v0)) ⟨g, kk * 6 + 1, none⟩ (.int .i64 v1)).frozen? ⟨g, kk * 6 + 2, none⟩ = false := fun v0 v1 => frozen_set.trans (frozen_set.trans hz2)
      have hc3 : ∀ v0 v1 v2 : Int, (World.setCell (World.setCell (World.setCell wr ⟨g, kk * 6, none⟩ (.int .i64 v0)) ⟨g, kk * 6 + 1, none⟩ (.int .i64 v1)) ⟨g, kk * 6 + 2, none⟩ (.int .i64 v2)).cell? ⟨g, kk * 6 + 3, none⟩ = some (.int .i64 y3) := fun v0 v1 v2 => (cell_set_ne (fun _ => by show kk * 6 + 3 ≠ kk * 6 + 2; omega)).trans ((cell_set_ne (fun _ => by show kk * 6 + 3 ≠ kk * 6 + 1; omega)).trans ((cell_set_ne (fun _ => by show kk * 6 + 3 ≠ kk * 6; omega)).trans hy3))
      have hf3 : ∀ v0 v1 v2 : Int, (World.setCell (World.setCell (World.setCell wr ⟨g, kk * 6, none⟩ (.int .i64 v0)) ⟨g, kk * 6 + 1, none⟩ (.int .i64 v1)) ⟨g, kk * 6 + 2, none⟩ (.int .i64 v2)).frozen? ⟨g, kk * 6 + 3, none⟩ = false := fun v0 v1 v2 => frozen_set.trans (frozen_set.trans (frozen_set.trans hz3))
      have hc4 : ∀ v0 v1 v2 v3 : Int, (World.setCell (World.setCell (World.setCell (World.setCell wr ⟨g, kk * 6, none⟩ (.int .i64 v0)) ⟨g, kk * 6 + 1, none⟩ (.int .i64 v1)) ⟨g, kk * 6 + 2, none⟩ (.int .i64 v2)) ⟨g, kk * 6 + 3, none⟩ (.int .i64 v3)).cell? ⟨g, kk * 6 + 4, none⟩ = some (.int .i64 y4) := fun v0 v1 v2 v3 => (cell_set_ne (fun _ => by show kk * 6 + 4 ≠ kk * 6 + 3; omega)).trans ((cell_set_ne (fun _ => by show kk * 6 + 4 ≠ kk * 6 + 2; omega)).trans ((cell_set_ne (fun _ => by show kk * 6 + 4 ≠ kk * 6 + 1; omega)).trans ((cell_set_ne (fun _ => by show kk * 6 + 4 ≠ kk * 6; omega)).trans hy4)))
      have hf4 : ∀ v0 v1 v2 v3 : Int, (World.setCell (World.setCell (World.setCell (World.setCell wr ⟨g, kk * 6, none⟩ (.int .i64 v0)) ⟨g, kk * 6 + 1, none⟩ (.int .i64 v1)) ⟨g, kk * 6 + 2, none⟩ (.int .i64 v2)) ⟨g, kk * 6 + 3, none⟩ (.int .i64 v3)).frozen? ⟨g, kk * 6 + 4, none⟩ = false := fun v0 v1 v2 v3 => frozen_set.trans (frozen_set.trans (frozen_set.trans (frozen_set.trans hz4)))
      have hs : ∀ v0 v1 v2 v3 v4 : Int, (World.setCell (World.setCell (World.setCell (World.setCell (World.setCell wr ⟨g, kk * 6, none⟩ (.int .i64 v0)) ⟨g, kk * 6 + 1, none⟩ (.int .i64 v1)) ⟨g, kk * 6 + 2, none⟩ (.int .i64 v2)) ⟨g, kk * 6 + 3, none⟩ (.int .i64 v3)) ⟨g, kk * 6 + 4, none⟩ (.int .i64 v4)).cell? ⟨g, kk * 6 + 5, none⟩ = some (.slice B nk cB) := fun v0 v1 v2 v3 v4 => (cell_set_ne (fun _ => by show kk * 6 + 5 ≠ kk * 6 + 4; omega)).trans ((cell_set_ne (fun _ => by show kk * 6 + 5 ≠ kk * 6 + 3; omega)).trans ((cell_set_ne (fun _ => by show kk * 6 + 5 ≠ kk * 6 + 2; omega)).trans ((cell_set_ne (fun _ => by show kk * 6 + 5 ≠ kk * 6 + 1; omega)).trans ((cell_set_ne (fun _ => by show kk * 6 + 5 ≠ kk * 6; omega)).trans hs0))))
      have HMM : Aside0 (∀ v0 v1 v2 v3 v4 : Int, MI P w (World.setCell (World.setCell (World.setCell (World.setCell (World.setCell wr ⟨g, kk * 6, none⟩ (.int .i64 v0)) ⟨g, kk * 6 + 1, none⟩ (.int .i64 v1)) ⟨g, kk * 6 + 2, none⟩ (.int .i64 v2)) ⟨g, kk * 6 + 3, none⟩ (.int .i64 v3)) ⟨g, kk * 6 + 4, none⟩ (.int .i64 v4))) := ⟨fun v0 v1 v2 v3 v4 => (((((HM.out.set HP.out (hc0 ) v0).set HP.out (hc1 v0) v1).set HP.out (hc2 v0 v1) v2).set HP.out (hc3 v0 v1 v2) v3).set HP.out (hc4 v0 v1 v2 v3) v4)⟩
      have HRB : Aside0 (∀ v0 v1 v2 v3 v4 : Int, RowI P (World.setCell (World.setCell (World.setCell (World.setCell (World.setCell wr ⟨g, kk * 6, none⟩ (.int .i64 v0)) ⟨g, kk * 6 + 1, none⟩ (.int .i64 v1)) ⟨g, kk * 6 + 2, none⟩ (.int .i64 v2)) ⟨g, kk * 6 + 3, none⟩ (.int .i64 v3)) ⟨g, kk * 6 + 4, none⟩ (.int .i64 v4)) B nk) := ⟨fun v0 v1 v2 v3 v4 => hrB.mi ((((((MI.refl P wr).set HP.out (hc0 ) v0).set HP.out (hc1 v0) v1).set HP.out (hc2 v0 v1) v2).set HP.out (hc3 v0 v1 v2) v3).set HP.out (hc4 v0 v1 v2 v3) v4)⟩
      clear hi_ hrB hc hP htk htl hlt hgl hs0 hnk hy0 hz0 hy1 hz1 hy2 hz2 hy3 hz3 hy4 hz4
      have HV : Aside0 (wrap64 (wrap64 (wrap64 (wrap64 (wrap64 (x1 + 1) + 1) + 1) + 1) + 1) = x1 + 5) := ⟨by have := HB.out; unfold wrap64; omega⟩
      go_wp2_with (go_at_call 20; refine (markI_calls P B nk cB _ _ ?q1 ?q2 ?q3).mono ?_; (case q1 => exact HRB.out _ _ _ _ _); (case q2 => rw [HV.out]; have := HB.out; omega); (case q3 => rw [HV.out]; have := HB.out; omega); rintro e w9 ⟨rfl, hm9⟩; have HM9 := Aside0.mk ((HMM.out _ _ _ _ _).trans hm9); clear hm9)
      go_roundg (ns.length - (kk + 1))
      case measure => have := HI.out; have := HLT.out; omega
      case rel => exact ⟨kk + 1, _, rfl, by rw [HKK.out], ⟨by rw [← HT.out, HV.out]⟩, ⟨by have := HLT.out; omega⟩, HM9⟩
    · have hltb : ((kk : Int) < (ns.length : Int)) = False := eq_false (by omega)
      have HLT := Aside0.mk hlt
      clear hlt
      go_wp2
      go_ret
      refine ⟨?_, HM.out⟩
      have e : x1 = a1 + (tot 5 ns : Int) := by
        have h1 := HX.out
        rw [List.take_of_length_le (by have := HI.out; have := HLT.out; omega)] at h1
        exact h1
      rw [← e]
      rfl
theorem markTeams (P : Nat → Prop) (A : Option Addr) (c : Nat) (l : List S78) (a1 : Int) (w : World) {e base : Nat} (h : Kd.R Go.Proofs.Ytdlebbmmanjffaa.A.k78 e w base P (.slice A l.length c) l) (hl : l.length ≤ 4611686018427387904) (hi : ∀ x ∈ l, x.f5.length ≤ 4611686018427387904) (h0 : 0 ≤ a1) (h1 : a1 + tot 5 (l.map (fun x => x.f5.length)) ≤ 4611686018427387904) :
    Calls Try.prog 38 #[.slice A l.length c, .int .i64 a1] w fun e w' => e = .returned (.int .i64 (a1 + tot 5 (l.map (fun x => x.f5.length)))) ∧ MI P w w' := by
  have hm : ∀ {ok : Nat → Prop} {x : S78} {cs : List Value}, (Go.Proofs.Ytdlebbmmanjffaa.A.k78).M w base ok x cs → ∃ (zs : List Int) (v : Value) (xs : List Int), cs = zs.map (Value.int .i64) ++ [v] ∧ zs.length = 5 ∧ xs.length = x.f5.length ∧ Kd.R (Kd.int .i64) 3 w base ok v xs := by
    intro ok x cs h
    obtain ⟨c0, r0, rfl, h0, c1, r1, rfl, h1, c2, r2, rfl, h2, c3, r3, rfl, h3, c4, r4, rfl, h4, v, rfl, hr⟩ := h
    cases h0
    cases h1
    cases h2
    cases h3
    cases h4
    exact ⟨[x.f0, x.f1, x.f2, x.f3, x.f4], v, x.f5, rfl, rfl, rfl, hr⟩
  have := markTeamS_calls P A (l.map (fun x => x.f5.length)) c a1 w (RowS.of_R 5 rfl (fun x => x.f5.length) hm h hl hi) h0 h1
  rw [List.length_map] at this
  exact this
end Go.Proofs.Ytdlebbmmanjffaa.M
end

section
set_option linter.unusedVariables false
set_option linter.unusedSimpArgs false
namespace Go.Proofs.Ytdlebbmmanjffaa.A
open Go.RowKit Go.Proofs.YtdlebbmmanjffaaW.PrintWords Go.Proofs.YtdlebbmmanjffaaW.PrintLast Go.Proofs.YtdlebbmmanjffaaW.PrintMore
def laws_FnExactSeatJudges.f (k : Nat) (l0 : List S86) (l1 : List S38) (l2 : List S40) : Option Bool := (laws_szTeamS.f k l0 1048576).bind (fun n1 => if n1 < 0 then some true else ((laws_szJudgeS.f k l1 n1).bind (fun n2 => if n2 < 0 then some true else ((laws_szPairS.f l2 n2).bind (fun n3 => if n3 < 0 then some true else ((laws_toTeamS.f k l0).bind (fun x4 => (laws_toJudgeS.f k l1).bind (fun x5 => (laws_toPairS.f k l2).bind (fun x6 => (spec_SeatJudges.f k x4 x5 x6).bind (fun t_ => (fun x7  b7 => (laws_toTeamS.f k l0).bind (fun x8 => (laws_toJudgeS.f k l1).bind (fun x9 => (laws_toPairS.f k l2).bind (fun x10 => (impl_SeatJudges.f k x8 x9 x10).bind (fun t_ => (fun x11  b11 => (laws_eqIntS.f k x11 x7).bind (fun b12 => if b12 = true then (if b11 = b7 then ((laws_toTeamS.f k l0).bind (fun x13 => (laws_eqTeamS.f k x8 x13).bind (fun b14 => if b14 = true then ((laws_toJudgeS.f k l1).bind (fun x15 => (laws_eqJudgeS.f k x9 x15).bind (fun b16 => if b16 = true then ((laws_toPairS.f k l2).bind (fun x17 => (laws_eqPairS.f k x10 x17).bind (fun b18 => if b18 = true then (if (x8.length ≤ 4611686018427387904 ∧ ∀ x ∈ x8, x.f5.length ≤ 4611686018427387904) ∧ (M.tot 5 (x8.map (fun x => x.f5.length)) : Int) ≤ 1152921504606846976 then (if (x9.length ≤ 4611686018427387904 ∧ ∀ x ∈ x9, x.f2.length ≤ 4611686018427387904) ∧ (M.tot 2 (x9.map (fun x => x.f2.length)) : Int) ≤ 1152921504606846976 then ((laws_markPairS.f k x10 (1 + (M.tot 5 (x8.map (fun x => x.f5.length)) : Int) + (M.tot 2 (x9.map (fun x => x.f2.length)) : Int))).bind (fun t_ => (fun m21  y21 => if ¬ (m21 < 0) then ((laws_eqIntS.f k x11 x7).bind (fun b22 => if b22 = true then (if b11 = b7 then ((laws_markIntS.f k x11 1).bind (fun t_ => (fun m23  y23 => (laws_heldIntS.f k y23 1).bind (fun n24 => if ¬ (n24 < 0) then (if n24 = m23 then ((laws_toTeamS.f k l0).bind (fun x25 => (laws_toJudgeS.f k l1).bind (fun x26 => (laws_toPairS.f k l2).bind (fun x27 => (impl_SeatJudges.f k x25 x26 x27).bind (fun t_ => (fun x28  b28 => (laws_eqIntS.f k x28 x7).bind (fun b29 => if b29 = true then (if b28 = b7 then ((laws_heldIntS.f k y23 1).bind (fun n30 => if ¬ (n30 < 0) then (if n30 = m23 then (some true) else none) else none)) else none) else none)) t_.1 t_.2))))) else none) else none)) t_.1 t_.2)) else none) else none)) else none) t_.1 t_.2)) else none) else none) else none))) else none))) else none))) else none) else none)) t_.1 t_.2))))) t_.1 t_.2))))))))))
set_option maxHeartbeats 16000000 in
set_option maxRecDepth 100000 in
theorem laws_FnExactSeatJudges.calls (k : Nat) (A0 : Option Addr) (c0 : Nat) (l0 : List S86) (A1 : Option Addr) (c1 : Nat) (l1 : List S38) (A2 : Option Addr) (c2 : Nat) (l2 : List S40) (r : Bool) (w : World) (hr0 : Kd.C k86 w A0 l0.length l0) (hc0 : l0.length ≤ c0) (hr1 : Kd.C k38 w A1 l1.length l1) (hc1 : l1.length ≤ c1) (hr2 : Kd.C k40 w A2 l2.length l2) (hc2 : l2.length ≤ c2) (h : laws_FnExactSeatJudges.f k l0 l1 l2 = some r) :
  Calls Try.prog 7 #[.slice A0 l0.length c0, .slice A1 l1.length c1, .slice A2 l2.length c2] w fun e w' => e = .returned (.bool r) ∧ Below w.heap.size w w' := by
  have HR0 := Aside0.mk hr0
  have HC0 := Aside0.mk hc0
  have HR1 := Aside0.mk hr1
  have HC1 := Aside0.mk hc1
  have HR2 := Aside0.mk hr2
  have HC2 := Aside0.mk hc2
  clear hr0 hc0 hr1 hc1 hr2 hc2
  unfold laws_FnExactSeatJudges.f at h
  have HB := Aside0.mk (Below.refl w.heap.size w)
  have TK0 : Aside0 True := ⟨trivial⟩
  replace h := Option.bind_eq_some_iff.mp h
  obtain ⟨n1, hx10, h⟩ := h
  have hx1 := Aside0.mk hx10
  clear hx10
  by_cases ce : n1 < 0
  · rw [if_pos ce] at h
    obtain rfl := Option.some.inj h
    have cx0 : (n1 < 0) = True := eq_true (by omega)
    clear ce h
    go_enter Try.func7, Try.ntmps7
    go_wp2_with (first | (have tok_ := TK0; clear TK0 tok_; go_at_call 22; refine (laws_szTeamS.calls (k := k) (A0 := A0) (c0 := c0) (l0 := l0) (a1 := 1048576) (r := n1) (h := hx1.out) (hr0 := ?hr0) (hc0 := ?hc0)).mono ?_; (case hr0 => exact Kd.C_below HR0.out (by repeat (first | (with_reducible first | exact HB.out | apply below_alloc | apply pw_below_drewN | apply below_drew1) | exact HB.out))); (case hc0 => exact HC0.out); rintro e w1 ⟨rfl, hb⟩; have HSZ1 : Aside0 (w.heap.size ≤ w1.heap.size) := ⟨hb.size⟩; have nB_ := Aside0.mk (below_step (by repeat (first | (with_reducible first | exact HB.out | apply below_alloc | apply pw_below_drewN | apply below_drew1) | exact HB.out)) hb); clear HB; have HB := nB_; clear nB_; clear hb; have TK1 : Aside0 True := ⟨trivial⟩))
    go_ret
    exact ⟨rfl, (by repeat (first | (with_reducible first | exact HB.out | apply below_alloc | apply pw_below_drewN | apply below_drew1) | exact HB.out))⟩
  rw [if_neg ce] at h
  have cf1 : (n1 < 0) = False := eq_false (by omega)
  clear ce
  replace h := Option.bind_eq_some_iff.mp h
  obtain ⟨n2, hx20, h⟩ := h
  have hx2 := Aside0.mk hx20
  clear hx20
  by_cases ce : n2 < 0
  · rw [if_pos ce] at h
    obtain rfl := Option.some.inj h
    have cx0 : (n2 < 0) = True := eq_true (by omega)
    clear ce h
    go_enter Try.func7, Try.ntmps7
    go_wp2_with (first | (have tok_ := TK0; clear TK0 tok_; go_at_call 22; refine (laws_szTeamS.calls (k := k) (A0 := A0) (c0 := c0) (l0 := l0) (a1 := 1048576) (r := n1) (h := hx1.out) (hr0 := ?hr0) (hc0 := ?hc0)).mono ?_; (case hr0 => exact Kd.C_below HR0.out (by repeat (first | (with_reducible first | exact HB.out | apply below_alloc | apply pw_below_drewN | apply below_drew1) | exact HB.out))); (case hc0 => exact HC0.out); rintro e w1 ⟨rfl, hb⟩; have HSZ1 : Aside0 (w.heap.size ≤ w1.heap.size) := ⟨hb.size⟩; have nB_ := Aside0.mk (below_step (by repeat (first | (with_reducible first | exact HB.out | apply below_alloc | apply pw_below_drewN | apply below_drew1) | exact HB.out)) hb); clear HB; have HB := nB_; clear nB_; clear hb; have TK1 : Aside0 True := ⟨trivial⟩) | (have tok_ := TK1; clear TK1 tok_; go_at_call 10; refine (laws_szJudgeS.calls (k := k) (A0 := A1) (c0 := c1) (l0 := l1) (a1 := n1) (r := n2) (h := hx2.out) (hr0 := ?hr0) (hc0 := ?hc0)).mono ?_; (case hr0 => exact Kd.C_below HR1.out (by repeat (first | (with_reducible first | exact HB.out | apply below_alloc | apply pw_below_drewN | apply below_drew1) | exact HB.out))); (case hc0 => exact HC1.out); rintro e w2 ⟨rfl, hb⟩; have HSZ2 : Aside0 (w1.heap.size ≤ w2.heap.size) := ⟨hb.size⟩; have nB_ := Aside0.mk (below_step (by repeat (first | (with_reducible first | exact HB.out | apply below_alloc | apply pw_below_drewN | apply below_drew1) | exact HB.out)) hb); clear HB; have HB := nB_; clear nB_; clear hb; have TK2 : Aside0 True := ⟨trivial⟩))
    go_ret
    exact ⟨rfl, (by repeat (first | (with_reducible first | exact HB.out | apply below_alloc | apply pw_below_drewN | apply below_drew1) | exact HB.out))⟩
  rw [if_neg ce] at h
  have cf2 : (n2 < 0) = False := eq_false (by omega)
  clear ce
  replace h := Option.bind_eq_some_iff.mp h
  obtain ⟨n3, hx30, h⟩ := h
  have hx3 := Aside0.mk hx30
  clear hx30
  by_cases ce : n3 < 0
  · rw [if_pos ce] at h
    obtain rfl := Option.some.inj h
    have cx0 : (n3 < 0) = True := eq_true (by omega)
    clear ce h
    go_enter Try.func7, Try.ntmps7
    go_wp2_with (first | (have tok_ := TK0; clear TK0 tok_; go_at_call 22; refine (laws_szTeamS.calls (k := k) (A0 := A0) (c0 := c0) (l0 := l0) (a1 := 1048576) (r := n1) (h := hx1.out) (hr0 := ?hr0) (hc0 := ?hc0)).mono ?_; (case hr0 => exact Kd.C_below HR0.out (by repeat (first | (with_reducible first | exact HB.out | apply below_alloc | apply pw_below_drewN | apply below_drew1) | exact HB.out))); (case hc0 => exact HC0.out); rintro e w1 ⟨rfl, hb⟩; have HSZ1 : Aside0 (w.heap.size ≤ w1.heap.size) := ⟨hb.size⟩; have nB_ := Aside0.mk (below_step (by repeat (first | (with_reducible first | exact HB.out | apply below_alloc | apply pw_below_drewN | apply below_drew1) | exact HB.out)) hb); clear HB; have HB := nB_; clear nB_; clear hb; have TK1 : Aside0 True := ⟨trivial⟩) | (have tok_ := TK1; clear TK1 tok_; go_at_call 10; refine (laws_szJudgeS.calls (k := k) (A0 := A1) (c0 := c1) (l0 := l1) (a1 := n1) (r := n2) (h := hx2.out) (hr0 := ?hr0) (hc0 := ?hc0)).mono ?_; (case hr0 => exact Kd.C_below HR1.out (by repeat (first | (with_reducible first | exact HB.out | apply below_alloc | apply pw_below_drewN | apply below_drew1) | exact HB.out))); (case hc0 => exact HC1.out); rintro e w2 ⟨rfl, hb⟩; have HSZ2 : Aside0 (w1.heap.size ≤ w2.heap.size) := ⟨hb.size⟩; have nB_ := Aside0.mk (below_step (by repeat (first | (with_reducible first | exact HB.out | apply below_alloc | apply pw_below_drewN | apply below_drew1) | exact HB.out)) hb); clear HB; have HB := nB_; clear nB_; clear hb; have TK2 : Aside0 True := ⟨trivial⟩) | (have tok_ := TK2; clear TK2 tok_; go_at_call 31; refine (laws_szPairS.calls (A0 := A2) (c0 := c2) (l0 := l2) (a1 := n2) (r := n3) (h := hx3.out) (hr0 := ?hr0) (hc0 := ?hc0)).mono ?_; (case hr0 => exact Kd.C_below HR2.out (by repeat (first | (with_reducible first | exact HB.out | apply below_alloc | apply pw_below_drewN | apply below_drew1) | exact HB.out))); (case hc0 => exact HC2.out); rintro e w3 ⟨rfl, hd_⟩; have hb := M.drawn_below hd_; clear hd_; have HSZ3 : Aside0 (w2.heap.size ≤ w3.heap.size) := ⟨hb.size⟩; have nB_ := Aside0.mk (below_step (by repeat (first | (with_reducible first | exact HB.out | apply below_alloc | apply pw_below_drewN | apply below_drew1) | exact HB.out)) hb); clear HB; have HB := nB_; clear nB_; clear hb; have TK3 : Aside0 True := ⟨trivial⟩))
    go_ret
    exact ⟨rfl, (by repeat (first | (with_reducible first | exact HB.out | apply below_alloc | apply pw_below_drewN | apply below_drew1) | exact HB.out))⟩
  rw [if_neg ce] at h
  have cf3 : (n3 < 0) = False := eq_false (by omega)
  clear ce
  replace h := Option.bind_eq_some_iff.mp h
  obtain ⟨x4, hx40, h⟩ := h
  have hx4 := Aside0.mk hx40
  clear hx40
  replace h := Option.bind_eq_some_iff.mp h
  obtain ⟨x5, hx50, h⟩ := h
  have hx5 := Aside0.mk hx50
  clear hx50
  replace h := Option.bind_eq_some_iff.mp h
  obtain ⟨x6, hx60, h⟩ := h
  have hx6 := Aside0.mk hx60
  clear hx60
  replace h := Option.bind_eq_some_iff.mp h
  obtain ⟨⟨x7, b7⟩, hx70, h⟩ := h
  have hx7 := Aside0.mk hx70
  clear hx70
  dsimp only at h
  replace h := Option.bind_eq_some_iff.mp h
  obtain ⟨x8, hx80, h⟩ := h
  have hx8 := Aside0.mk hx80
  clear hx80
  replace h := Option.bind_eq_some_iff.mp h
  obtain ⟨x9, hx90, h⟩ := h
  have hx9 := Aside0.mk hx90
  clear hx90
  replace h := Option.bind_eq_some_iff.mp h
  obtain ⟨x10, hx100, h⟩ := h
  have hx10 := Aside0.mk hx100
  clear hx100
  replace h := Option.bind_eq_some_iff.mp h
  obtain ⟨⟨x11, b11⟩, hx110, h⟩ := h
  have hx11 := Aside0.mk hx110
  clear hx110
  dsimp only at h
  replace h := Option.bind_eq_some_iff.mp h
  obtain ⟨b12, hx120, h⟩ := h
  have hx12 := Aside0.mk hx120
  clear hx120
  by_cases ct : b12 = true
  rotate_left
  · rw [if_neg ct] at h; cases h
  rw [if_pos ct] at h
  subst ct
  by_cases ct : b11 = b7
  rotate_left
  · rw [if_neg ct] at h; cases h
  rw [if_pos ct] at h
  have ct2 : b7 = b11 := ct.symm
  clear ct
  subst ct2
  replace h := Option.bind_eq_some_iff.mp h
  obtain ⟨x13, hx130, h⟩ := h
  have hx13 := Aside0.mk hx130
  clear hx130
  replace h := Option.bind_eq_some_iff.mp h
  obtain ⟨b14, hx140, h⟩ := h
  have hx14 := Aside0.mk hx140
  clear hx140
  by_cases ct : b14 = true
  rotate_left
  · rw [if_neg ct] at h; cases h
  rw [if_pos ct] at h
  subst ct
  replace h := Option.bind_eq_some_iff.mp h
  obtain ⟨x15, hx150, h⟩ := h
  have hx15 := Aside0.mk hx150
  clear hx150
  replace h := Option.bind_eq_some_iff.mp h
  obtain ⟨b16, hx160, h⟩ := h
  have hx16 := Aside0.mk hx160
  clear hx160
  by_cases ct : b16 = true
  rotate_left
  · rw [if_neg ct] at h; cases h
  rw [if_pos ct] at h
  subst ct
  replace h := Option.bind_eq_some_iff.mp h
  obtain ⟨x17, hx170, h⟩ := h
  have hx17 := Aside0.mk hx170
  clear hx170
  replace h := Option.bind_eq_some_iff.mp h
  obtain ⟨b18, hx180, h⟩ := h
  have hx18 := Aside0.mk hx180
  clear hx180
  by_cases ct : b18 = true
  rotate_left
  · rw [if_neg ct] at h; cases h
  rw [if_pos ct] at h
  subst ct
  by_cases ct : (x8.length ≤ 4611686018427387904 ∧ ∀ x ∈ x8, x.f5.length ≤ 4611686018427387904) ∧ (M.tot 5 (x8.map (fun x => x.f5.length)) : Int) ≤ 1152921504606846976
  rotate_left
  · rw [if_neg ct] at h; cases h
  rw [if_pos ct] at h
  obtain ⟨K19, hkK19⟩ : ∃ K_ : Int, K_ = 1 + (M.tot 5 (x8.map (fun x => x.f5.length)) : Int) := ⟨_, rfl⟩
  have HKK19 := Aside0.mk hkK19
  have HTK19 := Aside0.mk ct
  have HQK19 : Aside0 (0 ≤ K19 ∧ K19 ≤ 1152921504606846976 * 1 + 1) := ⟨by have := HTK19.out.2; omega⟩
  clear ct hkK19
  have cqK19 : (K19 < 0) = False := eq_false (by have := HQK19.out; omega)
  by_cases ct : (x9.length ≤ 4611686018427387904 ∧ ∀ x ∈ x9, x.f2.length ≤ 4611686018427387904) ∧ (M.tot 2 (x9.map (fun x => x.f2.length)) : Int) ≤ 1152921504606846976
  rotate_left
  · rw [if_neg ct] at h; cases h
  rw [if_pos ct] at h
  obtain ⟨K20, hkK20⟩ : ∃ K_ : Int, K_ = K19 + (M.tot 2 (x9.map (fun x => x.f2.length)) : Int) := ⟨_, rfl⟩
  have HKK20 := Aside0.mk hkK20
  have HTK20 := Aside0.mk ct
  have HQK20 : Aside0 (0 ≤ K20 ∧ K20 ≤ 1152921504606846976 * 2 + 1) := ⟨by have := HTK20.out.2; have := HQK19.out; omega⟩
  clear ct hkK20
  have cqK20 : (K20 < 0) = False := eq_false (by have := HQK20.out; omega)
  replace h := Option.bind_eq_some_iff.mp h
  obtain ⟨⟨m21, y21⟩, hx210, h⟩ := h
  have hx21 := Aside0.mk hx210
  clear hx210
  dsimp only at h
  have h2_ := hx21.out
  rw [← HKK19.out, ← HKK20.out] at h2_
  clear hx21
  have hx21 := Aside0.mk h2_
  clear h2_
  by_cases ct : ¬ (m21 < 0)
  rotate_left
  · rw [if_neg ct] at h; cases h
  rw [if_pos ct] at h
  have cf4 : (m21 < 0) = False := eq_false ct
  clear ct
  replace h := Option.bind_eq_some_iff.mp h
  obtain ⟨b22, hx220, h⟩ := h
  have hx22 := Aside0.mk hx220
  clear hx220
  by_cases ct : b22 = true
  rotate_left
  · rw [if_neg ct] at h; cases h
  rw [if_pos ct] at h
  subst ct
  by_cases ct : b7 = b7
  rotate_left
  · rw [if_neg ct] at h; cases h
  rw [if_pos ct] at h
  clear ct
  replace h := Option.bind_eq_some_iff.mp h
  obtain ⟨⟨m23, y23⟩, hx230, h⟩ := h
  have hx23 := Aside0.mk hx230
  clear hx230
  dsimp only at h
  replace h := Option.bind_eq_some_iff.mp h
  obtain ⟨n24, hx240, h⟩ := h
  have hx24 := Aside0.mk hx240
  clear hx240
  by_cases ct : ¬ (n24 < 0)
  rotate_left
  · rw [if_neg ct] at h; cases h
  rw [if_pos ct] at h
  have cf5 : (n24 < 0) = False := eq_false ct
  clear ct
  by_cases ct : n24 = m23
  rotate_left
  · rw [if_neg ct] at h; cases h
  rw [if_pos ct] at h
  have ct2 : m23 = n24 := ct.symm
  clear ct
  subst ct2
  replace h := Option.bind_eq_some_iff.mp h
  obtain ⟨x25, hx250, h⟩ := h
  have hx25 := Aside0.mk hx250
  clear hx250
  replace h := Option.bind_eq_some_iff.mp h
  obtain ⟨x26, hx260, h⟩ := h
  have hx26 := Aside0.mk hx260
  clear hx260
  replace h := Option.bind_eq_some_iff.mp h
  obtain ⟨x27, hx270, h⟩ := h
  have hx27 := Aside0.mk hx270
  clear hx270
  replace h := Option.bind_eq_some_iff.mp h
  obtain ⟨⟨x28, b28⟩, hx280, h⟩ := h
  have hx28 := Aside0.mk hx280
  clear hx280
  dsimp only at h
  replace h := Option.bind_eq_some_iff.mp h
  obtain ⟨b29, hx290, h⟩ := h
  have hx29 := Aside0.mk hx290
  clear hx290
  by_cases ct : b29 = true
  rotate_left
  · rw [if_neg ct] at h; cases h
  rw [if_pos ct] at h
  subst ct
  by_cases ct : b28 = b7
  rotate_left
  · rw [if_neg ct] at h; cases h
  rw [if_pos ct] at h
  have ct2 : b7 = b28 := ct.symm
  clear ct
  subst ct2
  replace h := Option.bind_eq_some_iff.mp h
  obtain ⟨n30, hx300, h⟩ := h
  have hx30 := Aside0.mk hx300
  clear hx300
  by_cases ct : ¬ (n30 < 0)
  rotate_left
  · rw [if_neg ct] at h; cases h
  rw [if_pos ct] at h
  have cf6 : (n30 < 0) = False := eq_false ct
  clear ct
  by_cases ct : n30 = m23
  rotate_left
  · rw [if_neg ct] at h; cases h
  rw [if_pos ct] at h
  have ct2 : m23 = n30 := ct.symm
  clear ct
  subst ct2
  obtain rfl := Option.some.inj h
  clear h
  go_enter Try.func7, Try.ntmps7
  go_wp2_with (first | (have tok_ := TK0; clear TK0 tok_; go_at_call 22; refine (laws_szTeamS.calls (k := k) (A0 := A0) (c0 := c0) (l0 := l0) (a1 := 1048576) (r := n1) (h := hx1.out) (hr0 := ?hr0) (hc0 := ?hc0)).mono ?_; (case hr0 => exact Kd.C_below HR0.out (by repeat (first | (with_reducible first | exact HB.out | apply below_alloc | apply pw_below_drewN | apply below_drew1) | exact HB.out))); (case hc0 => exact HC0.out); rintro e w1 ⟨rfl, hb⟩; have HSZ1 : Aside0 (w.heap.size ≤ w1.heap.size) := ⟨hb.size⟩; have nB_ := Aside0.mk (below_step (by repeat (first | (with_reducible first | exact HB.out | apply below_alloc | apply pw_below_drewN | apply below_drew1) | exact HB.out)) hb); clear HB; have HB := nB_; clear nB_; clear hb; have TK1 : Aside0 True := ⟨trivial⟩) | (have tok_ := TK1; clear TK1 tok_; go_at_call 10; refine (laws_szJudgeS.calls (k := k) (A0 := A1) (c0 := c1) (l0 := l1) (a1 := n1) (r := n2) (h := hx2.out) (hr0 := ?hr0) (hc0 := ?hc0)).mono ?_; (case hr0 => exact Kd.C_below HR1.out (by repeat (first | (with_reducible first | exact HB.out | apply below_alloc | apply pw_below_drewN | apply below_drew1) | exact HB.out))); (case hc0 => exact HC1.out); rintro e w2 ⟨rfl, hb⟩; have HSZ2 : Aside0 (w1.heap.size ≤ w2.heap.size) := ⟨hb.size⟩; have nB_ := Aside0.mk (below_step (by repeat (first | (with_reducible first | exact HB.out | apply below_alloc | apply pw_below_drewN | apply below_drew1) | exact HB.out)) hb); clear HB; have HB := nB_; clear nB_; clear hb; have TK2 : Aside0 True := ⟨trivial⟩) | (have tok_ := TK2; clear TK2 tok_; go_at_call 31; refine (laws_szPairS.calls (A0 := A2) (c0 := c2) (l0 := l2) (a1 := n2) (r := n3) (h := hx3.out) (hr0 := ?hr0) (hc0 := ?hc0)).mono ?_; (case hr0 => exact Kd.C_below HR2.out (by repeat (first | (with_reducible first | exact HB.out | apply below_alloc | apply pw_below_drewN | apply below_drew1) | exact HB.out))); (case hc0 => exact HC2.out); rintro e w3 ⟨rfl, hd_⟩; have hb := M.drawn_below hd_; clear hd_; have HSZ3 : Aside0 (w2.heap.size ≤ w3.heap.size) := ⟨hb.size⟩; have nB_ := Aside0.mk (below_step (by repeat (first | (with_reducible first | exact HB.out | apply below_alloc | apply pw_below_drewN | apply below_drew1) | exact HB.out)) hb); clear HB; have HB := nB_; clear nB_; clear hb; have TK3 : Aside0 True := ⟨trivial⟩) | (have tok_ := TK3; clear TK3 tok_; go_at_call 25; refine (laws_toTeamS.calls (k := k) (A0 := A0) (c0 := c0) (l0 := l0) (r := x4) (h := hx4.out) (hr0 := ?hr0) (hc0 := ?hc0)).mono ?_; (case hr0 => exact Kd.C_below HR0.out (by repeat (first | (with_reducible first | exact HB.out | apply below_alloc | apply pw_below_drewN | apply below_drew1) | exact HB.out))); (case hc0 => exact HC0.out); rintro e w4 ⟨v_, rfl, ho_, hb⟩; have hOI_ : Kd.R k78 78 w4 w3.heap.size (fun k => w3.heap.size ≤ k ∧ k < w4.heap.size) _ _ := M.own_interval (Kd.S_R ho_); have HO4 := Aside0.mk (Kd.R_lower hOI_ (below_size (by repeat (first | (with_reducible first | exact HB.out | apply below_alloc | apply pw_below_drewN | apply below_drew1) | exact HB.out)))); have HSZ4 : Aside0 (w3.heap.size ≤ w4.heap.size) := ⟨hb.size⟩; have nB_ := Aside0.mk (below_step (by repeat (first | (with_reducible first | exact HB.out | apply below_alloc | apply pw_below_drewN | apply below_drew1) | exact HB.out)) hb); clear HB; have HB := nB_; clear nB_; clear hOI_ ho_ hb; obtain ⟨B4, d4, ev_⟩ := Kd.R_slice HO4.out; subst ev_; have TK4 : Aside0 True := ⟨trivial⟩) | (have tok_ := TK4; clear TK4 tok_; go_at_call 12; refine (laws_toJudgeS.calls (k := k) (A0 := A1) (c0 := c1) (l0 := l1) (r := x5) (h := hx5.out) (hr0 := ?hr0) (hc0 := ?hc0)).mono ?_; (case hr0 => exact Kd.C_below HR1.out (by repeat (first | (with_reducible first | exact HB.out | apply below_alloc | apply pw_below_drewN | apply below_drew1) | exact HB.out))); (case hc0 => exact HC1.out); rintro e w5 ⟨v_, rfl, ho_, hb⟩; have hOI_ : Kd.R k46 46 w5 w4.heap.size (fun k => w4.heap.size ≤ k ∧ k < w5.heap.size) _ _ := M.own_interval (Kd.S_R ho_); have HO5 := Aside0.mk (Kd.R_lower hOI_ (below_size (by repeat (first | (with_reducible first | exact HB.out | apply below_alloc | apply pw_below_drewN | apply below_drew1) | exact HB.out)))); have HSZ5 : Aside0 (w4.heap.size ≤ w5.heap.size) := ⟨hb.size⟩; have n_ := Aside0.mk (Kd.R_below (by (with_reducible repeat (first | apply Kd.R_alloc | apply Kd.R_drewN | apply Kd.R_drew)); exact HO4.out) hb); clear HO4; have HO4 := n_; clear n_; have nB_ := Aside0.mk (below_step (by repeat (first | (with_reducible first | exact HB.out | apply below_alloc | apply pw_below_drewN | apply below_drew1) | exact HB.out)) hb); clear HB; have HB := nB_; clear nB_; clear hOI_ ho_ hb; obtain ⟨B5, d5, ev_⟩ := Kd.R_slice HO5.out; subst ev_; have TK5 : Aside0 True := ⟨trivial⟩) | (have tok_ := TK5; clear TK5 tok_; go_at_call 33; refine (laws_toPairS.calls (k := k) (A0 := A2) (c0 := c2) (l0 := l2) (r := x6) (h := hx6.out) (hr0 := ?hr0) (hc0 := ?hc0)).mono ?_; (case hr0 => exact Kd.C_below HR2.out (by repeat (first | (with_reducible first | exact HB.out | apply below_alloc | apply pw_below_drewN | apply below_drew1) | exact HB.out))); (case hc0 => exact HC2.out); rintro e w6 ⟨v_, rfl, ho_, hb⟩; have hOI_ : Kd.R k48 48 w6 w5.heap.size (fun k => w5.heap.size ≤ k ∧ k < w6.heap.size) _ _ := M.own_interval ho_; have HO6 := Aside0.mk (Kd.R_lower hOI_ (below_size (by repeat (first | (with_reducible first | exact HB.out | apply below_alloc | apply pw_below_drewN | apply below_drew1) | exact HB.out)))); have HSZ6 : Aside0 (w5.heap.size ≤ w6.heap.size) := ⟨hb.size⟩; have n_ := Aside0.mk (Kd.R_below (by (with_reducible repeat (first | apply Kd.R_alloc | apply Kd.R_drewN | apply Kd.R_drew)); exact HO4.out) hb); clear HO4; have HO4 := n_; clear n_; have n_ := Aside0.mk (Kd.R_below (by (with_reducible repeat (first | apply Kd.R_alloc | apply Kd.R_drewN | apply Kd.R_drew)); exact HO5.out) hb); clear HO5; have HO5 := n_; clear n_; have nB_ := Aside0.mk (below_step (by repeat (first | (with_reducible first | exact HB.out | apply below_alloc | apply pw_below_drewN | apply below_drew1) | exact HB.out)) hb); clear HB; have HB := nB_; clear nB_; clear hOI_ ho_ hb; obtain ⟨B6, d6, ev_⟩ := Kd.R_slice HO6.out; subst ev_; have TK6 : Aside0 True := ⟨trivial⟩) | (have tok_ := TK6; clear TK6 tok_; go_at_call 36; refine (spec_SeatJudges.calls (k := k) (A0 := B4) (c0 := d4) (l0 := x4) (A1 := B5) (c1 := d5) (l1 := x5) (A2 := B6) (c2 := d6) (l2 := x6) (r1 := x7) (r2 := b7) (h := hx7.out) (hr0 := ?hr0) (hc0 := ?hc0) (hr1 := ?hr1) (hc1 := ?hc1) (hr2 := ?hr2) (hc2 := ?hc2)).mono ?_; (case hr0 => (with_reducible repeat (first | apply Kd.C_alloc | apply Kd.C_drewN | apply Kd.C_drew)); exact (Kd.R_reads' HO4.out).2.2); (case hc0 => exact (Kd.R_reads' HO4.out).2.1); (case hr1 => (with_reducible repeat (first | apply Kd.C_alloc | apply Kd.C_drewN | apply Kd.C_drew)); exact (Kd.R_reads' HO5.out).2.2); (case hc1 => exact (Kd.R_reads' HO5.out).2.1); (case hr2 => (with_reducible repeat (first | apply Kd.C_alloc | apply Kd.C_drewN | apply Kd.C_drew)); exact (Kd.R_reads' HO6.out).2.2); (case hc2 => exact (Kd.R_reads' HO6.out).2.1); rintro e w7 ⟨v_, rfl, ho_, hb⟩; have hOI_ : Kd.R (Kd.int .i64) 3 w7 w6.heap.size (fun k => w6.heap.size ≤ k ∧ k < w7.heap.size) _ _ := M.own_interval ho_; have HO7 := Aside0.mk (Kd.R_lower hOI_ (below_size (by repeat (first | (with_reducible first | exact HB.out | apply below_alloc | apply pw_below_drewN | apply below_drew1) | exact HB.out)))); have HSZ7 : Aside0 (w6.heap.size ≤ w7.heap.size) := ⟨hb.size⟩; have n_ := Aside0.mk (Kd.R_below (by (with_reducible repeat (first | apply Kd.R_alloc | apply Kd.R_drewN | apply Kd.R_drew)); exact HO4.out) hb); clear HO4; have HO4 := n_; clear n_; have n_ := Aside0.mk (Kd.R_below (by (with_reducible repeat (first | apply Kd.R_alloc | apply Kd.R_drewN | apply Kd.R_drew)); exact HO5.out) hb); clear HO5; have HO5 := n_; clear n_; have n_ := Aside0.mk (Kd.R_below (by (with_reducible repeat (first | apply Kd.R_alloc | apply Kd.R_drewN | apply Kd.R_drew)); exact HO6.out) hb); clear HO6; have HO6 := n_; clear n_; have nB_ := Aside0.mk (below_step (by repeat (first | (with_reducible first | exact HB.out | apply below_alloc | apply pw_below_drewN | apply below_drew1) | exact HB.out)) hb); clear HB; have HB := nB_; clear nB_; clear hOI_ ho_ hb; obtain ⟨B7, d7, ev_⟩ := Kd.R_slice HO7.out; subst ev_; clear HO4 HO5 HO6; have TK7 : Aside0 True := ⟨trivial⟩) | (have tok_ := TK7; clear TK7 tok_; go_at_call 25; refine (laws_toTeamS.calls (k := k) (A0 := A0) (c0 := c0) (l0 := l0) (r := x8) (h := hx8.out) (hr0 := ?hr0) (hc0 := ?hc0)).mono ?_; (case hr0 => exact Kd.C_below HR0.out (by repeat (first | (with_reducible first | exact HB.out | apply below_alloc | apply pw_below_drewN | apply below_drew1) | exact HB.out))); (case hc0 => exact HC0.out); rintro e w8 ⟨v_, rfl, ho_, hb⟩; have hOI_ : Kd.R k78 78 w8 w7.heap.size (fun k => w7.heap.size ≤ k ∧ k < w8.heap.size) _ _ := M.own_interval (Kd.S_R ho_); have HO8 := Aside0.mk (Kd.R_lower hOI_ (below_size (by repeat (first | (with_reducible first | exact HB.out | apply below_alloc | apply pw_below_drewN | apply below_drew1) | exact HB.out)))); have HSZ8 : Aside0 (w7.heap.size ≤ w8.heap.size) := ⟨hb.size⟩; have n_ := Aside0.mk (Kd.R_below (by (with_reducible repeat (first | apply Kd.R_alloc | apply Kd.R_drewN | apply Kd.R_drew)); exact HO7.out) hb); clear HO7; have HO7 := n_; clear n_; have nB_ := Aside0.mk (below_step (by repeat (first | (with_reducible first | exact HB.out | apply below_alloc | apply pw_below_drewN | apply below_drew1) | exact HB.out)) hb); clear HB; have HB := nB_; clear nB_; clear hOI_ ho_ hb; obtain ⟨B8, d8, ev_⟩ := Kd.R_slice HO8.out; subst ev_; have TK8 : Aside0 True := ⟨trivial⟩) | (have tok_ := TK8; clear TK8 tok_; go_at_call 12; refine (laws_toJudgeS.calls (k := k) (A0 := A1) (c0 := c1) (l0 := l1) (r := x9) (h := hx9.out) (hr0 := ?hr0) (hc0 := ?hc0)).mono ?_; (case hr0 => exact Kd.C_below HR1.out (by repeat (first | (with_reducible first | exact HB.out | apply below_alloc | apply pw_below_drewN | apply below_drew1) | exact HB.out))); (case hc0 => exact HC1.out); rintro e w9 ⟨v_, rfl, ho_, hb⟩; have hOI_ : Kd.R k46 46 w9 w8.heap.size (fun k => w8.heap.size ≤ k ∧ k < w9.heap.size) _ _ := M.own_interval (Kd.S_R ho_); have HO9 := Aside0.mk (Kd.R_lower hOI_ (below_size (by repeat (first | (with_reducible first | exact HB.out | apply below_alloc | apply pw_below_drewN | apply below_drew1) | exact HB.out)))); have HSZ9 : Aside0 (w8.heap.size ≤ w9.heap.size) := ⟨hb.size⟩; have n_ := Aside0.mk (Kd.R_below (by (with_reducible repeat (first | apply Kd.R_alloc | apply Kd.R_drewN | apply Kd.R_drew)); exact HO7.out) hb); clear HO7; have HO7 := n_; clear n_; have n_ := Aside0.mk (Kd.R_below (by (with_reducible repeat (first | apply Kd.R_alloc | apply Kd.R_drewN | apply Kd.R_drew)); exact HO8.out) hb); clear HO8; have HO8 := n_; clear n_; have nB_ := Aside0.mk (below_step (by repeat (first | (with_reducible first | exact HB.out | apply below_alloc | apply pw_below_drewN | apply below_drew1) | exact HB.out)) hb); clear HB; have HB := nB_; clear nB_; clear hOI_ ho_ hb; obtain ⟨B9, d9, ev_⟩ := Kd.R_slice HO9.out; subst ev_; have TK9 : Aside0 True := ⟨trivial⟩) | (have tok_ := TK9; clear TK9 tok_; go_at_call 33; refine (laws_toPairS.calls (k := k) (A0 := A2) (c0 := c2) (l0 := l2) (r := x10) (h := hx10.out) (hr0 := ?hr0) (hc0 := ?hc0)).mono ?_; (case hr0 => exact Kd.C_below HR2.out (by repeat (first | (with_reducible first | exact HB.out | apply below_alloc | apply pw_below_drewN | apply below_drew1) | exact HB.out))); (case hc0 => exact HC2.out); rintro e w10 ⟨v_, rfl, ho_, hb⟩; have hOI_ : Kd.R k48 48 w10 w9.heap.size (fun k => w9.heap.size ≤ k ∧ k < w10.heap.size) _ _ := M.own_interval ho_; have HO10 := Aside0.mk (Kd.R_lower hOI_ (below_size (by repeat (first | (with_reducible first | exact HB.out | apply below_alloc | apply pw_below_drewN | apply below_drew1) | exact HB.out)))); have HSZ10 : Aside0 (w9.heap.size ≤ w10.heap.size) := ⟨hb.size⟩; have n_ := Aside0.mk (Kd.R_below (by (with_reducible repeat (first | apply Kd.R_alloc | apply Kd.R_drewN | apply Kd.R_drew)); exact HO7.out) hb); clear HO7; have HO7 := n_; clear n_; have n_ := Aside0.mk (Kd.R_below (by (with_reducible repeat (first | apply Kd.R_alloc | apply Kd.R_drewN | apply Kd.R_drew)); exact HO8.out) hb); clear HO8; have HO8 := n_; clear n_; have n_ := Aside0.mk (Kd.R_below (by (with_reducible repeat (first | apply Kd.R_alloc | apply Kd.R_drewN | apply Kd.R_drew)); exact HO9.out) hb); clear HO9; have HO9 := n_; clear n_; have nB_ := Aside0.mk (below_step (by repeat (first | (with_reducible first | exact HB.out | apply below_alloc | apply pw_below_drewN | apply below_drew1) | exact HB.out)) hb); clear HB; have HB := nB_; clear nB_; clear hOI_ ho_ hb; obtain ⟨B10, d10, ev_⟩ := Kd.R_slice HO10.out; subst ev_; have TK10 : Aside0 True := ⟨trivial⟩) | (have tok_ := TK10; clear TK10 tok_; go_at_call 37; refine (impl_SeatJudges.calls (k := k) (A0 := B8) (c0 := d8) (l0 := x8) (A1 := B9) (c1 := d9) (l1 := x9) (A2 := B10) (c2 := d10) (l2 := x10) (r1 := x11) (r2 := b7) (h := hx11.out) (hr0 := ?hr0) (hc0 := ?hc0) (hr1 := ?hr1) (hc1 := ?hc1) (hr2 := ?hr2) (hc2 := ?hc2)).mono ?_; (case hr0 => (with_reducible repeat (first | apply Kd.C_alloc | apply Kd.C_drewN | apply Kd.C_drew)); exact (Kd.R_reads' HO8.out).2.2); (case hc0 => exact (Kd.R_reads' HO8.out).2.1); (case hr1 => (with_reducible repeat (first | apply Kd.C_alloc | apply Kd.C_drewN | apply Kd.C_drew)); exact (Kd.R_reads' HO9.out).2.2); (case hc1 => exact (Kd.R_reads' HO9.out).2.1); (case hr2 => (with_reducible repeat (first | apply Kd.C_alloc | apply Kd.C_drewN | apply Kd.C_drew)); exact (Kd.R_reads' HO10.out).2.2); (case hc2 => exact (Kd.R_reads' HO10.out).2.1); rintro e w11 ⟨v_, rfl, ho_, hb⟩; have hOI_ : Kd.R (Kd.int .i64) 3 w11 w10.heap.size (fun k => w10.heap.size ≤ k ∧ k < w11.heap.size) _ _ := M.own_interval ho_; have HO11 := Aside0.mk (Kd.R_lower hOI_ (below_size (by repeat (first | (with_reducible first | exact HB.out | apply below_alloc | apply pw_below_drewN | apply below_drew1) | exact HB.out)))); have HSZ11 : Aside0 (w10.heap.size ≤ w11.heap.size) := ⟨hb.size⟩; have n_ := Aside0.mk (Kd.R_below (by (with_reducible repeat (first | apply Kd.R_alloc | apply Kd.R_drewN | apply Kd.R_drew)); exact HO7.out) hb); clear HO7; have HO7 := n_; clear n_; have n_ := Aside0.mk (Kd.R_below (by (with_reducible repeat (first | apply Kd.R_alloc | apply Kd.R_drewN | apply Kd.R_drew)); exact HO8.out) hb); clear HO8; have HO8 := n_; clear n_; have n_ := Aside0.mk (Kd.R_below (by (with_reducible repeat (first | apply Kd.R_alloc | apply Kd.R_drewN | apply Kd.R_drew)); exact HO9.out) hb); clear HO9; have HO9 := n_; clear n_; have n_ := Aside0.mk (Kd.R_below (by (with_reducible repeat (first | apply Kd.R_alloc | apply Kd.R_drewN | apply Kd.R_drew)); exact HO10.out) hb); clear HO10; have HO10 := n_; clear n_; have nB_ := Aside0.mk (below_step (by repeat (first | (with_reducible first | exact HB.out | apply below_alloc | apply pw_below_drewN | apply below_drew1) | exact HB.out)) hb); clear HB; have HB := nB_; clear nB_; clear hOI_ ho_ hb; obtain ⟨B11, d11, ev_⟩ := Kd.R_slice HO11.out; subst ev_; have TK11 : Aside0 True := ⟨trivial⟩) | (have tok_ := TK11; clear TK11 tok_; go_at_call 18; refine (laws_eqIntS.calls (k := k) (A0 := B11) (c0 := d11) (l0 := x11) (A1 := B7) (c1 := d7) (l1 := x7) (r := true) (h := hx12.out) (hr0 := ?hr0) (hc0 := ?hc0) (hr1 := ?hr1) (hc1 := ?hc1)).mono ?_; (case hr0 => (with_reducible repeat (first | apply Kd.C_alloc | apply Kd.C_drewN | apply Kd.C_drew)); exact (Kd.R_reads' HO11.out).2.2); (case hc0 => exact (Kd.R_reads' HO11.out).2.1); (case hr1 => (with_reducible repeat (first | apply Kd.C_alloc | apply Kd.C_drewN | apply Kd.C_drew)); exact (Kd.R_reads' HO7.out).2.2); (case hc1 => exact (Kd.R_reads' HO7.out).2.1); rintro e w12 ⟨rfl, hd_⟩; have hb := M.drawn_below hd_; clear hd_; have HSZ12 : Aside0 (w11.heap.size ≤ w12.heap.size) := ⟨hb.size⟩; have n_ := Aside0.mk (Kd.R_below (by (with_reducible repeat (first | apply Kd.R_alloc | apply Kd.R_drewN | apply Kd.R_drew)); exact HO7.out) hb); clear HO7; have HO7 := n_; clear n_; have n_ := Aside0.mk (Kd.R_below (by (with_reducible repeat (first | apply Kd.R_alloc | apply Kd.R_drewN | apply Kd.R_drew)); exact HO8.out) hb); clear HO8; have HO8 := n_; clear n_; have n_ := Aside0.mk (Kd.R_below (by (with_reducible repeat (first | apply Kd.R_alloc | apply Kd.R_drewN | apply Kd.R_drew)); exact HO9.out) hb); clear HO9; have HO9 := n_; clear n_; have n_ := Aside0.mk (Kd.R_below (by (with_reducible repeat (first | apply Kd.R_alloc | apply Kd.R_drewN | apply Kd.R_drew)); exact HO10.out) hb); clear HO10; have HO10 := n_; clear n_; have n_ := Aside0.mk (Kd.R_below (by (with_reducible repeat (first | apply Kd.R_alloc | apply Kd.R_drewN | apply Kd.R_drew)); exact HO11.out) hb); clear HO11; have HO11 := n_; clear n_; have nB_ := Aside0.mk (below_step (by repeat (first | (with_reducible first | exact HB.out | apply below_alloc | apply pw_below_drewN | apply below_drew1) | exact HB.out)) hb); clear HB; have HB := nB_; clear nB_; clear hb; have TK12 : Aside0 True := ⟨trivial⟩) | (have tok_ := TK12; clear TK12 tok_; go_at_call 25; refine (laws_toTeamS.calls (k := k) (A0 := A0) (c0 := c0) (l0 := l0) (r := x13) (h := hx13.out) (hr0 := ?hr0) (hc0 := ?hc0)).mono ?_; (case hr0 => exact Kd.C_below HR0.out (by repeat (first | (with_reducible first | exact HB.out | apply below_alloc | apply pw_below_drewN | apply below_drew1) | exact HB.out))); (case hc0 => exact HC0.out); rintro e w13 ⟨v_, rfl, ho_, hb⟩; have hOI_ : Kd.R k78 78 w13 w12.heap.size (fun k => w12.heap.size ≤ k ∧ k < w13.heap.size) _ _ := M.own_interval (Kd.S_R ho_); have HO13 := Aside0.mk (Kd.R_lower hOI_ (below_size (by repeat (first | (with_reducible first | exact HB.out | apply below_alloc | apply pw_below_drewN | apply below_drew1) | exact HB.out)))); have HSZ13 : Aside0 (w12.heap.size ≤ w13.heap.size) := ⟨hb.size⟩; have n_ := Aside0.mk (Kd.R_below (by (with_reducible repeat (first | apply Kd.R_alloc | apply Kd.R_drewN | apply Kd.R_drew)); exact HO7.out) hb); clear HO7; have HO7 := n_; clear n_; have n_ := Aside0.mk (Kd.R_below (by (with_reducible repeat (first | apply Kd.R_alloc | apply Kd.R_drewN | apply Kd.R_drew)); exact HO8.out) hb); clear HO8; have HO8 := n_; clear n_; have n_ := Aside0.mk (Kd.R_below (by (with_reducible repeat (first | apply Kd.R_alloc | apply Kd.R_drewN | apply Kd.R_drew)); exact HO9.out) hb); clear HO9; have HO9 := n_; clear n_; have n_ := Aside0.mk (Kd.R_below (by (with_reducible repeat (first | apply Kd.R_alloc | apply Kd.R_drewN | apply Kd.R_drew)); exact HO10.out) hb); clear HO10; have HO10 := n_; clear n_; have n_ := Aside0.mk (Kd.R_below (by (with_reducible repeat (first | apply Kd.R_alloc | apply Kd.R_drewN | apply Kd.R_drew)); exact HO11.out) hb); clear HO11; have HO11 := n_; clear n_; have nB_ := Aside0.mk (below_step (by repeat (first | (with_reducible first | exact HB.out | apply below_alloc | apply pw_below_drewN | apply below_drew1) | exact HB.out)) hb); clear HB; have HB := nB_; clear nB_; clear hOI_ ho_ hb; obtain ⟨B13, d13, ev_⟩ := Kd.R_slice HO13.out; subst ev_; have TK13 : Aside0 True := ⟨trivial⟩) | (have tok_ := TK13; clear TK13 tok_; go_at_call 29; refine (laws_eqTeamS.calls (k := k) (A0 := B8) (c0 := d8) (l0 := x8) (A1 := B13) (c1 := d13) (l1 := x13) (r := true) (h := hx14.out) (hr0 := ?hr0) (hc0 := ?hc0) (hr1 := ?hr1) (hc1 := ?hc1)).mono ?_; (case hr0 => (with_reducible repeat (first | apply Kd.C_alloc | apply Kd.C_drewN | apply Kd.C_drew)); exact (Kd.R_reads' HO8.out).2.2); (case hc0 => exact (Kd.R_reads' HO8.out).2.1); (case hr1 => (with_reducible repeat (first | apply Kd.C_alloc | apply Kd.C_drewN | apply Kd.C_drew)); exact (Kd.R_reads' HO13.out).2.2); (case hc1 => exact (Kd.R_reads' HO13.out).2.1); rintro e w14 ⟨rfl, hb⟩; have HSZ14 : Aside0 (w13.heap.size ≤ w14.heap.size) := ⟨hb.size⟩; have n_ := Aside0.mk (Kd.R_below (by (with_reducible repeat (first | apply Kd.R_alloc | apply Kd.R_drewN | apply Kd.R_drew)); exact HO7.out) hb); clear HO7; have HO7 := n_; clear n_; have n_ := Aside0.mk (Kd.R_below (by (with_reducible repeat (first | apply Kd.R_alloc | apply Kd.R_drewN | apply Kd.R_drew)); exact HO8.out) hb); clear HO8; have HO8 := n_; clear n_; have n_ := Aside0.mk (Kd.R_below (by (with_reducible repeat (first | apply Kd.R_alloc | apply Kd.R_drewN | apply Kd.R_drew)); exact HO9.out) hb); clear HO9; have HO9 := n_; clear n_; have n_ := Aside0.mk (Kd.R_below (by (with_reducible repeat (first | apply Kd.R_alloc | apply Kd.R_drewN | apply Kd.R_drew)); exact HO10.out) hb); clear HO10; have HO10 := n_; clear n_; have n_ := Aside0.mk (Kd.R_below (by (with_reducible repeat (first | apply Kd.R_alloc | apply Kd.R_drewN | apply Kd.R_drew)); exact HO11.out) hb); clear HO11; have HO11 := n_; clear n_; have n_ := Aside0.mk (Kd.R_below (by (with_reducible repeat (first | apply Kd.R_alloc | apply Kd.R_drewN | apply Kd.R_drew)); exact HO13.out) hb); clear HO13; have HO13 := n_; clear n_; have nB_ := Aside0.mk (below_step (by repeat (first | (with_reducible first | exact HB.out | apply below_alloc | apply pw_below_drewN | apply below_drew1) | exact HB.out)) hb); clear HB; have HB := nB_; clear nB_; clear hb; clear HO13; have TK14 : Aside0 True := ⟨trivial⟩) | (have tok_ := TK14; clear TK14 tok_; go_at_call 12; refine (laws_toJudgeS.calls (k := k) (A0 := A1) (c0 := c1) (l0 := l1) (r := x15) (h := hx15.out) (hr0 := ?hr0) (hc0 := ?hc0)).mono ?_; (case hr0 => exact Kd.C_below HR1.out (by repeat (first | (with_reducible first | exact HB.out | apply below_alloc | apply pw_below_drewN | apply below_drew1) | exact HB.out))); (case hc0 => exact HC1.out); rintro e w15 ⟨v_, rfl, ho_, hb⟩; have hOI_ : Kd.R k46 46 w15 w14.heap.size (fun k => w14.heap.size ≤ k ∧ k < w15.heap.size) _ _ := M.own_interval (Kd.S_R ho_); have HO15 := Aside0.mk (Kd.R_lower hOI_ (below_size (by repeat (first | (with_reducible first | exact HB.out | apply below_alloc | apply pw_below_drewN | apply below_drew1) | exact HB.out)))); have HSZ15 : Aside0 (w14.heap.size ≤ w15.heap.size) := ⟨hb.size⟩; have n_ := Aside0.mk (Kd.R_below (by (with_reducible repeat (first | apply Kd.R_alloc | apply Kd.R_drewN | apply Kd.R_drew)); exact HO7.out) hb); clear HO7; have HO7 := n_; clear n_; have n_ := Aside0.mk (Kd.R_below (by (with_reducible repeat (first | apply Kd.R_alloc | apply Kd.R_drewN | apply Kd.R_drew)); exact HO8.out) hb); clear HO8; have HO8 := n_; clear n_; have n_ := Aside0.mk (Kd.R_below (by (with_reducible repeat (first | apply Kd.R_alloc | apply Kd.R_drewN | apply Kd.R_drew)); exact HO9.out) hb); clear HO9; have HO9 := n_; clear n_; have n_ := Aside0.mk (Kd.R_below (by (with_reducible repeat (first | apply Kd.R_alloc | apply Kd.R_drewN | apply Kd.R_drew)); exact HO10.out) hb); clear HO10; have HO10 := n_; clear n_; have n_ := Aside0.mk (Kd.R_below (by (with_reducible repeat (first | apply Kd.R_alloc | apply Kd.R_drewN | apply Kd.R_drew)); exact HO11.out) hb); clear HO11; have HO11 := n_; clear n_; have nB_ := Aside0.mk (below_step (by repeat (first | (with_reducible first | exact HB.out | apply below_alloc | apply pw_below_drewN | apply below_drew1) | exact HB.out)) hb); clear HB; have HB := nB_; clear nB_; clear hOI_ ho_ hb; obtain ⟨B15, d15, ev_⟩ := Kd.R_slice HO15.out; subst ev_; have TK15 : Aside0 True := ⟨trivial⟩) | (have tok_ := TK15; clear TK15 tok_; go_at_call 14; refine (laws_eqJudgeS.calls (k := k) (A0 := B9) (c0 := d9) (l0 := x9) (A1 := B15) (c1 := d15) (l1 := x15) (r := true) (h := hx16.out) (hr0 := ?hr0) (hc0 := ?hc0) (hr1 := ?hr1) (hc1 := ?hc1)).mono ?_; (case hr0 => (with_reducible repeat (first | apply Kd.C_alloc | apply Kd.C_drewN | apply Kd.C_drew)); exact (Kd.R_reads' HO9.out).2.2); (case hc0 => exact (Kd.R_reads' HO9.out).2.1); (case hr1 => (with_reducible repeat (first | apply Kd.C_alloc | apply Kd.C_drewN | apply Kd.C_drew)); exact (Kd.R_reads' HO15.out).2.2); (case hc1 => exact (Kd.R_reads' HO15.out).2.1); rintro e w16 ⟨rfl, hb⟩; have HSZ16 : Aside0 (w15.heap.size ≤ w16.heap.size) := ⟨hb.size⟩; have n_ := Aside0.mk (Kd.R_below (by (with_reducible repeat (first | apply Kd.R_alloc | apply Kd.R_drewN | apply Kd.R_drew)); exact HO7.out) hb); clear HO7; have HO7 := n_; clear n_; have n_ := Aside0.mk (Kd.R_below (by (with_reducible repeat (first | apply Kd.R_alloc | apply Kd.R_drewN | apply Kd.R_drew)); exact HO8.out) hb); clear HO8; have HO8 := n_; clear n_; have n_ := Aside0.mk (Kd.R_below (by (with_reducible repeat (first | apply Kd.R_alloc | apply Kd.R_drewN | apply Kd.R_drew)); exact HO9.out) hb); clear HO9; have HO9 := n_; clear n_; have n_ := Aside0.mk (Kd.R_below (by (with_reducible repeat (first | apply Kd.R_alloc | apply Kd.R_drewN | apply Kd.R_drew)); exact HO10.out) hb); clear HO10; have HO10 := n_; clear n_; have n_ := Aside0.mk (Kd.R_below (by (with_reducible repeat (first | apply Kd.R_alloc | apply Kd.R_drewN | apply Kd.R_drew)); exact HO11.out) hb); clear HO11; have HO11 := n_; clear n_; have n_ := Aside0.mk (Kd.R_below (by (with_reducible repeat (first | apply Kd.R_alloc | apply Kd.R_drewN | apply Kd.R_drew)); exact HO15.out) hb); clear HO15; have HO15 := n_; clear n_; have nB_ := Aside0.mk (below_step (by repeat (first | (with_reducible first | exact HB.out | apply below_alloc | apply pw_below_drewN | apply below_drew1) | exact HB.out)) hb); clear HB; have HB := nB_; clear nB_; clear hb; clear HO15; have TK16 : Aside0 True := ⟨trivial⟩) | (have tok_ := TK16; clear TK16 tok_; go_at_call 33; refine (laws_toPairS.calls (k := k) (A0 := A2) (c0 := c2) (l0 := l2) (r := x17) (h := hx17.out) (hr0 := ?hr0) (hc0 := ?hc0)).mono ?_; (case hr0 => exact Kd.C_below HR2.out (by repeat (first | (with_reducible first | exact HB.out | apply below_alloc | apply pw_below_drewN | apply below_drew1) | exact HB.out))); (case hc0 => exact HC2.out); rintro e w17 ⟨v_, rfl, ho_, hb⟩; have hOI_ : Kd.R k48 48 w17 w16.heap.size (fun k => w16.heap.size ≤ k ∧ k < w17.heap.size) _ _ := M.own_interval ho_; have HO17 := Aside0.mk (Kd.R_lower hOI_ (below_size (by repeat (first | (with_reducible first | exact HB.out | apply below_alloc | apply pw_below_drewN | apply below_drew1) | exact HB.out)))); have HSZ17 : Aside0 (w16.heap.size ≤ w17.heap.size) := ⟨hb.size⟩; have n_ := Aside0.mk (Kd.R_below (by (with_reducible repeat (first | apply Kd.R_alloc | apply Kd.R_drewN | apply Kd.R_drew)); exact HO7.out) hb); clear HO7; have HO7 := n_; clear n_; have n_ := Aside0.mk (Kd.R_below (by (with_reducible repeat (first | apply Kd.R_alloc | apply Kd.R_drewN | apply Kd.R_drew)); exact HO8.out) hb); clear HO8; have HO8 := n_; clear n_; have n_ := Aside0.mk (Kd.R_below (by (with_reducible repeat (first | apply Kd.R_alloc | apply Kd.R_drewN | apply Kd.R_drew)); exact HO9.out) hb); clear HO9; have HO9 := n_; clear n_; have n_ := Aside0.mk (Kd.R_below (by (with_reducible repeat (first | apply Kd.R_alloc | apply Kd.R_drewN | apply Kd.R_drew)); exact HO10.out) hb); clear HO10; have HO10 := n_; clear n_; have n_ := Aside0.mk (Kd.R_below (by (with_reducible repeat (first | apply Kd.R_alloc | apply Kd.R_drewN | apply Kd.R_drew)); exact HO11.out) hb); clear HO11; have HO11 := n_; clear n_; have nB_ := Aside0.mk (below_step (by repeat (first | (with_reducible first | exact HB.out | apply below_alloc | apply pw_below_drewN | apply below_drew1) | exact HB.out)) hb); clear HB; have HB := nB_; clear nB_; clear hOI_ ho_ hb; obtain ⟨B17, d17, ev_⟩ := Kd.R_slice HO17.out; subst ev_; have TK17 : Aside0 True := ⟨trivial⟩) | (have tok_ := TK17; clear TK17 tok_; go_at_call 35; refine (laws_eqPairS.calls (k := k) (A0 := B10) (c0 := d10) (l0 := x10) (A1 := B17) (c1 := d17) (l1 := x17) (r := true) (h := hx18.out) (hr0 := ?hr0) (hc0 := ?hc0) (hr1 := ?hr1) (hc1 := ?hc1)).mono ?_; (case hr0 => (with_reducible repeat (first | apply Kd.C_alloc | apply Kd.C_drewN | apply Kd.C_drew)); exact (Kd.R_reads' HO10.out).2.2); (case hc0 => exact (Kd.R_reads' HO10.out).2.1); (case hr1 => (with_reducible repeat (first | apply Kd.C_alloc | apply Kd.C_drewN | apply Kd.C_drew)); exact (Kd.R_reads' HO17.out).2.2); (case hc1 => exact (Kd.R_reads' HO17.out).2.1); rintro e w18 ⟨rfl, hb⟩; have HSZ18 : Aside0 (w17.heap.size ≤ w18.heap.size) := ⟨hb.size⟩; have n_ := Aside0.mk (Kd.R_below (by (with_reducible repeat (first | apply Kd.R_alloc | apply Kd.R_drewN | apply Kd.R_drew)); exact HO7.out) hb); clear HO7; have HO7 := n_; clear n_; have n_ := Aside0.mk (Kd.R_below (by (with_reducible repeat (first | apply Kd.R_alloc | apply Kd.R_drewN | apply Kd.R_drew)); exact HO8.out) hb); clear HO8; have HO8 := n_; clear n_; have n_ := Aside0.mk (Kd.R_below (by (with_reducible repeat (first | apply Kd.R_alloc | apply Kd.R_drewN | apply Kd.R_drew)); exact HO9.out) hb); clear HO9; have HO9 := n_; clear n_; have n_ := Aside0.mk (Kd.R_below (by (with_reducible repeat (first | apply Kd.R_alloc | apply Kd.R_drewN | apply Kd.R_drew)); exact HO10.out) hb); clear HO10; have HO10 := n_; clear n_; have n_ := Aside0.mk (Kd.R_below (by (with_reducible repeat (first | apply Kd.R_alloc | apply Kd.R_drewN | apply Kd.R_drew)); exact HO11.out) hb); clear HO11; have HO11 := n_; clear n_; have n_ := Aside0.mk (Kd.R_below (by (with_reducible repeat (first | apply Kd.R_alloc | apply Kd.R_drewN | apply Kd.R_drew)); exact HO17.out) hb); clear HO17; have HO17 := n_; clear n_; have nB_ := Aside0.mk (below_step (by repeat (first | (with_reducible first | exact HB.out | apply below_alloc | apply pw_below_drewN | apply below_drew1) | exact HB.out)) hb); clear HB; have HB := nB_; clear nB_; clear hb; clear HO17; have TK18 : Aside0 True := ⟨trivial⟩) | (have tok_ := TK18; clear TK18 tok_; go_at_call 38; refine (M.markTeams (e := 78) (base := w.heap.size) (fun k => w7.heap.size ≤ k ∧ k < w8.heap.size) B8 d8 x8 1 _ ?q1 ?q1b ?q1c ?q2 ?q3).mono ?_; (case q1 => exact (by (with_reducible repeat (first | apply Kd.R_alloc | apply Kd.R_drewN | apply Kd.R_drew)); exact HO8.out)); (case q1b => exact HTK19.out.1.1); (case q1c => exact HTK19.out.1.2); (case q2 => omega); (case q3 => have := HTK19.out.2; omega); rintro e w19 ⟨he_, hm_⟩; rw [← HKK19.out] at he_; subst he_; have n_ := Aside0.mk (Kd.R_kept (by (with_reducible repeat (first | apply Kd.R_alloc | apply Kd.R_drewN | apply Kd.R_drew)); exact HO7.out) hm_.kept (fun k h1 h2 => by obtain ⟨h1a, h1b⟩ := h1; obtain ⟨h2a, h2b⟩ := h2; have := HSZ1.out; have := HSZ2.out; have := HSZ3.out; have := HSZ4.out; have := HSZ5.out; have := HSZ6.out; have := HSZ7.out; have := HSZ8.out; have := HSZ9.out; have := HSZ10.out; have := HSZ11.out; have := HSZ12.out; have := HSZ13.out; have := HSZ14.out; have := HSZ15.out; have := HSZ16.out; have := HSZ17.out; have := HSZ18.out; omega)); clear HO7; have HO7 := n_; clear n_; have n_ := Aside0.mk (Kd.R_kept (by (with_reducible repeat (first | apply Kd.R_alloc | apply Kd.R_drewN | apply Kd.R_drew)); exact HO9.out) hm_.kept (fun k h1 h2 => by obtain ⟨h1a, h1b⟩ := h1; obtain ⟨h2a, h2b⟩ := h2; have := HSZ1.out; have := HSZ2.out; have := HSZ3.out; have := HSZ4.out; have := HSZ5.out; have := HSZ6.out; have := HSZ7.out; have := HSZ8.out; have := HSZ9.out; have := HSZ10.out; have := HSZ11.out; have := HSZ12.out; have := HSZ13.out; have := HSZ14.out; have := HSZ15.out; have := HSZ16.out; have := HSZ17.out; have := HSZ18.out; omega)); clear HO9; have HO9 := n_; clear n_; have n_ := Aside0.mk (Kd.R_kept (by (with_reducible repeat (first | apply Kd.R_alloc | apply Kd.R_drewN | apply Kd.R_drew)); exact HO10.out) hm_.kept (fun k h1 h2 => by obtain ⟨h1a, h1b⟩ := h1; obtain ⟨h2a, h2b⟩ := h2; have := HSZ1.out; have := HSZ2.out; have := HSZ3.out; have := HSZ4.out; have := HSZ5.out; have := HSZ6.out; have := HSZ7.out; have := HSZ8.out; have := HSZ9.out; have := HSZ10.out; have := HSZ11.out; have := HSZ12.out; have := HSZ13.out; have := HSZ14.out; have := HSZ15.out; have := HSZ16.out; have := HSZ17.out; have := HSZ18.out; omega)); clear HO10; have HO10 := n_; clear n_; have n_ := Aside0.mk (Kd.R_kept (by (with_reducible repeat (first | apply Kd.R_alloc | apply Kd.R_drewN | apply Kd.R_drew)); exact HO11.out) hm_.kept (fun k h1 h2 => by obtain ⟨h1a, h1b⟩ := h1; obtain ⟨h2a, h2b⟩ := h2; have := HSZ1.out; have := HSZ2.out; have := HSZ3.out; have := HSZ4.out; have := HSZ5.out; have := HSZ6.out; have := HSZ7.out; have := HSZ8.out; have := HSZ9.out; have := HSZ10.out; have := HSZ11.out; have := HSZ12.out; have := HSZ13.out; have := HSZ14.out; have := HSZ15.out; have := HSZ16.out; have := HSZ17.out; have := HSZ18.out; omega)); clear HO11; have HO11 := n_; clear n_; have nB_ := Aside0.mk (M.MI.below hm_ (by repeat (first | (with_reducible first | exact HB.out | apply below_alloc | apply pw_below_drewN | apply below_drew1) | exact HB.out)) (fun k hk => by have := hk.1; have := HSZ1.out; have := HSZ2.out; have := HSZ3.out; have := HSZ4.out; have := HSZ5.out; have := HSZ6.out; have := HSZ7.out; have := HSZ8.out; have := HSZ9.out; have := HSZ10.out; have := HSZ11.out; have := HSZ12.out; have := HSZ13.out; have := HSZ14.out; have := HSZ15.out; have := HSZ16.out; have := HSZ17.out; have := HSZ18.out; omega)); clear HB; have HB := nB_; clear nB_ HO8; have HSZ19 : Aside0 (w18.heap.size ≤ w19.heap.size) := ⟨hm_.size⟩; clear hm_; have TK19 : Aside0 True := ⟨trivial⟩) | (have tok_ := TK19; clear TK19 tok_; go_at_call 19; refine (M.markJudges (e := 46) (base := w.heap.size) (fun k => w8.heap.size ≤ k ∧ k < w9.heap.size) B9 d9 x9 K19 _ ?q1 ?q1b ?q1c ?q2 ?q3).mono ?_; (case q1 => exact (by (with_reducible repeat (first | apply Kd.R_alloc | apply Kd.R_drewN | apply Kd.R_drew)); exact HO9.out)); (case q1b => exact HTK20.out.1.1); (case q1c => exact HTK20.out.1.2); (case q2 => have := HQK19.out; omega); (case q3 => have := HTK20.out.2; have := HQK19.out; omega); rintro e w20 ⟨he_, hm_⟩; rw [← HKK20.out] at he_; subst he_; have n_ := Aside0.mk (Kd.R_kept (by (with_reducible repeat (first | apply Kd.R_alloc | apply Kd.R_drewN | apply Kd.R_drew)); exact HO7.out) hm_.kept (fun k h1 h2 => by obtain ⟨h1a, h1b⟩ := h1; obtain ⟨h2a, h2b⟩ := h2; have := HSZ1.out; have := HSZ2.out; have := HSZ3.out; have := HSZ4.out; have := HSZ5.out; have := HSZ6.out; have := HSZ7.out; have := HSZ8.out; have := HSZ9.out; have := HSZ10.out; have := HSZ11.out; have := HSZ12.out; have := HSZ13.out; have := HSZ14.out; have := HSZ15.out; have := HSZ16.out; have := HSZ17.out; have := HSZ18.out; have := HSZ19.out; omega)); clear HO7; have HO7 := n_; clear n_; have n_ := Aside0.mk (Kd.R_kept (by (with_reducible repeat (first | apply Kd.R_alloc | apply Kd.R_drewN | apply Kd.R_drew)); exact HO10.out) hm_.kept (fun k h1 h2 => by obtain ⟨h1a, h1b⟩ := h1; obtain ⟨h2a, h2b⟩ := h2; have := HSZ1.out; have := HSZ2.out; have := HSZ3.out; have := HSZ4.out; have := HSZ5.out; have := HSZ6.out; have := HSZ7.out; have := HSZ8.out; have := HSZ9.out; have := HSZ10.out; have := HSZ11.out; have := HSZ12.out; have := HSZ13.out; have := HSZ14.out; have := HSZ15.out; have := HSZ16.out; have := HSZ17.out; have := HSZ18.out; have := HSZ19.out; omega)); clear HO10; have HO10 := n_; clear n_; have n_ := Aside0.mk (Kd.R_kept (by (with_reducible repeat (first | apply Kd.R_alloc | apply Kd.R_drewN | apply Kd.R_drew)); exact HO11.out) hm_.kept (fun k h1 h2 => by obtain ⟨h1a, h1b⟩ := h1; obtain ⟨h2a, h2b⟩ := h2; have := HSZ1.out; have := HSZ2.out; have := HSZ3.out; have := HSZ4.out; have := HSZ5.out; have := HSZ6.out; have := HSZ7.out; have := HSZ8.out; have := HSZ9.out; have := HSZ10.out; have := HSZ11.out; have := HSZ12.out; have := HSZ13.out; have := HSZ14.out; have := HSZ15.out; have := HSZ16.out; have := HSZ17.out; have := HSZ18.out; have := HSZ19.out; omega)); clear HO11; have HO11 := n_; clear n_; have nB_ := Aside0.mk (M.MI.below hm_ (by repeat (first | (with_reducible first | exact HB.out | apply below_alloc | apply pw_below_drewN | apply below_drew1) | exact HB.out)) (fun k hk => by have := hk.1; have := HSZ1.out; have := HSZ2.out; have := HSZ3.out; have := HSZ4.out; have := HSZ5.out; have := HSZ6.out; have := HSZ7.out; have := HSZ8.out; have := HSZ9.out; have := HSZ10.out; have := HSZ11.out; have := HSZ12.out; have := HSZ13.out; have := HSZ14.out; have := HSZ15.out; have := HSZ16.out; have := HSZ17.out; have := HSZ18.out; have := HSZ19.out; omega)); clear HB; have HB := nB_; clear nB_ HO9; have HSZ20 : Aside0 (w19.heap.size ≤ w20.heap.size) := ⟨hm_.size⟩; clear hm_; have TK20 : Aside0 True := ⟨trivial⟩) | (have tok_ := TK20; clear TK20 tok_; go_at_call 39; refine (laws_markPairS.calls (k := k) (P0_ := fun k => w9.heap.size ≤ k ∧ k < w10.heap.size) (u9000_ := .slice B10 x10.length d10) (l0 := x10) (a1 := K20) (r1 := m21) (r2 := y21) (w0 := w) (h := hx21.out) (hB := ?q1) (ho0 := ?q2)).mono ?_; (case q1 => exact (by repeat (first | (with_reducible first | exact HB.out | apply below_alloc | apply pw_below_drewN | apply below_drew1) | exact HB.out))); (case q2 => (with_reducible repeat (first | apply Kd.R_alloc | apply Kd.R_drewN | apply Kd.R_drew)); exact HO10.out); rintro e w21 ⟨rfl, ho_, hb_, hk_⟩; have n_ := Aside0.mk (Kd.R_kept (by (with_reducible repeat (first | apply Kd.R_alloc | apply Kd.R_drewN | apply Kd.R_drew)); exact HO7.out) hk_ (fun k h1 h2 => by obtain ⟨h1a, h1b⟩ := h1; obtain ⟨h2a, h2b⟩ := h2; have := HSZ1.out; have := HSZ2.out; have := HSZ3.out; have := HSZ4.out; have := HSZ5.out; have := HSZ6.out; have := HSZ7.out; have := HSZ8.out; have := HSZ9.out; have := HSZ10.out; have := HSZ11.out; have := HSZ12.out; have := HSZ13.out; have := HSZ14.out; have := HSZ15.out; have := HSZ16.out; have := HSZ17.out; have := HSZ18.out; have := HSZ19.out; have := HSZ20.out; omega)); clear HO7; have HO7 := n_; clear n_; have n_ := Aside0.mk (Kd.R_kept (by (with_reducible repeat (first | apply Kd.R_alloc | apply Kd.R_drewN | apply Kd.R_drew)); exact HO11.out) hk_ (fun k h1 h2 => by obtain ⟨h1a, h1b⟩ := h1; obtain ⟨h2a, h2b⟩ := h2; have := HSZ1.out; have := HSZ2.out; have := HSZ3.out; have := HSZ4.out; have := HSZ5.out; have := HSZ6.out; have := HSZ7.out; have := HSZ8.out; have := HSZ9.out; have := HSZ10.out; have := HSZ11.out; have := HSZ12.out; have := HSZ13.out; have := HSZ14.out; have := HSZ15.out; have := HSZ16.out; have := HSZ17.out; have := HSZ18.out; have := HSZ19.out; have := HSZ20.out; omega)); clear HO11; have HO11 := n_; clear n_; clear HO10; have HO10 := Aside0.mk ho_; have el_ : x10.length = y21.length := (Kd.R_reads' ho_).1; clear HB; have HB := Aside0.mk hb_; have HSZ21 : Aside0 (w20.heap.size ≤ w21.heap.size) := ⟨hk_.1⟩; clear ho_ hb_ hk_; rw [el_]; rw [el_] at HO10; clear el_; clear HO10; have TK21 : Aside0 True := ⟨trivial⟩) | (have tok_ := TK21; clear TK21 tok_; go_at_call 18; refine (laws_eqIntS.calls (k := k) (A0 := B11) (c0 := d11) (l0 := x11) (A1 := B7) (c1 := d7) (l1 := x7) (r := true) (h := hx22.out) (hr0 := ?hr0) (hc0 := ?hc0) (hr1 := ?hr1) (hc1 := ?hc1)).mono ?_; (case hr0 => (with_reducible repeat (first | apply Kd.C_alloc | apply Kd.C_drewN | apply Kd.C_drew)); exact (Kd.R_reads' HO11.out).2.2); (case hc0 => exact (Kd.R_reads' HO11.out).2.1); (case hr1 => (with_reducible repeat (first | apply Kd.C_alloc | apply Kd.C_drewN | apply Kd.C_drew)); exact (Kd.R_reads' HO7.out).2.2); (case hc1 => exact (Kd.R_reads' HO7.out).2.1); rintro e w22 ⟨rfl, hd_⟩; have hb := M.drawn_below hd_; clear hd_; have HSZ22 : Aside0 (w21.heap.size ≤ w22.heap.size) := ⟨hb.size⟩; have n_ := Aside0.mk (Kd.R_below (by (with_reducible repeat (first | apply Kd.R_alloc | apply Kd.R_drewN | apply Kd.R_drew)); exact HO7.out) hb); clear HO7; have HO7 := n_; clear n_; have n_ := Aside0.mk (Kd.R_below (by (with_reducible repeat (first | apply Kd.R_alloc | apply Kd.R_drewN | apply Kd.R_drew)); exact HO11.out) hb); clear HO11; have HO11 := n_; clear n_; have nB_ := Aside0.mk (below_step (by repeat (first | (with_reducible first | exact HB.out | apply below_alloc | apply pw_below_drewN | apply below_drew1) | exact HB.out)) hb); clear HB; have HB := nB_; clear nB_; clear hb; have TK22 : Aside0 True := ⟨trivial⟩) | (have tok_ := TK22; clear TK22 tok_; go_at_call 20; refine (laws_markIntS.calls (k := k) (P0_ := fun k => w10.heap.size ≤ k ∧ k < w11.heap.size) (u9000_ := .slice B11 x11.length d11) (l0 := x11) (a1 := 1) (r1 := m23) (r2 := y23) (w0 := w) (h := hx23.out) (hB := ?q1) (ho0 := ?q2)).mono ?_; (case q1 => exact (by repeat (first | (with_reducible first | exact HB.out | apply below_alloc | apply pw_below_drewN | apply below_drew1) | exact HB.out))); (case q2 => (with_reducible repeat (first | apply Kd.R_alloc | apply Kd.R_drewN | apply Kd.R_drew)); exact HO11.out); rintro e w23 ⟨rfl, ho_, hb_, hk_⟩; have n_ := Aside0.mk (Kd.R_kept (by (with_reducible repeat (first | apply Kd.R_alloc | apply Kd.R_drewN | apply Kd.R_drew)); exact HO7.out) hk_ (fun k h1 h2 => by obtain ⟨h1a, h1b⟩ := h1; obtain ⟨h2a, h2b⟩ := h2; have := HSZ1.out; have := HSZ2.out; have := HSZ3.out; have := HSZ4.out; have := HSZ5.out; have := HSZ6.out; have := HSZ7.out; have := HSZ8.out; have := HSZ9.out; have := HSZ10.out; have := HSZ11.out; have := HSZ12.out; have := HSZ13.out; have := HSZ14.out; have := HSZ15.out; have := HSZ16.out; have := HSZ17.out; have := HSZ18.out; have := HSZ19.out; have := HSZ20.out; have := HSZ21.out; have := HSZ22.out; omega)); clear HO7; have HO7 := n_; clear n_; clear HO11; have HO11 := Aside0.mk ho_; have el_ : x11.length = y23.length := (Kd.R_reads' ho_).1; clear HB; have HB := Aside0.mk hb_; have HSZ23 : Aside0 (w22.heap.size ≤ w23.heap.size) := ⟨hk_.1⟩; clear ho_ hb_ hk_; rw [el_]; rw [el_] at HO11; clear el_; have TK23 : Aside0 True := ⟨trivial⟩) | (have tok_ := TK23; clear TK23 tok_; go_at_call 21; refine (laws_heldIntS.calls (k := k) (A0 := B11) (c0 := d11) (l0 := y23) (a1 := 1) (r := m23) (h := hx24.out) (hr0 := ?hr0) (hc0 := ?hc0)).mono ?_; (case hr0 => (with_reducible repeat (first | apply Kd.C_alloc | apply Kd.C_drewN | apply Kd.C_drew)); exact (Kd.R_reads' HO11.out).2.2); (case hc0 => exact (Kd.R_reads' HO11.out).2.1); rintro e w24 ⟨rfl, hd_⟩; have hb := M.drawn_below hd_; clear hd_; have HSZ24 : Aside0 (w23.heap.size ≤ w24.heap.size) := ⟨hb.size⟩; have n_ := Aside0.mk (Kd.R_below (by (with_reducible repeat (first | apply Kd.R_alloc | apply Kd.R_drewN | apply Kd.R_drew)); exact HO7.out) hb); clear HO7; have HO7 := n_; clear n_; have n_ := Aside0.mk (Kd.R_below (by (with_reducible repeat (first | apply Kd.R_alloc | apply Kd.R_drewN | apply Kd.R_drew)); exact HO11.out) hb); clear HO11; have HO11 := n_; clear n_; have nB_ := Aside0.mk (below_step (by repeat (first | (with_reducible first | exact HB.out | apply below_alloc | apply pw_below_drewN | apply below_drew1) | exact HB.out)) hb); clear HB; have HB := nB_; clear nB_; clear hb; have TK24 : Aside0 True := ⟨trivial⟩) | (have tok_ := TK24; clear TK24 tok_; go_at_call 25; refine (laws_toTeamS.calls (k := k) (A0 := A0) (c0 := c0) (l0 := l0) (r := x25) (h := hx25.out) (hr0 := ?hr0) (hc0 := ?hc0)).mono ?_; (case hr0 => exact Kd.C_below HR0.out (by repeat (first | (with_reducible first | exact HB.out | apply below_alloc | apply pw_below_drewN | apply below_drew1) | exact HB.out))); (case hc0 => exact HC0.out); rintro e w25 ⟨v_, rfl, ho_, hb⟩; have hOI_ : Kd.R k78 78 w25 w24.heap.size (fun k => w24.heap.size ≤ k ∧ k < w25.heap.size) _ _ := M.own_interval (Kd.S_R ho_); have HO25 := Aside0.mk (Kd.R_lower hOI_ (below_size (by repeat (first | (with_reducible first | exact HB.out | apply below_alloc | apply pw_below_drewN | apply below_drew1) | exact HB.out)))); have HSZ25 : Aside0 (w24.heap.size ≤ w25.heap.size) := ⟨hb.size⟩; have n_ := Aside0.mk (Kd.R_below (by (with_reducible repeat (first | apply Kd.R_alloc | apply Kd.R_drewN | apply Kd.R_drew)); exact HO7.out) hb); clear HO7; have HO7 := n_; clear n_; have n_ := Aside0.mk (Kd.R_below (by (with_reducible repeat (first | apply Kd.R_alloc | apply Kd.R_drewN | apply Kd.R_drew)); exact HO11.out) hb); clear HO11; have HO11 := n_; clear n_; have nB_ := Aside0.mk (below_step (by repeat (first | (with_reducible first | exact HB.out | apply below_alloc | apply pw_below_drewN | apply below_drew1) | exact HB.out)) hb); clear HB; have HB := nB_; clear nB_; clear hOI_ ho_ hb; obtain ⟨B25, d25, ev_⟩ := Kd.R_slice HO25.out; subst ev_; have TK25 : Aside0 True := ⟨trivial⟩) | (have tok_ := TK25; clear TK25 tok_; go_at_call 12; refine (laws_toJudgeS.calls (k := k) (A0 := A1) (c0 := c1) (l0 := l1) (r := x26) (h := hx26.out) (hr0 := ?hr0) (hc0 := ?hc0)).mono ?_; (case hr0 => exact Kd.C_below HR1.out (by repeat (first | (with_reducible first | exact HB.out | apply below_alloc | apply pw_below_drewN | apply below_drew1) | exact HB.out))); (case hc0 => exact HC1.out); rintro e w26 ⟨v_, rfl, ho_, hb⟩; have hOI_ : Kd.R k46 46 w26 w25.heap.size (fun k => w25.heap.size ≤ k ∧ k < w26.heap.size) _ _ := M.own_interval (Kd.S_R ho_); have HO26 := Aside0.mk (Kd.R_lower hOI_ (below_size (by repeat (first | (with_reducible first | exact HB.out | apply below_alloc | apply pw_below_drewN | apply below_drew1) | exact HB.out)))); have HSZ26 : Aside0 (w25.heap.size ≤ w26.heap.size) := ⟨hb.size⟩; have n_ := Aside0.mk (Kd.R_below (by (with_reducible repeat (first | apply Kd.R_alloc | apply Kd.R_drewN | apply Kd.R_drew)); exact HO7.out) hb); clear HO7; have HO7 := n_; clear n_; have n_ := Aside0.mk (Kd.R_below (by (with_reducible repeat (first | apply Kd.R_alloc | apply Kd.R_drewN | apply Kd.R_drew)); exact HO11.out) hb); clear HO11; have HO11 := n_; clear n_; have n_ := Aside0.mk (Kd.R_below (by (with_reducible repeat (first | apply Kd.R_alloc | apply Kd.R_drewN | apply Kd.R_drew)); exact HO25.out) hb); clear HO25; have HO25 := n_; clear n_; have nB_ := Aside0.mk (below_step (by repeat (first | (with_reducible first | exact HB.out | apply below_alloc | apply pw_below_drewN | apply below_drew1) | exact HB.out)) hb); clear HB; have HB := nB_; clear nB_; clear hOI_ ho_ hb; obtain ⟨B26, d26, ev_⟩ := Kd.R_slice HO26.out; subst ev_; have TK26 : Aside0 True := ⟨trivial⟩) | (have tok_ := TK26; clear TK26 tok_; go_at_call 33; refine (laws_toPairS.calls (k := k) (A0 := A2) (c0 := c2) (l0 := l2) (r := x27) (h := hx27.out) (hr0 := ?hr0) (hc0 := ?hc0)).mono ?_; (case hr0 => exact Kd.C_below HR2.out (by repeat (first | (with_reducible first | exact HB.out | apply below_alloc | apply pw_below_drewN | apply below_drew1) | exact HB.out))); (case hc0 => exact HC2.out); rintro e w27 ⟨v_, rfl, ho_, hb⟩; have hOI_ : Kd.R k48 48 w27 w26.heap.size (fun k => w26.heap.size ≤ k ∧ k < w27.heap.size) _ _ := M.own_interval ho_; have HO27 := Aside0.mk (Kd.R_lower hOI_ (below_size (by repeat (first | (with_reducible first | exact HB.out | apply below_alloc | apply pw_below_drewN | apply below_drew1) | exact HB.out)))); have HSZ27 : Aside0 (w26.heap.size ≤ w27.heap.size) := ⟨hb.size⟩; have n_ := Aside0.mk (Kd.R_below (by (with_reducible repeat (first | apply Kd.R_alloc | apply Kd.R_drewN | apply Kd.R_drew)); exact HO7.out) hb); clear HO7; have HO7 := n_; clear n_; have n_ := Aside0.mk (Kd.R_below (by (with_reducible repeat (first | apply Kd.R_alloc | apply Kd.R_drewN | apply Kd.R_drew)); exact HO11.out) hb); clear HO11; have HO11 := n_; clear n_; have n_ := Aside0.mk (Kd.R_below (by (with_reducible repeat (first | apply Kd.R_alloc | apply Kd.R_drewN | apply Kd.R_drew)); exact HO25.out) hb); clear HO25; have HO25 := n_; clear n_; have n_ := Aside0.mk (Kd.R_below (by (with_reducible repeat (first | apply Kd.R_alloc | apply Kd.R_drewN | apply Kd.R_drew)); exact HO26.out) hb); clear HO26; have HO26 := n_; clear n_; have nB_ := Aside0.mk (below_step (by repeat (first | (with_reducible first | exact HB.out | apply below_alloc | apply pw_below_drewN | apply below_drew1) | exact HB.out)) hb); clear HB; have HB := nB_; clear nB_; clear hOI_ ho_ hb; obtain ⟨B27, d27, ev_⟩ := Kd.R_slice HO27.out; subst ev_; have TK27 : Aside0 True := ⟨trivial⟩) | (have tok_ := TK27; clear TK27 tok_; go_at_call 37; refine (impl_SeatJudges.calls (k := k) (A0 := B25) (c0 := d25) (l0 := x25) (A1 := B26) (c1 := d26) (l1 := x26) (A2 := B27) (c2 := d27) (l2 := x27) (r1 := x28) (r2 := b7) (h := hx28.out) (hr0 := ?hr0) (hc0 := ?hc0) (hr1 := ?hr1) (hc1 := ?hc1) (hr2 := ?hr2) (hc2 := ?hc2)).mono ?_; (case hr0 => (with_reducible repeat (first | apply Kd.C_alloc | apply Kd.C_drewN | apply Kd.C_drew)); exact (Kd.R_reads' HO25.out).2.2); (case hc0 => exact (Kd.R_reads' HO25.out).2.1); (case hr1 => (with_reducible repeat (first | apply Kd.C_alloc | apply Kd.C_drewN | apply Kd.C_drew)); exact (Kd.R_reads' HO26.out).2.2); (case hc1 => exact (Kd.R_reads' HO26.out).2.1); (case hr2 => (with_reducible repeat (first | apply Kd.C_alloc | apply Kd.C_drewN | apply Kd.C_drew)); exact (Kd.R_reads' HO27.out).2.2); (case hc2 => exact (Kd.R_reads' HO27.out).2.1); rintro e w28 ⟨v_, rfl, ho_, hb⟩; have hOI_ : Kd.R (Kd.int .i64) 3 w28 w27.heap.size (fun k => w27.heap.size ≤ k ∧ k < w28.heap.size) _ _ := M.own_interval ho_; have HO28 := Aside0.mk (Kd.R_lower hOI_ (below_size (by repeat (first | (with_reducible first | exact HB.out | apply below_alloc | apply pw_below_drewN | apply below_drew1) | exact HB.out)))); have HSZ28 : Aside0 (w27.heap.size ≤ w28.heap.size) := ⟨hb.size⟩; have n_ := Aside0.mk (Kd.R_below (by (with_reducible repeat (first | apply Kd.R_alloc | apply Kd.R_drewN | apply Kd.R_drew)); exact HO7.out) hb); clear HO7; have HO7 := n_; clear n_; have n_ := Aside0.mk (Kd.R_below (by (with_reducible repeat (first | apply Kd.R_alloc | apply Kd.R_drewN | apply Kd.R_drew)); exact HO11.out) hb); clear HO11; have HO11 := n_; clear n_; have n_ := Aside0.mk (Kd.R_below (by (with_reducible repeat (first | apply Kd.R_alloc | apply Kd.R_drewN | apply Kd.R_drew)); exact HO25.out) hb); clear HO25; have HO25 := n_; clear n_; have n_ := Aside0.mk (Kd.R_below (by (with_reducible repeat (first | apply Kd.R_alloc | apply Kd.R_drewN | apply Kd.R_drew)); exact HO26.out) hb); clear HO26; have HO26 := n_; clear n_; have n_ := Aside0.mk (Kd.R_below (by (with_reducible repeat (first | apply Kd.R_alloc | apply Kd.R_drewN | apply Kd.R_drew)); exact HO27.out) hb); clear HO27; have HO27 := n_; clear n_; have nB_ := Aside0.mk (below_step (by repeat (first | (with_reducible first | exact HB.out | apply below_alloc | apply pw_below_drewN | apply below_drew1) | exact HB.out)) hb); clear HB; have HB := nB_; clear nB_; clear hOI_ ho_ hb; obtain ⟨B28, d28, ev_⟩ := Kd.R_slice HO28.out; subst ev_; clear HO25 HO26 HO27; have TK28 : Aside0 True := ⟨trivial⟩) | (have tok_ := TK28; clear TK28 tok_; go_at_call 18; refine (laws_eqIntS.calls (k := k) (A0 := B28) (c0 := d28) (l0 := x28) (A1 := B7) (c1 := d7) (l1 := x7) (r := true) (h := hx29.out) (hr0 := ?hr0) (hc0 := ?hc0) (hr1 := ?hr1) (hc1 := ?hc1)).mono ?_; (case hr0 => (with_reducible repeat (first | apply Kd.C_alloc | apply Kd.C_drewN | apply Kd.C_drew)); exact (Kd.R_reads' HO28.out).2.2); (case hc0 => exact (Kd.R_reads' HO28.out).2.1); (case hr1 => (with_reducible repeat (first | apply Kd.C_alloc | apply Kd.C_drewN | apply Kd.C_drew)); exact (Kd.R_reads' HO7.out).2.2); (case hc1 => exact (Kd.R_reads' HO7.out).2.1); rintro e w29 ⟨rfl, hd_⟩; have hb := M.drawn_below hd_; clear hd_; have HSZ29 : Aside0 (w28.heap.size ≤ w29.heap.size) := ⟨hb.size⟩; have n_ := Aside0.mk (Kd.R_below (by (with_reducible repeat (first | apply Kd.R_alloc | apply Kd.R_drewN | apply Kd.R_drew)); exact HO7.out) hb); clear HO7; have HO7 := n_; clear n_; have n_ := Aside0.mk (Kd.R_below (by (with_reducible repeat (first | apply Kd.R_alloc | apply Kd.R_drewN | apply Kd.R_drew)); exact HO11.out) hb); clear HO11; have HO11 := n_; clear n_; have n_ := Aside0.mk (Kd.R_below (by (with_reducible repeat (first | apply Kd.R_alloc | apply Kd.R_drewN | apply Kd.R_drew)); exact HO28.out) hb); clear HO28; have HO28 := n_; clear n_; have nB_ := Aside0.mk (below_step (by repeat (first | (with_reducible first | exact HB.out | apply below_alloc | apply pw_below_drewN | apply below_drew1) | exact HB.out)) hb); clear HB; have HB := nB_; clear nB_; clear hb; clear HO7 HO28; have TK29 : Aside0 True := ⟨trivial⟩) | (have tok_ := TK29; clear TK29 tok_; go_at_call 21; refine (laws_heldIntS.calls (k := k) (A0 := B11) (c0 := d11) (l0 := y23) (a1 := 1) (r := m23) (h := hx30.out) (hr0 := ?hr0) (hc0 := ?hc0)).mono ?_; (case hr0 => (with_reducible repeat (first | apply Kd.C_alloc | apply Kd.C_drewN | apply Kd.C_drew)); exact (Kd.R_reads' HO11.out).2.2); (case hc0 => exact (Kd.R_reads' HO11.out).2.1); rintro e w30 ⟨rfl, hd_⟩; have hb := M.drawn_below hd_; clear hd_; have HSZ30 : Aside0 (w29.heap.size ≤ w30.heap.size) := ⟨hb.size⟩; have n_ := Aside0.mk (Kd.R_below (by (with_reducible repeat (first | apply Kd.R_alloc | apply Kd.R_drewN | apply Kd.R_drew)); exact HO11.out) hb); clear HO11; have HO11 := n_; clear n_; have nB_ := Aside0.mk (below_step (by repeat (first | (with_reducible first | exact HB.out | apply below_alloc | apply pw_below_drewN | apply below_drew1) | exact HB.out)) hb); clear HB; have HB := nB_; clear nB_; clear hb; clear HO11; have TK30 : Aside0 True := ⟨trivial⟩))
  go_ret
  exact ⟨rfl, (by repeat (first | (with_reducible first | exact HB.out | apply below_alloc | apply pw_below_drewN | apply below_drew1) | exact HB.out))⟩
end Go.Proofs.Ytdlebbmmanjffaa.A
end

section
set_option linter.unusedVariables false
namespace Go.Proofs.Ytdlebbmmanjffaa.Open
open Go.ChangeShapes Go.WideShapes Go.Deep Go.RowKit Go.Proofs.YtdlebbmmanjffaaW.PrintWords
def Opn (P : Program) (t : TypeId) {α : Type} (d : Kd α) : Prop :=
  ∀ (H : Type) (enc : TypeId × Value → H) (w : World) (base : Nat) (spare : Nat → Bool) (held : Bool) (fuel : Nat) (cs : List Value) (y : DataW H × List MemPlace),
    DataW.trod enc P w base spare held fuel t cs = some y → ∃ x : α, d.K w x cs
def OpnL (P : Program) (fs : List Field) {α : Type} (d : Kd α) : Prop :=
  ∀ (H : Type) (enc : TypeId × Value → H) (w : World) (base : Nat) (spare : Nat → Bool) (held : Bool) (cs : List Value), cs.length = fs.length →
    (∀ (j : Nat) (f : Field) (c : Value), fs[j]? = some f → cs[j]? = some c → ∃ (n : Nat) (y : DataW H × List MemPlace), DataW.trod enc P w base spare held n f.type [c] = some y) → ∃ x : α, d.K w x cs
theorem opn_int {P : Program} {t : TypeId} {k : IntKind} (ht : P.underlying t = some (.int k)) : Opn P t (Kd.int k) := by
  intro H enc w base spare held fuel cs y h
  obtain ⟨n, rfl, _⟩ := DataW.trod_int ht h
  exact ⟨n, rfl⟩
theorem opnL_one {P : Program} {f : Field} {α : Type} {d : Kd α} (h : Opn P f.type d) : OpnL P [f] d := by
  intro H enc w base spare held cs hl hf
  match cs, hl with
  | [c], _ =>
    obtain ⟨n, y, hy⟩ := hf 0 f c rfl rfl
    exact h H enc w base spare held n [c] y hy
theorem opnL_cons {P : Program} {f : Field} {fs : List Field} {α β : Type} {a : Kd α} {b : Kd β} (h : Opn P f.type a) (hs : OpnL P fs b) : OpnL P (f :: fs) (Kd.pair a b) := by
  intro H enc w base spare held cs hl hf
  match cs, hl with
  | c :: cs, hl =>
    obtain ⟨n, y, hy⟩ := hf 0 f c rfl rfl
    obtain ⟨x, hx⟩ := h H enc w base spare held n [c] y hy
    obtain ⟨z, hz⟩ := hs H enc w base spare held cs (by simpa using hl) (fun j f' c' h1 h2 => hf (j + 1) f' c' (by simpa using h1) (by simpa using h2))
    exact ⟨(x, z), [c], cs, rfl, hx, hz⟩
theorem opn_struct {P : Program} {t : TypeId} {fs : Array Field} (ht : P.underlying t = some (.struct fs)) (hone : oneCellFields P fs = true) (hC : P.cellsOf t = fs.size)
    {α : Type} {d : Kd α} (hL : OpnL P fs.toList d) : Opn P t d := by
  intro H enc w base spare held fuel cs y h
  obtain ⟨xs, n, _, _, hlen, hxl, hf⟩ := DataW.trod_struct ht h
  refine hL H enc w base spare held cs (by rw [hlen, hC, Array.length_toList]) (fun j f c hj hc => ?_)
  have hj' : fs[j]? = some f := by simpa using hj
  obtain ⟨ho, hk⟩ := hone_of hone j f hj'
  have h1 := hf j f hj'
  rw [ho, hk] at h1
  have hjl : j < fs.size := (Array.getElem?_eq_some_iff.1 hj').1
  have hcl : j < cs.length := (List.getElem?_eq_some_iff.1 hc).1
  have e1 : (cs.drop j).take 1 = [c] := by
    rw [List.drop_eq_getElem_cons hcl]
    have : cs[j] = c := (List.getElem?_eq_some_iff.1 hc).2
    rw [this]; rfl
  rw [e1] at h1
  exact ⟨n, xs[j]'(by omega), h1.trans (List.getElem?_eq_getElem (by omega))⟩
theorem opn_iso {P : Program} {t : TypeId} {α β : Type} {d : Kd α} {f : β → α} (h : Opn P t d) (hs : ∀ a, ∃ b, f b = a) : Opn P t (Kd.iso d f) := by
  intro H enc w base spare held fuel cs y hy
  obtain ⟨x, hx⟩ := h H enc w base spare held fuel cs y hy
  obtain ⟨z, rfl⟩ := hs x
  exact ⟨z, hx⟩
theorem list_of {α : Type} {p : Nat → α → Prop} : ∀ n, (∀ i, i < n → ∃ x, p i x) → ∃ l : List α, l.length = n ∧ ∀ i x, l[i]? = some x → p i x
  | 0, _ => ⟨[], rfl, fun i x h => by simp at h⟩
  | n + 1, h => by
    obtain ⟨l, hl, hp⟩ := list_of n (fun i hi => h i (by omega))
    obtain ⟨x, hx⟩ := h n (by omega)
    refine ⟨l ++ [x], by simp [hl], fun i y hy => ?_⟩
    rcases Nat.lt_or_ge i l.length with hi | hi
    · rw [List.getElem?_append_left hi] at hy
      exact hp i y hy
    · have hi' : i = l.length := by
        have := (List.getElem?_eq_some_iff.1 hy).1
        rw [List.length_append, List.length_singleton] at this
        omega
      subst hi'
      have : x = y := by simpa using hy
      subst this
      rw [hl]
      exact hx
theorem opn_slice {P : Program} {t e : TypeId} {α : Type} {d : Kd α} (ht : P.underlying t = some (.slice e)) (hC : P.cellsOf e = d.sz) (he : Opn P e d) : Opn P t (Kd.slice e d) := by
  intro H enc w base spare held fuel cs y h
  rcases open_slice ht h with ⟨rfl, _⟩ | ⟨a, len, cap, m, n, D, Pl, rfl, hb, hl, hm, hmm, hx, hi⟩
  · exact ⟨[], none, 0, rfl, Nat.le_refl _, rfl, by simp, fun h => absurd h (by simp)⟩
  · have hlm : len ≤ m := by rw [hmm]; split <;> omega
    obtain ⟨xs, hxl, hp⟩ := list_of (p := fun i x => ∃ cs', w.cells? base (a.add (i * P.cellsOf e)) (P.cellsOf e) = some cs' ∧ d.K w x cs') len (fun i hil => by
      obtain ⟨cs', h1, h2⟩ := hi i (by omega)
      obtain ⟨x, hx⟩ := he H enc w base spare held n cs' _ h2
      exact ⟨x, cs', h1, hx⟩)
    refine ⟨xs, some a, cap, by rw [hxl], by omega, rfl, by unfold maxLen at hm; omega, fun _ => ⟨a, rfl, fun j p hj => ?_⟩⟩
    obtain ⟨cs', hc, hk⟩ := hp j p hj
    obtain ⟨_, hcl, hat⟩ := World.cells?_some hc
    refine ⟨cs', d.K_len hk, hk, fun i u hu => ?_⟩
    have hil : i < cs'.length := (List.getElem?_eq_some_iff.1 hu).1
    have := hat i (by omega)
    rw [Go.Deep.add_add, hC] at this
    rw [this]
    exact hu
theorem opened {H : Type} {enc : TypeId × Value → H} {P : Program} {W : World} {base : Nat} {spare : Nat → Bool} {held : Bool} {t e : TypeId} {α : Type} {d : Kd α} (h : Opn P t (Kd.slice e d)) {a : Option Addr} {len cap : Nat} {dd : DataW H} {ps : List MemPlace}
    (ht : DataW.Trod enc P W base spare held t (.slice a len cap) dd ps) : ∃ l : List α, l.length = len ∧ l.length ≤ cap ∧ d.C W a l.length l := by
  obtain ⟨fuel, hf⟩ := ht
  obtain ⟨l, A, c, he, hl, hc⟩ := h H enc W base spare held fuel _ _ hf
  simp [Value.cells] at he
  obtain ⟨rfl, rfl, rfl⟩ := he
  exact ⟨l, rfl, hl, hc⟩
theorem C_mem {α : Type} {d : Kd α} {w : World} {A : Option Addr} {n : Nat} {xs : List α} (h : d.C w A n xs) (x : α) (hx : x ∈ xs) : ∃ c, d.K w x c := by
  obtain ⟨j, hj, rfl⟩ := List.mem_iff_getElem.1 hx
  have h0 : 0 < n := by have := h.1; omega
  obtain ⟨ad, _, hc⟩ := h.2.2 h0
  obtain ⟨c, _, hk, _⟩ := hc j _ (List.getElem?_eq_getElem hj)
  exact ⟨c, hk⟩
end Go.Proofs.Ytdlebbmmanjffaa.Open
end

section
set_option linter.unusedVariables false
set_option linter.unusedSimpArgs false
namespace Go.Proofs.Ytdlebbmmanjffaa.L
open Go Go.RowKit Go.Proofs.Ytdlebbmmanjffaa.A Go.Proofs.YtdlebbmmanjffaaW.PrintWords
theorem Index_l0 (l : List Int) (x : Int) (hl : l.length ≤ 1099511627776) : ∀ (d n : Nat), n + d = l.length → Ev (fun k => slices_Index_int_int.l0 k l x (l.length : Int) (n : Int)) (if x ∈ l.drop n then ((n + (l.drop n).idxOf x : Nat) : Int) else -1) := by
  intro d
  induction d with
  | zero =>
    intro n hd
    refine Ev.step (fun k => slices_Index_int_int.l0.eq_2 ..) ?_
    refine Ev.neg (by omega) (Ev.some_ ?_)
    rw [List.drop_eq_nil_of_le (by omega)]
    simp
  | succ d ih =>
    intro n hd
    refine Ev.step (fun k => slices_Index_int_int.l0.eq_2 ..) ?_
    refine Ev.pos (by omega) (Ev.pos (by omega) (Ev.pos (by omega) ?_))
    simp only [w64s (show n < 4611686018427387904 by omega), rd_at (show n < l.length by omega)]
    have h1 := ih (n + 1) (by omega)
    rw [List.drop_eq_getElem_cons (show n < l.length by omega)]
    generalize l.drop (n + 1) = u at h1 ⊢
    refine Ev.ite (fun h => Ev.some_ ?_) (fun h => Ev.cast h1 ?_)
    · simp [h]
    · have h' : ¬ l[n] = x := fun e => h e.symm
      simp only [List.mem_cons, h, false_or, List.idxOf_cons, beq_eq_false_iff_ne.2 h']
      split
      · simp; omega
      · rfl
def idx (l : List Int) (x : Int) : Int := if x ∈ l then (l.idxOf x : Int) else -1
theorem Index_ev (l : List Int) (x : Int) (hl : l.length ≤ 1099511627776) : Ev (fun k => slices_Index_int_int.f k l x) (idx l x) := by
  unfold slices_Index_int_int.f
  refine Ev.cast (Index_l0 l x hl l.length 0 (by omega)) ?_
  simp [idx]
theorem Contains_ev (l : List Int) (x : Int) (hl : l.length ≤ 1099511627776) : Ev (fun k => slices_Contains_int_int.f k l x) (decide (x ∈ l)) := by
  unfold slices_Contains_int_int.f
  refine Ev.bind (Index_ev l x hl) (Ev.some_ ?_)
  unfold idx
  by_cases h : x ∈ l
  · simp [h]
  · simp [h]
end Go.Proofs.Ytdlebbmmanjffaa.L
end

section
set_option linter.unusedVariables false
set_option linter.unusedSimpArgs false
namespace Go.Proofs.Ytdlebbmmanjffaa.L
open Go Go.RowKit Go.Proofs.Ytdlebbmmanjffaa.A Go.Proofs.YtdlebbmmanjffaaW.PrintWords
theorem l4Has_l0 (l : List Int) (x : Int) (hl : l.length ≤ 1099511627776) : ∀ (d n : Nat), n + d = l.length → Ev (fun k => spec_l4Has.l0 k l x (n : Int)) (decide (x ∈ l.drop n)) := by
  intro d
  induction d with
  | zero =>
    intro n hd
    refine Ev.step (fun k => spec_l4Has.l0.eq_2 ..) ?_
    refine Ev.neg (by omega) (Ev.some_ ?_)
    rw [List.drop_eq_nil_of_le (by omega)]
    simp
  | succ d ih =>
    intro n hd
    refine Ev.step (fun k => spec_l4Has.l0.eq_2 ..) ?_
    refine Ev.pos (by omega) (Ev.pos (by omega) ?_)
    simp only [w64s (show n < 4611686018427387904 by omega), rd_at (show n < l.length by omega)]
    have h1 := ih (n + 1) (by omega)
    rw [List.drop_eq_getElem_cons (show n < l.length by omega)]
    generalize l.drop (n + 1) = u at h1 ⊢
    refine Ev.ite (fun h => Ev.some_ ?_) (fun h => Ev.cast h1 ?_)
    · simp [h]
    · have h' : ¬ x = l[n] := fun e => h e.symm
      simp [h']
theorem l4Has_ev (l : List Int) (x : Int) (hl : l.length ≤ 1099511627776) : Ev (fun k => spec_l4Has.f k l x) (decide (x ∈ l)) := by
  unfold spec_l4Has.f
  exact Ev.cast (l4Has_l0 l x hl l.length 0 (by omega)) (by simp)
end Go.Proofs.Ytdlebbmmanjffaa.L
end

section
set_option linter.unusedVariables false
set_option linter.unusedSimpArgs false
namespace Go.Proofs.Ytdlebbmmanjffaa.L
open Go Go.RowKit Go.Proofs.Ytdlebbmmanjffaa.A Go.Proofs.YtdlebbmmanjffaaW.PrintWords
abbrev Jg := S46
theorem rdJg {l : List Jg} {n : Nat} (h : n < l.length) : rd_T46 l (n : Int) = l[n] := by
  simp [rd_T46, h]
theorem rdLJg {l : List S38} {n : Nat} (h : n < l.length) : rd_T38 l (n : Int) = l[n] := by
  simp [rd_T38, h]
def cvJg (x : S38) : Jg := ⟨x.f0, x.f1, x.f2⟩
def SmallJ (l : List Jg) : Prop := l.length ≤ 1099511627776 ∧ ∀ x ∈ l, x.f2.length ≤ 1099511627776
theorem szIntJ_eq (l : List Int) (left : Int) (h0 : 0 ≤ left) (h1 : left ≤ 1048576) (hl : l.length ≤ 9223372036854775807) : laws_szIntS.f l left = some (if left - l.length < 0 then -1 else left - l.length) := by
  unfold laws_szIntS.f
  rw [w64 (by omega) (by omega)]
  split <;> rfl
theorem szJudge_eq (a b : Int) (l : List Int) (left : Int) (h0 : 0 ≤ left) (h1 : left ≤ 1048576) (hl : l.length ≤ 9223372036854775807) : laws_szJudge.f a b l left = some (if left - l.length < 0 then -1 else left - l.length) := by
  unfold laws_szJudge.f
  rw [szIntJ_eq l left h0 h1 hl]
  simp only [Option.bind_some]
  by_cases h : left - (l.length : Int) < 0
  · rw [if_pos h, if_pos (by omega)]
  · rw [if_neg h, if_neg h]
theorem szJudgeS_l0 (l : List S38) (hl : l.length ≤ 1048576) (hi : ∀ x ∈ l, x.f2.length ≤ 9223372036854775807) : ∀ (d n : Nat) (left : Int), n + d = l.length → 0 ≤ left → left ≤ 1048576 → (∀ (i : Nat) (h : i < n) (h' : i < l.length), (l[i]).f2.length ≤ 1048576) → ∃ v, Ev (fun k => laws_szJudgeS.l0 k l left (n : Int)) v ∧ v ≤ 1048576 ∧ (0 ≤ v → ∀ x ∈ l, x.f2.length ≤ 1048576) := by
  intro d
  induction d with
  | zero =>
    intro n left hd h0 h1 hp
    refine ⟨left, Ev.step (fun k => laws_szJudgeS.l0.eq_2 ..) (Ev.neg (by omega) (Ev.now _)), h1, fun _ x hx => ?_⟩
    obtain ⟨j, hj, rfl⟩ := List.mem_iff_getElem.1 hx
    exact hp j (by omega) hj
  | succ d ih =>
    intro n left hd h0 h1 hp
    have hn : n < l.length := by omega
    have hs := szJudge_eq (l[n]).f0 (l[n]).f1 (l[n]).f2 left h0 h1 (hi _ (List.getElem_mem _))
    by_cases hb : left - (l[n]).f2.length < 0
    · rw [if_pos hb] at hs
      refine ⟨-1, Ev.step (fun k => laws_szJudgeS.l0.eq_2 ..) (Ev.pos (by omega) (Ev.pos (by omega) ?_)), by omega, fun h => by omega⟩
      simp only [rdLJg hn]
      exact Ev.bnd hs (Ev.pos (by omega) (Ev.now _))
    · rw [if_neg hb] at hs
      obtain ⟨v, hv, hv1, hv2⟩ := ih (n + 1) (left - (l[n]).f2.length) (by omega) (by omega) (by omega) (fun i h h' => by
        by_cases e : i = n
        · subst e
          omega
        · exact hp i (by omega) h')
      refine ⟨v, Ev.step (fun k => laws_szJudgeS.l0.eq_2 ..) (Ev.pos (by omega) (Ev.pos (by omega) ?_)), hv1, hv2⟩
      simp only [rdLJg hn, w64s (show n < 4611686018427387904 by omega)]
      exact Ev.bnd hs (Ev.neg (by omega) hv)
theorem szJudgeS_ev (l : List S38) (left : Int) (hL : 0 ≤ left ∧ left ≤ 1048576) (hl : l.length ≤ 9223372036854775807) (hi : ∀ x ∈ l, x.f2.length ≤ 9223372036854775807) : ∃ v, Ev (fun k => laws_szJudgeS.f k l left) v ∧ v ≤ 1048576 ∧ (¬ v < 0 → l.length ≤ 1048576 ∧ ∀ x ∈ l, x.f2.length ≤ 1048576) := by
  unfold laws_szJudgeS.f
  rw [w64 (by omega) (by omega)]
  by_cases hb : left - (l.length : Int) < 0
  · exact ⟨-1, Ev.pos hb (Ev.now _), by omega, fun h => by omega⟩
  · obtain ⟨v, hv, hv1, hv2⟩ := szJudgeS_l0 l (by omega) hi l.length 0 (left - l.length) (by omega) (by omega) (by omega) (fun i h => by omega)
    exact ⟨v, Ev.neg hb hv, hv1, fun h => ⟨by omega, hv2 (by omega)⟩⟩
theorem toJudge_ev (a b : Int) (l : List Int) (h : l.length ≤ 1099511627776) : Ev (fun k => laws_toJudge.f k a b l) (a, b, l) := by
  unfold laws_toJudge.f
  exact Ev.bind (toIntS_ev l h) (Ev.now _)
theorem toJudgeS_l0 (l : List S38) (hl : l.length ≤ 1099511627776) (hi : ∀ x ∈ l, x.f2.length ≤ 1099511627776) : ∀ (d n : Nat) (xs : List Jg), n + d = l.length → xs.length = l.length → xs.take n = (l.map cvJg).take n → Ev (fun k => laws_toJudgeS.l0 k l xs (n : Int)) (l.map cvJg) := by
  intro d
  induction d with
  | zero =>
    intro n xs hd hx ht
    refine Ev.step (fun k => laws_toJudgeS.l0.eq_2 ..) ?_
    refine Ev.neg (by omega) (Ev.some_ ?_)
    rw [List.take_of_length_le (by omega), List.take_of_length_le (by simp; omega)] at ht
    exact ht
  | succ d ih =>
    intro n xs hd hx ht
    refine Ev.step (fun k => laws_toJudgeS.l0.eq_2 ..) ?_
    refine Ev.pos (by omega) (Ev.pos (by omega) ?_)
    simp only [w64s (show n < 4611686018427387904 by omega), rdLJg (show n < l.length by omega), Int.toNat_natCast]
    refine Ev.bind (toJudge_ev _ _ _ (hi _ (List.getElem_mem _))) (Ev.pos (by omega) ?_)
    refine ih (n + 1) _ (by omega) (by simp [hx]) ?_
    rw [List.take_succ_eq_append_getElem (by simp; omega), List.take_succ_eq_append_getElem (by simp; omega), List.take_set_of_le (by omega), ht]
    simp [cvJg]
theorem toJudgeS_ev (l : List S38) (hl : l.length ≤ 1099511627776) (hi : ∀ x ∈ l, x.f2.length ≤ 1099511627776) : Ev (fun k => laws_toJudgeS.f k l) (l.map cvJg) := by
  unfold laws_toJudgeS.f
  refine Ev.pos (by omega) (Ev.pos (by simp; omega) ?_)
  exact toJudgeS_l0 l hl hi l.length 0 _ (by omega) (by simp) (by simp)
theorem smallJ_map (l : List S38) (hl : l.length ≤ 1099511627776) (hi : ∀ x ∈ l, x.f2.length ≤ 1099511627776) : SmallJ (l.map cvJg) := by
  refine ⟨by simpa using hl, fun x hx => ?_⟩
  obtain ⟨y, hy, rfl⟩ := List.mem_map.1 hx
  exact hi y hy
theorem eqJudge_ev (a b : Int) (l : List Int) (h : l.length ≤ 1099511627776) : Ev (fun k => laws_eqJudge.f k a b l a b l) true := by
  unfold laws_eqJudge.f
  exact Ev.pos rfl (Ev.pos rfl (Ev.bind (eqIntS_ev _ _ h) (Ev.pos (by simp) (Ev.now _))))
theorem eqJudgeS_l0 (l : List Jg) (hs : SmallJ l) : ∀ (d n : Nat), n + d = l.length → Ev (fun k => laws_eqJudgeS.l0 k l l (n : Int)) true := by
  have hl := hs.1
  intro d
  induction d with
  | zero =>
    intro n hd
    refine Ev.step (fun k => laws_eqJudgeS.l0.eq_2 ..) ?_
    exact Ev.neg (by omega) (Ev.now _)
  | succ d ih =>
    intro n hd
    refine Ev.step (fun k => laws_eqJudgeS.l0.eq_2 ..) ?_
    refine Ev.pos (by omega) (Ev.pos (by omega) (Ev.pos (by omega) ?_))
    simp only [w64s (show n < 4611686018427387904 by omega), rdJg (show n < l.length by omega)]
    exact Ev.bind (eqJudge_ev _ _ _ (hs.2 _ (List.getElem_mem _))) (Ev.pos rfl (ih (n + 1) (by omega)))
theorem eqJudgeS_ev (l : List Jg) (hs : SmallJ l) : Ev (fun k => laws_eqJudgeS.f k l l) true := by
  unfold laws_eqJudgeS.f
  exact Ev.pos rfl (eqJudgeS_l0 l hs l.length 0 (by omega))
def seenF (p : Int) : List Int → Bool
  | [] => true
  | x :: t => inR x 1 99 && decide (p < x) && seenF x t
def judgesF (p : Int) : List Jg → Bool
  | [] => true
  | j :: l => inR j.f0 1 99 && decide (p < j.f0) && inR j.f1 1 99 && seenF 0 j.f2 && judgesF j.f0 l
def okJudges (l : List Jg) : Bool := judgesF 0 l && decide ((l.length : Int) ≤ 10)
theorem sJ_l1 (l : List Jg) (hs : SmallJ l) (m : Nat) (hm : m < l.length) (R : Bool) (hR : Ev (fun k => spec_AreJudges.l0 k l ((m + 1 : Nat) : Int)) R) : ∀ (d n : Nat) (p : Int), n + d = (l[m]).f2.length → (n = 0 → p = 0) → (∀ h : 0 < n ∧ n ≤ (l[m]).f2.length, p = ((l[m]).f2[n - 1]'(by omega))) → Ev (fun k => spec_AreJudges.l1 k l (m : Int) (n : Int)) (seenF p ((l[m]).f2.drop n) && R) := by
  have hl := hs.1
  have h2 := hs.2 _ (List.getElem_mem hm)
  intro d
  induction d with
  | zero =>
    intro n p hd hp0 hp
    refine Ev.step (fun k => spec_AreJudges.l1.eq_2 ..) (Ev.pos (by omega) (Ev.pos (by omega) ?_))
    simp only [rdJg hm, w64s (show m < 4611686018427387904 by omega)]
    refine Ev.neg (by omega) (Ev.cast hR ?_)
    rw [List.drop_eq_nil_of_le (by omega)]
    simp [seenF]
  | succ d ih =>
    intro n p hd hp0 hp
    refine Ev.step (fun k => spec_AreJudges.l1.eq_2 ..) (Ev.pos (by omega) (Ev.pos (by omega) ?_))
    simp only [rdJg hm, w64s (show n < 4611686018427387904 by omega)]
    refine Ev.pos (by omega) (Ev.pos (by omega) ?_)
    simp only [rd_at (show n < (l[m]).f2.length by omega), l1In_eq, Option.bind_some]
    have h1 := ih (n + 1) ((l[m]).f2[n]) (by omega) (by omega) (fun h => by simp)
    rw [List.drop_eq_getElem_cons (show n < (l[m]).f2.length by omega)]
    generalize (l[m]).f2.drop (n + 1) = u at h1 ⊢
    refine Ev.ite (fun h => Ev.ite (fun h3 => ?_) (fun h3 => Ev.cast h1 ?_)) (fun h => Ev.some_ ?_)
    · obtain ⟨q, rfl⟩ : ∃ q, n = q + 1 := ⟨n - 1, by omega⟩
      simp only [w64p (show q < 4611686018427387904 by omega), rd_at (show q < (l[m]).f2.length by omega)]
      have hp' : p = (l[m]).f2[q] := hp ⟨by omega, by omega⟩
      refine Ev.pos (by omega) (Ev.pos (by omega) (Ev.ite (fun h4 => Ev.some_ ?_) (fun h4 => Ev.cast h1 ?_)))
      · have : ¬ p < (l[m]).f2[q + 1] := by omega
        simp [seenF, this]
      · have : p < (l[m]).f2[q + 1] := by omega
        simp [seenF, this, h]
    · have h0 : n = 0 := by omega
      have := inR_iff.1 h
      have : p < (l[m]).f2[n] := by rw [hp0 h0]; omega
      simp [seenF, h, this]
    · simp [seenF, h]
theorem sAreJudges_l0 (l : List Jg) (hs : SmallJ l) : ∀ (d n : Nat) (p : Int), n + d = l.length → (n = 0 → p = 0) → (∀ h : 0 < n ∧ n ≤ l.length, p = (l[n - 1]'(by omega)).f0) → Ev (fun k => spec_AreJudges.l0 k l (n : Int)) (judgesF p (l.drop n) && decide ((l.length : Int) ≤ 10)) := by
  have hl := hs.1
  intro d
  induction d with
  | zero =>
    intro n p hd hp0 hp
    refine Ev.step (fun k => spec_AreJudges.l0.eq_2 ..) ?_
    refine Ev.neg (by omega) (Ev.some_ ?_)
    rw [List.drop_eq_nil_of_le (by omega)]
    simp [judgesF]
  | succ d ih =>
    intro n p hd hp0 hp
    have hn : n < l.length := by omega
    refine Ev.step (fun k => spec_AreJudges.l0.eq_2 ..) ?_
    refine Ev.pos (by omega) (Ev.pos (by omega) ?_)
    simp only [rdJg hn, l1In_eq, Option.bind_some]
    have h1 := ih (n + 1) (l[n]).f0 (by omega) (by omega) (fun h => by simp)
    have hin := sJ_l1 l hs n hn _ h1 (l[n]).f2.length 0 0 (by omega) (fun _ => rfl) (fun h => by omega)
    rw [List.drop_zero] at hin
    rw [List.drop_eq_getElem_cons hn]
    generalize l.drop (n + 1) = u at h1 hin ⊢
    have no : ∀ R : Bool, R = false → Ev (fun k => spec_AreJudges.j1 k l (n : Int) true) R := fun R hR => Ev.step (fun k => spec_AreJudges.j1.eq_2 ..) (Ev.pos rfl (Ev.some_ hR.symm))
    have go : ∀ R : Bool, (seenF 0 (l[n]).f2 && (judgesF (l[n]).f0 u && decide ((l.length : Int) ≤ 10))) = R → Ev (fun k => spec_AreJudges.j1 k l (n : Int) false) R := fun R hR => Ev.step (fun k => spec_AreJudges.j1.eq_2 ..) (Ev.neg (by simp) (Ev.cast hin hR))
    refine Ev.ite (fun h => Ev.ite (fun h' => Ev.ite (fun h2 => ?_) (fun h2 => go _ ?_)) (fun h' => no _ ?_)) (fun h => no _ ?_)
    · obtain ⟨q, rfl⟩ : ∃ q, n = q + 1 := ⟨n - 1, by omega⟩
      simp only [w64p (show q < 4611686018427387904 by omega), rdJg (show q < l.length by omega)]
      have hp' : p = l[q].f0 := hp ⟨by omega, by omega⟩
      refine Ev.pos (by omega) (Ev.pos (by omega) ?_)
      by_cases h3 : l[q].f0 ≥ l[q + 1].f0
      · rw [decide_eq_true h3]
        have : ¬ p < l[q + 1].f0 := by omega
        exact no _ (by simp [judgesF, this])
      · rw [decide_eq_false h3]
        have : p < l[q + 1].f0 := by omega
        exact go _ (by simp [judgesF, this, h, h', Bool.and_assoc])
    · have h0 : n = 0 := by omega
      have := inR_iff.1 h
      have : p < l[n].f0 := by rw [hp0 h0]; omega
      simp [judgesF, h, h', this, Bool.and_assoc]
    · simp [judgesF, h']
    · simp [judgesF, h]
theorem sAreJudges_ev (l : List Jg) (hs : SmallJ l) : Ev (fun k => spec_AreJudges.f k l) (okJudges l) := by
  unfold spec_AreJudges.f
  exact Ev.cast (sAreJudges_l0 l hs l.length 0 0 (by omega) (fun _ => rfl) (fun h => by omega)) (by simp [okJudges])
theorem iJ_l1 (l : List Jg) (hs : SmallJ l) (m : Nat) (hm : m < l.length) (a b : Int) (s : List Int) (h2 : s.length ≤ 1099511627776) (R : Bool) (hR : Ev (fun k => impl_AreJudges.l0 k l l (l.length : Int) ((m + 1 : Nat) : Int)) R) : ∀ (d n : Nat) (p : Int), n + d = s.length → (n = 0 → p = 0) → (∀ h : 0 < n ∧ n ≤ s.length, p = (s[n - 1]'(by omega))) → Ev (fun k => impl_AreJudges.l1 k l l (l.length : Int) (m : Int) s (s.length : Int) (n : Int) a b s) (seenF p (s.drop n) && R) := by
  have hl := hs.1
  intro d
  induction d with
  | zero =>
    intro n p hd hp0 hp
    refine Ev.step (fun k => impl_AreJudges.l1.eq_2 ..) (Ev.neg (by omega) ?_)
    simp only [w64s (show m < 4611686018427387904 by omega)]
    refine Ev.cast hR ?_
    rw [List.drop_eq_nil_of_le (by omega)]
    simp [seenF]
  | succ d ih =>
    intro n p hd hp0 hp
    refine Ev.step (fun k => impl_AreJudges.l1.eq_2 ..) (Ev.pos (by omega) (Ev.pos (by omega) (Ev.pos (by omega) ?_)))
    simp only [w64s (show n < 4611686018427387904 by omega), rd_at (show n < s.length by omega), InRange_eq, Option.bind_some]
    have h1 := ih (n + 1) (s[n]) (by omega) (by omega) (fun h => by simp)
    rw [List.drop_eq_getElem_cons (show n < s.length by omega)]
    generalize s.drop (n + 1) = u at h1 ⊢
    refine Ev.ite (fun h => Ev.ite (fun h3 => ?_) (fun h3 => Ev.cast h1 ?_)) (fun h => Ev.some_ ?_)
    · obtain ⟨q, rfl⟩ : ∃ q, n = q + 1 := ⟨n - 1, by omega⟩
      simp only [w64p (show q < 4611686018427387904 by omega), rd_at (show q < s.length by omega)]
      have hp' : p = s[q] := hp ⟨by omega, by omega⟩
      refine Ev.pos (by omega) (Ev.pos (by omega) (Ev.ite (fun h4 => Ev.some_ ?_) (fun h4 => Ev.cast h1 ?_)))
      · have : ¬ p < s[q + 1] := by omega
        simp [seenF, this]
      · have : p < s[q + 1] := by omega
        simp [seenF, this, h]
    · have h0 : n = 0 := by omega
      have := inR_iff.1 h
      have : p < s[n] := by rw [hp0 h0]; omega
      simp [seenF, h, this]
    · simp [seenF, h]
theorem iAreJudges_l0 (l : List Jg) (hs : SmallJ l) : ∀ (d n : Nat) (p : Int), n + d = l.length → (n = 0 → p = 0) → (∀ h : 0 < n ∧ n ≤ l.length, p = (l[n - 1]'(by omega)).f0) → Ev (fun k => impl_AreJudges.l0 k l l (l.length : Int) (n : Int)) (judgesF p (l.drop n)) := by
  have hl := hs.1
  intro d
  induction d with
  | zero =>
    intro n p hd hp0 hp
    refine Ev.step (fun k => impl_AreJudges.l0.eq_2 ..) ?_
    refine Ev.neg (by omega) (Ev.some_ ?_)
    rw [List.drop_eq_nil_of_le (by omega)]
    rfl
  | succ d ih =>
    intro n p hd hp0 hp
    have hn : n < l.length := by omega
    have h2 := hs.2 _ (List.getElem_mem hn)
    refine Ev.step (fun k => impl_AreJudges.l0.eq_2 ..) ?_
    refine Ev.pos (by omega) (Ev.pos (by omega) (Ev.pos (by omega) ?_))
    simp only [rdJg hn, InRange_eq, Option.bind_some]
    have h1 := ih (n + 1) (l[n]).f0 (by omega) (by omega) (fun h => by simp)
    have hin := iJ_l1 l hs n hn (l[n]).f0 (l[n]).f1 (l[n]).f2 h2 _ h1 (l[n]).f2.length 0 0 (by omega) (fun _ => rfl) (fun h => by omega)
    rw [List.drop_zero] at hin
    rw [List.drop_eq_getElem_cons hn]
    generalize l.drop (n + 1) = u at h1 hin ⊢
    have no : ∀ R : Bool, R = false → Ev (fun k => impl_AreJudges.j1 k l l (l.length : Int) (n : Int) true (l[n]).f0 (l[n]).f1 (l[n]).f2) R := fun R hR => Ev.step (fun k => impl_AreJudges.j1.eq_2 ..) (Ev.pos rfl (Ev.some_ hR.symm))
    have go : ∀ R : Bool, (seenF 0 (l[n]).f2 && judgesF (l[n]).f0 u) = R → Ev (fun k => impl_AreJudges.j1 k l l (l.length : Int) (n : Int) false (l[n]).f0 (l[n]).f1 (l[n]).f2) R := fun R hR => Ev.step (fun k => impl_AreJudges.j1.eq_2 ..) (Ev.neg (by simp) (Ev.cast hin hR))
    have bb : ∀ (R : Bool), (inR (l[n]).f1 1 99 = false → R = false) → (inR (l[n]).f1 1 99 = true → (seenF 0 (l[n]).f2 && judgesF (l[n]).f0 u) = R) → Ev (fun k => impl_AreJudges.j1 k l l (l.length : Int) (n : Int) (!inR (l[n]).f1 1 99) (l[n]).f0 (l[n]).f1 (l[n]).f2) R := by
      intro R r0 r1
      cases hq : inR (l[n]).f1 1 99 with
      | true => exact go R (r1 hq)
      | false => exact no R (r0 hq)
    refine Ev.ite (fun h => Ev.ite (fun h2 => ?_) (fun h2 => bb _ (fun h' => ?_) (fun h' => ?_))) (fun h => no _ ?_)
    · obtain ⟨q, rfl⟩ : ∃ q, n = q + 1 := ⟨n - 1, by omega⟩
      simp only [w64p (show q < 4611686018427387904 by omega), rdJg (show q < l.length by omega)]
      have hp' : p = l[q].f0 := hp ⟨by omega, by omega⟩
      refine Ev.pos (by omega) (Ev.pos (by omega) (Ev.ite (fun h3 => no _ ?_) (fun h3 => bb _ (fun h' => ?_) (fun h' => ?_))))
      · have : ¬ p < l[q + 1].f0 := by omega
        simp [judgesF, this]
      · simp [judgesF, h']
      · have : p < l[q + 1].f0 := by omega
        simp [judgesF, this, h, h', Bool.and_assoc]
    · simp [judgesF, h']
    · have h0 : n = 0 := by omega
      have := inR_iff.1 h
      have : p < l[n].f0 := by rw [hp0 h0]; omega
      simp [judgesF, h, h', this, Bool.and_assoc]
    · simp [judgesF, h]
theorem iAreJudges_ev (l : List Jg) (hs : SmallJ l) : Ev (fun k => impl_AreJudges.f k l) (okJudges l) := by
  unfold impl_AreJudges.f
  refine Ev.ite (fun h => Ev.some_ ?_) (fun h => Ev.cast (iAreJudges_l0 l hs l.length 0 0 (by omega) (fun _ => rfl) (fun h => by omega)) ?_)
  · have : ¬ (l.length : Int) ≤ 10 := by omega
    simp [okJudges, this]
  · have : (l.length : Int) ≤ 10 := by omega
    simp [okJudges, this]
end Go.Proofs.Ytdlebbmmanjffaa.L
end
