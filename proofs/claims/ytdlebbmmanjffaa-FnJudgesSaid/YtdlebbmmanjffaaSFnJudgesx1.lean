/- What the row FnJudges rests on, put together: A3, A4, A5, A9, LHSeatd, A6, A14, A15, A16, A17, A18. No condition. -/
import Derived.Test.YtdlebbmmanjffaaSFnJudgesx0
import Derived.BigQuiet
import Derived.StillTailTactics
section
namespace Go.Proofs.Ytdlebbmmanjffaa.A
open Go.RowKit Go.Proofs.YtdlebbmmanjffaaW.PrintWords Go.Proofs.YtdlebbmmanjffaaW.PrintLast Go.Proofs.YtdlebbmmanjffaaW.PrintMore
attribute [local go_sem] max2_int min2_int max_two min_two max_three min_three max_four min_four
set_option linter.unusedVariables false
set_option linter.unusedSimpArgs false
mutual
def impl_AreJudges.l0 : Nat → List (S46) → List (S46) → Int → Int → Option (Bool)
  | 0, _, _, _, _ => none
  | k + 1, x0, x10, x11, x12 => if x12 < x11 then (if 0 ≤ x12 then (if x12 < (x10.length : Int) then ((impl_InRange.f ((rd_T46 x10 x12).f0) 1 99).bind fun t103 => (if t103 = true then (if x12 > 0 then (if 0 ≤ (wrap64 (x12 - 1)) then (if (wrap64 (x12 - 1)) < (x0.length : Int) then (if ((rd_T46 x10 x12).f0) ≤ ((rd_T46 x0 (wrap64 (x12 - 1))).f0) then (impl_AreJudges.j1 k x0 x10 x11 x12 true ((rd_T46 x10 x12).f0) ((rd_T46 x10 x12).f1) ((rd_T46 x10 x12).f2)) else ((impl_InRange.f ((rd_T46 x10 x12).f1) 1 99).bind fun t105 => (impl_AreJudges.j1 k x0 x10 x11 x12 (!t105) ((rd_T46 x10 x12).f0) ((rd_T46 x10 x12).f1) ((rd_T46 x10 x12).f2)))) else (none)) else (none)) else ((impl_InRange.f ((rd_T46 x10 x12).f1) 1 99).bind fun t106 => (impl_AreJudges.j1 k x0 x10 x11 x12 (!t106) ((rd_T46 x10 x12).f0) ((rd_T46 x10 x12).f1) ((rd_T46 x10 x12).f2)))) else (impl_AreJudges.j1 k x0 x10 x11 x12 true ((rd_T46 x10 x12).f0) ((rd_T46 x10 x12).f1) ((rd_T46 x10 x12).f2)))) else (none)) else (none)) else (some true)
def impl_AreJudges.j1 : Nat → List (S46) → List (S46) → Int → Int → Bool → Int → Int → List Int → Option (Bool)
  | 0, _, _, _, _, _, _, _, _ => none
  | k + 1, x0, x10, x11, x12, x41, x103000, x103001, x103002 => if x41 = true then (some false) else (impl_AreJudges.l1 k x0 x10 x11 x12 x103002 (x103002.length : Int) 0 x103000 x103001 x103002)
def impl_AreJudges.l1 : Nat → List (S46) → List (S46) → Int → Int → List Int → Int → Int → Int → Int → List Int → Option (Bool)
  | 0, _, _, _, _, _, _, _, _, _, _ => none
  | k + 1, x0, x10, x11, x12, x43, x44, x45, x103000, x103001, x103002 => if x45 < x44 then (if 0 ≤ x45 then (if x45 < (x43.length : Int) then ((impl_InRange.f (rd x43 x45) 1 99).bind fun t108 => (if t108 = true then (if x45 > 0 then (if 0 ≤ (wrap64 (x45 - 1)) then (if (wrap64 (x45 - 1)) < (x103002.length : Int) then (if (rd x43 x45) ≤ (rd x103002 (wrap64 (x45 - 1))) then (some false) else (impl_AreJudges.l1 k x0 x10 x11 x12 x43 x44 (wrap64 (x45 + 1)) x103000 x103001 x103002)) else (none)) else (none)) else (impl_AreJudges.l1 k x0 x10 x11 x12 x43 x44 (wrap64 (x45 + 1)) x103000 x103001 x103002)) else (some false))) else (none)) else (none)) else (impl_AreJudges.l0 k x0 x10 x11 (wrap64 (x12 + 1)))
end
def impl_AreJudges.f (k : Nat) (l0 : List (S46)) : Option (Bool) := if (l0.length : Int) > 10 then (some false) else (impl_AreJudges.l0 k l0 l0 (l0.length : Int) 0)
set_option maxHeartbeats 8000000 in
set_option maxRecDepth 100000 in
theorem impl_AreJudges.calls (k : Nat) (A0 : Option Addr) (c0 : Nat) (l0 : List (S46)) (r : Bool) (w : World) (hr0 : Kd.C k46 w A0 l0.length l0) (hc0 : l0.length ≤ c0) (h : impl_AreJudges.f k l0 = some r) :
  Calls Try.prog 13 #[.slice A0 l0.length c0] w fun e w' => e = .returned (.bool r) ∧ Below w.heap.size w w' := by
 have hu46 := Try.underlying46
 have HR0 := Aside0.mk hr0
 have HC0 := Aside0.mk hc0
 clear hr0 hc0
 have HB := Aside0.mk (Below.refl w.heap.size w)
 have H : (if (l0.length : Int) > 10 then (some false) else (impl_AreJudges.l0 k l0 l0 (l0.length : Int) 0)) = some r := h
 clear h
 by_cases c2 : (l0.length : Int) > 10
 rotate_left
 ·
  rw [if_neg c2] at H
  have c2b0 : decide (10 < (l0.length : Int)) = false := decide_eq_false c2
  have c2b1 : decide (10 < l0.length) = false := decide_eq_false (by omega)
  clear c2
  have H' := Aside0.mk H
  clear H
  go_enter Try.func13, Try.ntmps13
  go_wp2
  repeat (go_quiet (fail); try go_wp2)
  go_loopg [12] k (fun kq v12 w' => ∃ (x12_1 : Int), v12 = .int .i64 x12_1 ∧ Aside0 (impl_AreJudges.l0 kq l0 l0 (l0.length : Int) x12_1 = some r) ∧ Aside0 (kq ≤ k) ∧ Aside0 (Below w.heap.size w w'))
  case atStart => exact ⟨(0), (by first | rfl | (simp; done) | (simp [*]; done)), H', ⟨Nat.le_refl _⟩, ⟨by repeat (first | (with_reducible first | exact HB.out | apply bA | apply bN | apply bD) | exact HB.out)⟩⟩
  case round =>
   clear H'
   try clear c1
   try clear c2
   try clear c2b0
   try clear c2b1
   try clear p2
   obtain ⟨x12_1, rfl, HA, HK1, HB⟩ := hrel
   cases gk with
   | zero => exact absurd HA.out (by simp [impl_AreJudges.l0])
   | succ k1 =>
    have H := HA.out
    clear HA
    simp only [impl_AreJudges.l0] at H
    by_cases c3 : x12_1 < (l0.length : Int)
    rotate_left
    ·
     rw [if_neg c3] at H
     have c3b0 : decide (x12_1 < (l0.length : Int)) = false := decide_eq_false c3
     clear c3
     obtain rfl := Option.some.inj H
     go_wp2
     repeat (go_quiet (fail); try go_wp2)
     go_ret
     exact ⟨by first | rfl | (simp [*, errW_none, errW_some] <;> rfl), by repeat (first | (with_reducible first | exact HB.out | apply bA | apply bN | apply bD) | exact HB.out)⟩

    rw [if_pos c3] at H
    have c3b0 : decide (x12_1 < (l0.length : Int)) = true := decide_eq_true c3
    clear c3
    by_cases c4 : 0 ≤ x12_1
    rotate_left
    ·
     rw [if_neg c4] at H
     exact absurd H (by simp)
    rw [if_pos c4] at H
    have c4b0 : decide (0 ≤ x12_1) = true := decide_eq_true c4
    clear c4
    by_cases c5 : x12_1 < (l0.length : Int)
    rotate_left
    ·
     rw [if_neg c5] at H
     exact absurd H (by simp)
    rw [if_pos c5] at H
    have c5b0 : decide (x12_1 < (l0.length : Int)) = true := decide_eq_true c5
    clear c5
    have HC6 := Aside0.mk H
    clear H
    have p101 : 0 ≤ (x12_1 : Int) := od (by assumption)
    have q101 : x12_1 < (l0.length : Int) := od (by assumption)
    obtain ⟨ad101, A101_2, c101_2, e101, hx101_0, hx101_1, hx101_2, hl101_2, hi101_2⟩ := at_T46 HR0.out x12_1 p101 q101
    cases e101
    replace hx101_0 := (HB.out.cell (bl w _ hx101_0)).trans hx101_0
    replace hx101_1 := (HB.out.cell (bl w _ hx101_1)).trans hx101_1
    replace hx101_2 := (HB.out.cell (bl w _ hx101_2)).trans hx101_2
    have HR101_2 := Aside0.mk hi101_2
    have HC101_2 := Aside0.mk hl101_2
    clear hi101_2 hl101_2
    replace p101 := eq_true p101
    replace q101 := eq_true q101
    go_upto_region 6 with (first | ((with_reducible refine gate_dst (N := 4) rfl ?_); refine box_event ?hg (N := 4) ?hd (cs := #[.int .i64 0, .int .i64 0, .slice none 0 0]) (t := 46) ?hr ?_; (case hd => rfl); (case hg => rfl); (case hr => first | (go_simp; done) | (go_simp; rfl)); intro gb102 hg w7 hbox hb; have n0_ := Aside0.mk (below_step (by repeat (first | (with_reducible first | exact HB.out | apply bA | apply bN | apply bD) | exact HB.out)) hb); have n1_ := Aside0.mk (hbox); have n2_ := Aside0.mk ((by rw [hg]; exact (below_size (by repeat (first | (with_reducible first | exact HB.out | apply bA | apply bN | apply bD) | exact HB.out))) : w.heap.size ≤ gb102)); have n3_ := Aside0.mk ((by rw [hg]; exact (below_size (by repeat (first | (with_reducible first | exact HB.out | apply bA | apply bN | apply bD) | exact HB.out))) : w.heap.size ≤ gb102)); clear HB; have HB := n0_; have BK102 := n1_; have GW102 := n2_; have GE102 := n3_; clear n0_ n1_ n2_ n3_; clear hb hbox hg; have hcz8_0 : w7.cell? ⟨gb102, 0, none⟩ = some (.int .i64 0) := (blk_cell BK102.out 0).trans rfl; have hcz8_1 : w7.cell? ⟨gb102, 1, none⟩ = some (.int .i64 0) := (blk_cell BK102.out 1).trans rfl; have hcz8_2 : w7.cell? ⟨gb102, 2, none⟩ = some (.slice none 0 0) := (blk_cell BK102.out 2).trans rfl; have hfz8_0 := blk_frozen BK102.out 0; have hfz8_1 := blk_frozen BK102.out 1; have hfz8_2 := blk_frozen BK102.out 2))
    repeat (go_quiet (first | ((with_reducible refine gate_dst (N := 4) rfl ?_); refine box_event ?hg (N := 4) ?hd (cs := #[.int .i64 0, .int .i64 0, .slice none 0 0]) (t := 46) ?hr ?_; (case hd => rfl); (case hg => rfl); (case hr => first | (go_simp; done) | (go_simp; rfl)); intro gb102 hg w7 hbox hb; have n0_ := Aside0.mk (below_step (by repeat (first | (with_reducible first | exact HB.out | apply bA | apply bN | apply bD) | exact HB.out)) hb); have n1_ := Aside0.mk (hbox); have n2_ := Aside0.mk ((by rw [hg]; exact (below_size (by repeat (first | (with_reducible first | exact HB.out | apply bA | apply bN | apply bD) | exact HB.out))) : w.heap.size ≤ gb102)); have n3_ := Aside0.mk ((by rw [hg]; exact (below_size (by repeat (first | (with_reducible first | exact HB.out | apply bA | apply bN | apply bD) | exact HB.out))) : w.heap.size ≤ gb102)); clear HB; have HB := n0_; have BK102 := n1_; have GW102 := n2_; have GE102 := n3_; clear n0_ n1_ n2_ n3_; clear hb hbox hg; have hcz8_0 : w7.cell? ⟨gb102, 0, none⟩ = some (.int .i64 0) := (blk_cell BK102.out 0).trans rfl; have hcz8_1 : w7.cell? ⟨gb102, 1, none⟩ = some (.int .i64 0) := (blk_cell BK102.out 1).trans rfl; have hcz8_2 : w7.cell? ⟨gb102, 2, none⟩ = some (.slice none 0 0) := (blk_cell BK102.out 2).trans rfl; have hfz8_0 := blk_frozen BK102.out 0; have hfz8_1 := blk_frozen BK102.out 1; have hfz8_2 := blk_frozen BK102.out 2)); go_upto_region 6 with (first | ((with_reducible refine gate_dst (N := 4) rfl ?_); refine box_event ?hg (N := 4) ?hd (cs := #[.int .i64 0, .int .i64 0, .slice none 0 0]) (t := 46) ?hr ?_; (case hd => rfl); (case hg => rfl); (case hr => first | (go_simp; done) | (go_simp; rfl)); intro gb102 hg w7 hbox hb; have n0_ := Aside0.mk (below_step (by repeat (first | (with_reducible first | exact HB.out | apply bA | apply bN | apply bD) | exact HB.out)) hb); have n1_ := Aside0.mk (hbox); have n2_ := Aside0.mk ((by rw [hg]; exact (below_size (by repeat (first | (with_reducible first | exact HB.out | apply bA | apply bN | apply bD) | exact HB.out))) : w.heap.size ≤ gb102)); have n3_ := Aside0.mk ((by rw [hg]; exact (below_size (by repeat (first | (with_reducible first | exact HB.out | apply bA | apply bN | apply bD) | exact HB.out))) : w.heap.size ≤ gb102)); clear HB; have HB := n0_; have BK102 := n1_; have GW102 := n2_; have GE102 := n3_; clear n0_ n1_ n2_ n3_; clear hb hbox hg; have hcz8_0 : w7.cell? ⟨gb102, 0, none⟩ = some (.int .i64 0) := (blk_cell BK102.out 0).trans rfl; have hcz8_1 : w7.cell? ⟨gb102, 1, none⟩ = some (.int .i64 0) := (blk_cell BK102.out 1).trans rfl; have hcz8_2 : w7.cell? ⟨gb102, 2, none⟩ = some (.slice none 0 0) := (blk_cell BK102.out 2).trans rfl; have hfz8_0 := blk_frozen BK102.out 0; have hfz8_1 := blk_frozen BK102.out 1; have hfz8_2 := blk_frozen BK102.out 2)))
    (try simp only [Act.put, Z1, Z2, Z3])
    go_cut [41] (fun v41 wc => ∃ (kq : Nat) (x41_5 : Bool), v41 = .bool x41_5 ∧ Aside0 (impl_AreJudges.j1 kq l0 l0 (l0.length : Int) x12_1 x41_5 ((rd_T46 l0 x12_1).f0) ((rd_T46 l0 x12_1).f1) ((rd_T46 l0 x12_1).f2) = some r) ∧ Aside0 (kq ≤ k1) ∧ Aside0 (wc.heap[gb102]? = some (.cells #[.int .i64 ((rd_T46 l0 x12_1).f0), .int .i64 ((rd_T46 l0 x12_1).f1), (.slice A101_2 ((rd_T46 l0 x12_1).f2).length c101_2)] 46 (0, 0))) ∧ Aside0 (Below w.heap.size w wc))
    case first =>
     have H := HC6.out
     clear HC6
     replace H := Option.bind_eq_some_iff.mp H
     obtain ⟨t103, A90, H⟩ := H
     replace H : (if t103 = true then (if x12_1 > 0 then (if 0 ≤ (wrap64 (x12_1 - 1)) then (if (wrap64 (x12_1 - 1)) < (l0.length : Int) then (if ((rd_T46 l0 x12_1).f0) ≤ ((rd_T46 l0 (wrap64 (x12_1 - 1))).f0) then (impl_AreJudges.j1 k1 l0 l0 (l0.length : Int) x12_1 true ((rd_T46 l0 x12_1).f0) ((rd_T46 l0 x12_1).f1) ((rd_T46 l0 x12_1).f2)) else ((impl_InRange.f ((rd_T46 l0 x12_1).f1) 1 99).bind fun t105 => (impl_AreJudges.j1 k1 l0 l0 (l0.length : Int) x12_1 (!t105) ((rd_T46 l0 x12_1).f0) ((rd_T46 l0 x12_1).f1) ((rd_T46 l0 x12_1).f2)))) else (none)) else (none)) else ((impl_InRange.f ((rd_T46 l0 x12_1).f1) 1 99).bind fun t106 => (impl_AreJudges.j1 k1 l0 l0 (l0.length : Int) x12_1 (!t106) ((rd_T46 l0 x12_1).f0) ((rd_T46 l0 x12_1).f1) ((rd_T46 l0 x12_1).f2)))) else (impl_AreJudges.j1 k1 l0 l0 (l0.length : Int) x12_1 true ((rd_T46 l0 x12_1).f0) ((rd_T46 l0 x12_1).f1) ((rd_T46 l0 x12_1).f2))) = some r := H
     have A9 := Aside0.mk A90
     clear A90
     by_cases c10 : t103 = true
     rotate_left
     ·
      replace c10 := Bool.eq_false_iff.mpr c10
      subst c10
      have H1 : (impl_AreJudges.j1 k1 l0 l0 (l0.length : Int) x12_1 true ((rd_T46 l0 x12_1).f0) ((rd_T46 l0 x12_1).f1) ((rd_T46 l0 x12_1).f2)) = some r := by rw [if_neg (show ¬ (false = true) by decide)] at H; exact H
      clear H
      have H := H1
      clear H1
      have H' := Aside0.mk H
      clear H
      have hcz21_0 : w7.cell? ⟨gb102, 0, none⟩ = some (.int .i64 0) := (blk_cell BK102.out 0).trans rfl
      have hcz21_1 : w7.cell? ⟨gb102, 1, none⟩ = some (.int .i64 0) := (blk_cell BK102.out 1).trans rfl
      have hcz21_2 : w7.cell? ⟨gb102, 2, none⟩ = some (.slice none 0 0) := (blk_cell BK102.out 2).trans rfl
      have hfz21_0 := blk_frozen BK102.out 0
      have hfz21_1 := blk_frozen BK102.out 1
      have hfz21_2 := blk_frozen BK102.out 2
      go_wp2_with (first | (go_at_call 57; (with_reducible refine (impl_InRange.calls ((rd_T46 l0 x12_1).f0) 1 99 false _ A9.out).mono ?_); rintro e w' ⟨rfl, ⟨nd, rfl⟩⟩; (try first | exact ⟨rfl, _, dN⟩ | exact ⟨rfl, _, dE⟩)))
      repeat (go_quiet (first | (go_at_call 57; (with_reducible refine (impl_InRange.calls ((rd_T46 l0 x12_1).f0) 1 99 false _ A9.out).mono ?_); rintro e w' ⟨rfl, ⟨nd, rfl⟩⟩; (try first | exact ⟨rfl, _, dN⟩ | exact ⟨rfl, _, dE⟩))); try go_wp2)
      go_meet
      case rel => exact ⟨_, (true), (by first | rfl | (simp; done) | (simp [*]; done)), H', ⟨by have := HK1.out; first | omega | exact Nat.le_refl _⟩, ⟨by (with_reducible repeat (first | refine kN ?_ _ | refine kD ?_ | refine kA ?_ _)); refine blk_put (cs := #[.int .i64 ((rd_T46 l0 x12_1).f0), .int .i64 ((rd_T46 l0 x12_1).f1), .slice none 0 0]) ?_ 2 _ rfl; (with_reducible repeat (first | refine kN ?_ _ | refine kD ?_ | refine kA ?_ _)); refine blk_put (cs := #[.int .i64 ((rd_T46 l0 x12_1).f0), .int .i64 0, .slice none 0 0]) ?_ 1 _ rfl; (with_reducible repeat (first | refine kN ?_ _ | refine kD ?_ | refine kA ?_ _)); refine blk_put (cs := #[.int .i64 0, .int .i64 0, .slice none 0 0]) ?_ 0 _ rfl; (with_reducible repeat (first | refine kN ?_ _ | refine kD ?_ | refine kA ?_ _)); exact BK102.out⟩, ⟨by repeat (first | (with_reducible first | exact HB.out | apply bA | apply bN | apply bD | refine below_set ?_ GE102.out) | exact HB.out)⟩⟩
     subst c10
     have H1 : (if x12_1 > 0 then (if 0 ≤ (wrap64 (x12_1 - 1)) then (if (wrap64 (x12_1 - 1)) < (l0.length : Int) then (if ((rd_T46 l0 x12_1).f0) ≤ ((rd_T46 l0 (wrap64 (x12_1 - 1))).f0) then (impl_AreJudges.j1 k1 l0 l0 (l0.length : Int) x12_1 true ((rd_T46 l0 x12_1).f0) ((rd_T46 l0 x12_1).f1) ((rd_T46 l0 x12_1).f2)) else ((impl_InRange.f ((rd_T46 l0 x12_1).f1) 1 99).bind fun t105 => (impl_AreJudges.j1 k1 l0 l0 (l0.length : Int) x12_1 (!t105) ((rd_T46 l0 x12_1).f0) ((rd_T46 l0 x12_1).f1) ((rd_T46 l0 x12_1).f2)))) else (none)) else (none)) else ((impl_InRange.f ((rd_T46 l0 x12_1).f1) 1 99).bind fun t106 => (impl_AreJudges.j1 k1 l0 l0 (l0.length : Int) x12_1 (!t106) ((rd_T46 l0 x12_1).f0) ((rd_T46 l0 x12_1).f1) ((rd_T46 l0 x12_1).f2)))) = some r := by rw [if_pos rfl] at H; exact H
     clear H
     have H := H1
     clear H1
     by_cases c11 : x12_1 > 0
     rotate_left
     ·
      rw [if_neg c11] at H
      have c11b0 : decide (0 < x12_1) = false := decide_eq_false c11
      clear c11
      (first | rw [c11b0] | (simp only [i64_w, i32_w]; rw [c11b0]) | skip)
      replace H := Option.bind_eq_some_iff.mp H
      obtain ⟨t106, A190, H⟩ := H
      replace H : (impl_AreJudges.j1 k1 l0 l0 (l0.length : Int) x12_1 (!t106) ((rd_T46 l0 x12_1).f0) ((rd_T46 l0 x12_1).f1) ((rd_T46 l0 x12_1).f2)) = some r := H
      have A19 := Aside0.mk A190
      clear A190
      have H' := Aside0.mk H
      clear H
      have hcz20_0 : w7.cell? ⟨gb102, 0, none⟩ = some (.int .i64 0) := (blk_cell BK102.out 0).trans rfl
      have hcz20_1 : w7.cell? ⟨gb102, 1, none⟩ = some (.int .i64 0) := (blk_cell BK102.out 1).trans rfl
      have hcz20_2 : w7.cell? ⟨gb102, 2, none⟩ = some (.slice none 0 0) := (blk_cell BK102.out 2).trans rfl
      have hfz20_0 := blk_frozen BK102.out 0
      have hfz20_1 := blk_frozen BK102.out 1
      have hfz20_2 := blk_frozen BK102.out 2
      go_wp2_with (first | (go_at_call 57; (with_reducible refine (impl_InRange.calls ((rd_T46 l0 x12_1).f0) 1 99 true _ A9.out).mono ?_); rintro e w' ⟨rfl, ⟨nd, rfl⟩⟩; (try first | exact ⟨rfl, _, dN⟩ | exact ⟨rfl, _, dE⟩)) | (go_at_call 57; (with_reducible refine (impl_InRange.calls ((rd_T46 l0 x12_1).f1) 1 99 t106 _ A19.out).mono ?_); rintro e w' ⟨rfl, ⟨nd, rfl⟩⟩; (try first | exact ⟨rfl, _, dN⟩ | exact ⟨rfl, _, dE⟩)))
      repeat (go_quiet (first | (go_at_call 57; (with_reducible refine (impl_InRange.calls ((rd_T46 l0 x12_1).f0) 1 99 true _ A9.out).mono ?_); rintro e w' ⟨rfl, ⟨nd, rfl⟩⟩; (try first | exact ⟨rfl, _, dN⟩ | exact ⟨rfl, _, dE⟩)) | (go_at_call 57; (with_reducible refine (impl_InRange.calls ((rd_T46 l0 x12_1).f1) 1 99 t106 _ A19.out).mono ?_); rintro e w' ⟨rfl, ⟨nd, rfl⟩⟩; (try first | exact ⟨rfl, _, dN⟩ | exact ⟨rfl, _, dE⟩))); try go_wp2)
      go_meet
      case rel => exact ⟨_, (!t106), (by first | rfl | (simp; done) | (simp [*]; done)), H', ⟨by have := HK1.out; first | omega | exact Nat.le_refl _⟩, ⟨by (with_reducible repeat (first | refine kN ?_ _ | refine kD ?_ | refine kA ?_ _)); refine blk_put (cs := #[.int .i64 ((rd_T46 l0 x12_1).f0), .int .i64 ((rd_T46 l0 x12_1).f1), .slice none 0 0]) ?_ 2 _ rfl; (with_reducible repeat (first | refine kN ?_ _ | refine kD ?_ | refine kA ?_ _)); refine blk_put (cs := #[.int .i64 ((rd_T46 l0 x12_1).f0), .int .i64 0, .slice none 0 0]) ?_ 1 _ rfl; (with_reducible repeat (first | refine kN ?_ _ | refine kD ?_ | refine kA ?_ _)); refine blk_put (cs := #[.int .i64 0, .int .i64 0, .slice none 0 0]) ?_ 0 _ rfl; (with_reducible repeat (first | refine kN ?_ _ | refine kD ?_ | refine kA ?_ _)); exact BK102.out⟩, ⟨by repeat (first | (with_reducible first | exact HB.out | apply bA | apply bN | apply bD | refine below_set ?_ GE102.out) | exact HB.out)⟩⟩
     rw [if_pos c11] at H
     have c11b0 : decide (0 < x12_1) = true := decide_eq_true c11
     clear c11
     (first | rw [c11b0] | (simp only [i64_w, i32_w]; rw [c11b0]) | skip)
     obtain ⟨ji12, hji12⟩ : ∃ j_ : Int, (wrap64 (x12_1 - 1)) = j_ := ⟨_, rfl⟩
     replace H : (if 0 ≤ (ji12) then (if (ji12) < (l0.length : Int) then (if ((rd_T46 l0 x12_1).f0) ≤ ((rd_T46 l0 (ji12)).f0) then (impl_AreJudges.j1 k1 l0 l0 (l0.length : Int) x12_1 true ((rd_T46 l0 x12_1).f0) ((rd_T46 l0 x12_1).f1) ((rd_T46 l0 x12_1).f2)) else ((impl_InRange.f ((rd_T46 l0 x12_1).f1) 1 99).bind fun t105 => (impl_AreJudges.j1 k1 l0 l0 (l0.length : Int) x12_1 (!t105) ((rd_T46 l0 x12_1).f0) ((rd_T46 l0 x12_1).f1) ((rd_T46 l0 x12_1).f2)))) else (none)) else (none)) = some r := by first | (rw [hji12] at H; exact H) | (simp only [hji12] at H ⊢; exact H)
     (try rw [hji12] at A9)
     have hji12w : (IntKind.i64.wrap (x12_1 - 1)) = ji12 := (i64_w _).trans hji12
     by_cases c13 : 0 ≤ (ji12)
     rotate_left
     ·
      rw [if_neg c13] at H
      exact absurd H (by simp)
     rw [if_pos c13] at H
     have c13b0 : decide (0 ≤ (ji12)) = true := decide_eq_true c13
     clear c13
     by_cases c14 : (ji12) < (l0.length : Int)
     rotate_left
     ·
      rw [if_neg c14] at H
      exact absurd H (by simp)
     rw [if_pos c14] at H
     have c14b0 : decide ((ji12) < (l0.length : Int)) = true := decide_eq_true c14
     clear c14
     by_cases c15 : ((rd_T46 l0 x12_1).f0) ≤ ((rd_T46 l0 (ji12)).f0)
     rotate_left
     ·
      rw [if_neg c15] at H
      have c15b0 : decide (((rd_T46 l0 x12_1).f0) ≤ ((rd_T46 l0 (ji12)).f0)) = false := decide_eq_false c15
      clear c15
      replace H := Option.bind_eq_some_iff.mp H
      obtain ⟨t105, A170, H⟩ := H
      replace H : (impl_AreJudges.j1 k1 l0 l0 (l0.length : Int) x12_1 (!t105) ((rd_T46 l0 x12_1).f0) ((rd_T46 l0 x12_1).f1) ((rd_T46 l0 x12_1).f2)) = some r := H
      have A17 := Aside0.mk A170
      clear A170
      have H' := Aside0.mk H
      clear H
      have hcz18_0 : w7.cell? ⟨gb102, 0, none⟩ = some (.int .i64 0) := (blk_cell BK102.out 0).trans rfl
      have hcz18_1 : w7.cell? ⟨gb102, 1, none⟩ = some (.int .i64 0) := (blk_cell BK102.out 1).trans rfl
      have hcz18_2 : w7.cell? ⟨gb102, 2, none⟩ = some (.slice none 0 0) := (blk_cell BK102.out 2).trans rfl
      have hfz18_0 := blk_frozen BK102.out 0
      have hfz18_1 := blk_frozen BK102.out 1
      have hfz18_2 := blk_frozen BK102.out 2
      go_wp2_with (first | (go_at_call 57; (with_reducible refine (impl_InRange.calls ((rd_T46 l0 x12_1).f0) 1 99 true _ A9.out).mono ?_); rintro e w' ⟨rfl, ⟨nd, rfl⟩⟩; (try first | exact ⟨rfl, _, dN⟩ | exact ⟨rfl, _, dE⟩); have p104 : 0 ≤ ((ji12) : Int) := od (by assumption); have q104 : (ji12) < (l0.length : Int) := od (by assumption); obtain ⟨ad104, A104_2, c104_2, e104, hx104_0, hx104_1, hx104_2, hl104_2, hi104_2⟩ := at_T46 HR0.out (ji12) p104 q104; obtain rfl : ad101 = ad104 := (by injection e104); have hn104_0 : ad101.block ≠ gb102 := Nat.ne_of_lt (Nat.lt_of_lt_of_le (by have := bl _ _ hx104_0; first | rwa [add_block] at this | exact this) GW102.out); have hn104_1 : ad101.block ≠ gb102 := Nat.ne_of_lt (Nat.lt_of_lt_of_le (by have := bl _ _ hx104_0; first | rwa [add_block] at this | exact this) GW102.out); have hn104_2 : ad101.block ≠ gb102 := Nat.ne_of_lt (Nat.lt_of_lt_of_le (by have := bl _ _ hx104_0; first | rwa [add_block] at this | exact this) GW102.out); replace hx104_0 := (HB.out.cell (bl w _ hx104_0)).trans hx104_0; replace hx104_1 := (HB.out.cell (bl w _ hx104_1)).trans hx104_1; replace hx104_2 := (HB.out.cell (bl w _ hx104_2)).trans hx104_2; have HR104_2 := Aside0.mk hi104_2; have HC104_2 := Aside0.mk hl104_2; clear hi104_2 hl104_2; replace hx104_0 := (cell_far (p := ⟨gb102, 0, none⟩) (by first | (rw [add_block]; exact hn104_0) | (show (Addr.add _ _).block ≠ _; rw [add_block]; exact hn104_0) | exact hn104_0) (.int .i64 ((rd_T46 l0 x12_1).f0))).trans hx104_0; replace hx104_1 := (cell_far (p := ⟨gb102, 0, none⟩) (by first | (rw [add_block]; exact hn104_0) | (show (Addr.add _ _).block ≠ _; rw [add_block]; exact hn104_0) | exact hn104_0) (.int .i64 ((rd_T46 l0 x12_1).f0))).trans hx104_1; replace hx104_2 := (cell_far (p := ⟨gb102, 0, none⟩) (by first | (rw [add_block]; exact hn104_0) | (show (Addr.add _ _).block ≠ _; rw [add_block]; exact hn104_0) | exact hn104_0) (.int .i64 ((rd_T46 l0 x12_1).f0))).trans hx104_2; replace hx104_0 := (cell_far (p := ⟨gb102, 1, none⟩) (by first | (rw [add_block]; exact hn104_1) | (show (Addr.add _ _).block ≠ _; rw [add_block]; exact hn104_1) | exact hn104_1) (.int .i64 ((rd_T46 l0 x12_1).f1))).trans hx104_0; replace hx104_1 := (cell_far (p := ⟨gb102, 1, none⟩) (by first | (rw [add_block]; exact hn104_1) | (show (Addr.add _ _).block ≠ _; rw [add_block]; exact hn104_1) | exact hn104_1) (.int .i64 ((rd_T46 l0 x12_1).f1))).trans hx104_1; replace hx104_2 := (cell_far (p := ⟨gb102, 1, none⟩) (by first | (rw [add_block]; exact hn104_1) | (show (Addr.add _ _).block ≠ _; rw [add_block]; exact hn104_1) | exact hn104_1) (.int .i64 ((rd_T46 l0 x12_1).f1))).trans hx104_2; replace hx104_0 := (cell_far (p := ⟨gb102, 2, none⟩) (by first | (rw [add_block]; exact hn104_2) | (show (Addr.add _ _).block ≠ _; rw [add_block]; exact hn104_2) | exact hn104_2) (.slice A101_2 ((rd_T46 l0 x12_1).f2).length c101_2)).trans hx104_0; replace hx104_1 := (cell_far (p := ⟨gb102, 2, none⟩) (by first | (rw [add_block]; exact hn104_2) | (show (Addr.add _ _).block ≠ _; rw [add_block]; exact hn104_2) | exact hn104_2) (.slice A101_2 ((rd_T46 l0 x12_1).f2).length c101_2)).trans hx104_1; replace hx104_2 := (cell_far (p := ⟨gb102, 2, none⟩) (by first | (rw [add_block]; exact hn104_2) | (show (Addr.add _ _).block ≠ _; rw [add_block]; exact hn104_2) | exact hn104_2) (.slice A101_2 ((rd_T46 l0 x12_1).f2).length c101_2)).trans hx104_2; (try have hy104_0 := fun (n_ : Nat) => (show (((((w7.drewN n_).setCell ⟨gb102, 0, none⟩ (.int .i64 ((rd_T46 l0 x12_1).f0))).setCell ⟨gb102, 1, none⟩ (.int .i64 ((rd_T46 l0 x12_1).f1))).setCell ⟨gb102, 2, none⟩ (.slice A101_2 ((rd_T46 l0 x12_1).f2).length c101_2))).cell? _ = some _ from hx104_0)); (try have hy104_1 := fun (n_ : Nat) => (show (((((w7.drewN n_).setCell ⟨gb102, 0, none⟩ (.int .i64 ((rd_T46 l0 x12_1).f0))).setCell ⟨gb102, 1, none⟩ (.int .i64 ((rd_T46 l0 x12_1).f1))).setCell ⟨gb102, 2, none⟩ (.slice A101_2 ((rd_T46 l0 x12_1).f2).length c101_2))).cell? _ = some _ from hx104_1)); (try have hy104_2 := fun (n_ : Nat) => (show (((((w7.drewN n_).setCell ⟨gb102, 0, none⟩ (.int .i64 ((rd_T46 l0 x12_1).f0))).setCell ⟨gb102, 1, none⟩ (.int .i64 ((rd_T46 l0 x12_1).f1))).setCell ⟨gb102, 2, none⟩ (.slice A101_2 ((rd_T46 l0 x12_1).f2).length c101_2))).cell? _ = some _ from hx104_2)); clear hn104_0; clear hn104_1; clear hn104_2; replace p104 := eq_true p104; replace q104 := eq_true q104) | (go_at_call 57; (with_reducible refine (impl_InRange.calls ((rd_T46 l0 x12_1).f1) 1 99 t105 _ A17.out).mono ?_); rintro e w' ⟨rfl, ⟨nd, rfl⟩⟩; (try first | exact ⟨rfl, _, dN⟩ | exact ⟨rfl, _, dE⟩)))
      repeat (go_quiet (first | (go_at_call 57; (with_reducible refine (impl_InRange.calls ((rd_T46 l0 x12_1).f0) 1 99 true _ A9.out).mono ?_); rintro e w' ⟨rfl, ⟨nd, rfl⟩⟩; (try first | exact ⟨rfl, _, dN⟩ | exact ⟨rfl, _, dE⟩); have p104 : 0 ≤ ((ji12) : Int) := od (by assumption); have q104 : (ji12) < (l0.length : Int) := od (by assumption); obtain ⟨ad104, A104_2, c104_2, e104, hx104_0, hx104_1, hx104_2, hl104_2, hi104_2⟩ := at_T46 HR0.out (ji12) p104 q104; obtain rfl : ad101 = ad104 := (by injection e104); have hn104_0 : ad101.block ≠ gb102 := Nat.ne_of_lt (Nat.lt_of_lt_of_le (by have := bl _ _ hx104_0; first | rwa [add_block] at this | exact this) GW102.out); have hn104_1 : ad101.block ≠ gb102 := Nat.ne_of_lt (Nat.lt_of_lt_of_le (by have := bl _ _ hx104_0; first | rwa [add_block] at this | exact this) GW102.out); have hn104_2 : ad101.block ≠ gb102 := Nat.ne_of_lt (Nat.lt_of_lt_of_le (by have := bl _ _ hx104_0; first | rwa [add_block] at this | exact this) GW102.out); replace hx104_0 := (HB.out.cell (bl w _ hx104_0)).trans hx104_0; replace hx104_1 := (HB.out.cell (bl w _ hx104_1)).trans hx104_1; replace hx104_2 := (HB.out.cell (bl w _ hx104_2)).trans hx104_2; have HR104_2 := Aside0.mk hi104_2; have HC104_2 := Aside0.mk hl104_2; clear hi104_2 hl104_2; replace hx104_0 := (cell_far (p := ⟨gb102, 0, none⟩) (by first | (rw [add_block]; exact hn104_0) | (show (Addr.add _ _).block ≠ _; rw [add_block]; exact hn104_0) | exact hn104_0) (.int .i64 ((rd_T46 l0 x12_1).f0))).trans hx104_0; replace hx104_1 := (cell_far (p := ⟨gb102, 0, none⟩) (by first | (rw [add_block]; exact hn104_0) | (show (Addr.add _ _).block ≠ _; rw [add_block]; exact hn104_0) | exact hn104_0) (.int .i64 ((rd_T46 l0 x12_1).f0))).trans hx104_1; replace hx104_2 := (cell_far (p := ⟨gb102, 0, none⟩) (by first | (rw [add_block]; exact hn104_0) | (show (Addr.add _ _).block ≠ _; rw [add_block]; exact hn104_0) | exact hn104_0) (.int .i64 ((rd_T46 l0 x12_1).f0))).trans hx104_2; replace hx104_0 := (cell_far (p := ⟨gb102, 1, none⟩) (by first | (rw [add_block]; exact hn104_1) | (show (Addr.add _ _).block ≠ _; rw [add_block]; exact hn104_1) | exact hn104_1) (.int .i64 ((rd_T46 l0 x12_1).f1))).trans hx104_0; replace hx104_1 := (cell_far (p := ⟨gb102, 1, none⟩) (by first | (rw [add_block]; exact hn104_1) | (show (Addr.add _ _).block ≠ _; rw [add_block]; exact hn104_1) | exact hn104_1) (.int .i64 ((rd_T46 l0 x12_1).f1))).trans hx104_1; replace hx104_2 := (cell_far (p := ⟨gb102, 1, none⟩) (by first | (rw [add_block]; exact hn104_1) | (show (Addr.add _ _).block ≠ _; rw [add_block]; exact hn104_1) | exact hn104_1) (.int .i64 ((rd_T46 l0 x12_1).f1))).trans hx104_2; replace hx104_0 := (cell_far (p := ⟨gb102, 2, none⟩) (by first | (rw [add_block]; exact hn104_2) | (show (Addr.add _ _).block ≠ _; rw [add_block]; exact hn104_2) | exact hn104_2) (.slice A101_2 ((rd_T46 l0 x12_1).f2).length c101_2)).trans hx104_0; replace hx104_1 := (cell_far (p := ⟨gb102, 2, none⟩) (by first | (rw [add_block]; exact hn104_2) | (show (Addr.add _ _).block ≠ _; rw [add_block]; exact hn104_2) | exact hn104_2) (.slice A101_2 ((rd_T46 l0 x12_1).f2).length c101_2)).trans hx104_1; replace hx104_2 := (cell_far (p := ⟨gb102, 2, none⟩) (by first | (rw [add_block]; exact hn104_2) | (show (Addr.add _ _).block ≠ _; rw [add_block]; exact hn104_2) | exact hn104_2) (.slice A101_2 ((rd_T46 l0 x12_1).f2).length c101_2)).trans hx104_2; (try have hy104_0 := fun (n_ : Nat) => (show (((((w7.drewN n_).setCell ⟨gb102, 0, none⟩ (.int .i64 ((rd_T46 l0 x12_1).f0))).setCell ⟨gb102, 1, none⟩ (.int .i64 ((rd_T46 l0 x12_1).f1))).setCell ⟨gb102, 2, none⟩ (.slice A101_2 ((rd_T46 l0 x12_1).f2).length c101_2))).cell? _ = some _ from hx104_0)); (try have hy104_1 := fun (n_ : Nat) => (show (((((w7.drewN n_).setCell ⟨gb102, 0, none⟩ (.int .i64 ((rd_T46 l0 x12_1).f0))).setCell ⟨gb102, 1, none⟩ (.int .i64 ((rd_T46 l0 x12_1).f1))).setCell ⟨gb102, 2, none⟩ (.slice A101_2 ((rd_T46 l0 x12_1).f2).length c101_2))).cell? _ = some _ from hx104_1)); (try have hy104_2 := fun (n_ : Nat) => (show (((((w7.drewN n_).setCell ⟨gb102, 0, none⟩ (.int .i64 ((rd_T46 l0 x12_1).f0))).setCell ⟨gb102, 1, none⟩ (.int .i64 ((rd_T46 l0 x12_1).f1))).setCell ⟨gb102, 2, none⟩ (.slice A101_2 ((rd_T46 l0 x12_1).f2).length c101_2))).cell? _ = some _ from hx104_2)); clear hn104_0; clear hn104_1; clear hn104_2; replace p104 := eq_true p104; replace q104 := eq_true q104) | (go_at_call 57; (with_reducible refine (impl_InRange.calls ((rd_T46 l0 x12_1).f1) 1 99 t105 _ A17.out).mono ?_); rintro e w' ⟨rfl, ⟨nd, rfl⟩⟩; (try first | exact ⟨rfl, _, dN⟩ | exact ⟨rfl, _, dE⟩))); try go_wp2)
      go_meet
      case rel => exact ⟨_, (!t105), (by first | rfl | (simp; done) | (simp [*]; done)), H', ⟨by have := HK1.out; first | omega | exact Nat.le_refl _⟩, ⟨by (with_reducible repeat (first | refine kN ?_ _ | refine kD ?_ | refine kA ?_ _)); refine blk_put (cs := #[.int .i64 ((rd_T46 l0 x12_1).f0), .int .i64 ((rd_T46 l0 x12_1).f1), .slice none 0 0]) ?_ 2 _ rfl; (with_reducible repeat (first | refine kN ?_ _ | refine kD ?_ | refine kA ?_ _)); refine blk_put (cs := #[.int .i64 ((rd_T46 l0 x12_1).f0), .int .i64 0, .slice none 0 0]) ?_ 1 _ rfl; (with_reducible repeat (first | refine kN ?_ _ | refine kD ?_ | refine kA ?_ _)); refine blk_put (cs := #[.int .i64 0, .int .i64 0, .slice none 0 0]) ?_ 0 _ rfl; (with_reducible repeat (first | refine kN ?_ _ | refine kD ?_ | refine kA ?_ _)); exact BK102.out⟩, ⟨by repeat (first | (with_reducible first | exact HB.out | apply bA | apply bN | apply bD | refine below_set ?_ GE102.out) | exact HB.out)⟩⟩
     rw [if_pos c15] at H
     have c15b0 : decide (((rd_T46 l0 x12_1).f0) ≤ ((rd_T46 l0 (ji12)).f0)) = true := decide_eq_true c15
     clear c15
     have H' := Aside0.mk H
     clear H
     have hcz16_0 : w7.cell? ⟨gb102, 0, none⟩ = some (.int .i64 0) := (blk_cell BK102.out 0).trans rfl
     have hcz16_1 : w7.cell? ⟨gb102, 1, none⟩ = some (.int .i64 0) := (blk_cell BK102.out 1).trans rfl
     have hcz16_2 : w7.cell? ⟨gb102, 2, none⟩ = some (.slice none 0 0) := (blk_cell BK102.out 2).trans rfl
     have hfz16_0 := blk_frozen BK102.out 0
     have hfz16_1 := blk_frozen BK102.out 1
     have hfz16_2 := blk_frozen BK102.out 2
     go_wp2_with (first | (go_at_call 57; (with_reducible refine (impl_InRange.calls ((rd_T46 l0 x12_1).f0) 1 99 true _ A9.out).mono ?_); rintro e w' ⟨rfl, ⟨nd, rfl⟩⟩; (try first | exact ⟨rfl, _, dN⟩ | exact ⟨rfl, _, dE⟩); have p104 : 0 ≤ ((ji12) : Int) := od (by assumption); have q104 : (ji12) < (l0.length : Int) := od (by assumption); obtain ⟨ad104, A104_2, c104_2, e104, hx104_0, hx104_1, hx104_2, hl104_2, hi104_2⟩ := at_T46 HR0.out (ji12) p104 q104; obtain rfl : ad101 = ad104 := (by injection e104); have hn104_0 : ad101.block ≠ gb102 := Nat.ne_of_lt (Nat.lt_of_lt_of_le (by have := bl _ _ hx104_0; first | rwa [add_block] at this | exact this) GW102.out); have hn104_1 : ad101.block ≠ gb102 := Nat.ne_of_lt (Nat.lt_of_lt_of_le (by have := bl _ _ hx104_0; first | rwa [add_block] at this | exact this) GW102.out); have hn104_2 : ad101.block ≠ gb102 := Nat.ne_of_lt (Nat.lt_of_lt_of_le (by have := bl _ _ hx104_0; first | rwa [add_block] at this | exact this) GW102.out); replace hx104_0 := (HB.out.cell (bl w _ hx104_0)).trans hx104_0; replace hx104_1 := (HB.out.cell (bl w _ hx104_1)).trans hx104_1; replace hx104_2 := (HB.out.cell (bl w _ hx104_2)).trans hx104_2; have HR104_2 := Aside0.mk hi104_2; have HC104_2 := Aside0.mk hl104_2; clear hi104_2 hl104_2; replace hx104_0 := (cell_far (p := ⟨gb102, 0, none⟩) (by first | (rw [add_block]; exact hn104_0) | (show (Addr.add _ _).block ≠ _; rw [add_block]; exact hn104_0) | exact hn104_0) (.int .i64 ((rd_T46 l0 x12_1).f0))).trans hx104_0; replace hx104_1 := (cell_far (p := ⟨gb102, 0, none⟩) (by first | (rw [add_block]; exact hn104_0) | (show (Addr.add _ _).block ≠ _; rw [add_block]; exact hn104_0) | exact hn104_0) (.int .i64 ((rd_T46 l0 x12_1).f0))).trans hx104_1; replace hx104_2 := (cell_far (p := ⟨gb102, 0, none⟩) (by first | (rw [add_block]; exact hn104_0) | (show (Addr.add _ _).block ≠ _; rw [add_block]; exact hn104_0) | exact hn104_0) (.int .i64 ((rd_T46 l0 x12_1).f0))).trans hx104_2; replace hx104_0 := (cell_far (p := ⟨gb102, 1, none⟩) (by first | (rw [add_block]; exact hn104_1) | (show (Addr.add _ _).block ≠ _; rw [add_block]; exact hn104_1) | exact hn104_1) (.int .i64 ((rd_T46 l0 x12_1).f1))).trans hx104_0; replace hx104_1 := (cell_far (p := ⟨gb102, 1, none⟩) (by first | (rw [add_block]; exact hn104_1) | (show (Addr.add _ _).block ≠ _; rw [add_block]; exact hn104_1) | exact hn104_1) (.int .i64 ((rd_T46 l0 x12_1).f1))).trans hx104_1; replace hx104_2 := (cell_far (p := ⟨gb102, 1, none⟩) (by first | (rw [add_block]; exact hn104_1) | (show (Addr.add _ _).block ≠ _; rw [add_block]; exact hn104_1) | exact hn104_1) (.int .i64 ((rd_T46 l0 x12_1).f1))).trans hx104_2; replace hx104_0 := (cell_far (p := ⟨gb102, 2, none⟩) (by first | (rw [add_block]; exact hn104_2) | (show (Addr.add _ _).block ≠ _; rw [add_block]; exact hn104_2) | exact hn104_2) (.slice A101_2 ((rd_T46 l0 x12_1).f2).length c101_2)).trans hx104_0; replace hx104_1 := (cell_far (p := ⟨gb102, 2, none⟩) (by first | (rw [add_block]; exact hn104_2) | (show (Addr.add _ _).block ≠ _; rw [add_block]; exact hn104_2) | exact hn104_2) (.slice A101_2 ((rd_T46 l0 x12_1).f2).length c101_2)).trans hx104_1; replace hx104_2 := (cell_far (p := ⟨gb102, 2, none⟩) (by first | (rw [add_block]; exact hn104_2) | (show (Addr.add _ _).block ≠ _; rw [add_block]; exact hn104_2) | exact hn104_2) (.slice A101_2 ((rd_T46 l0 x12_1).f2).length c101_2)).trans hx104_2; (try have hy104_0 := fun (n_ : Nat) => (show (((((w7.drewN n_).setCell ⟨gb102, 0, none⟩ (.int .i64 ((rd_T46 l0 x12_1).f0))).setCell ⟨gb102, 1, none⟩ (.int .i64 ((rd_T46 l0 x12_1).f1))).setCell ⟨gb102, 2, none⟩ (.slice A101_2 ((rd_T46 l0 x12_1).f2).length c101_2))).cell? _ = some _ from hx104_0)); (try have hy104_1 := fun (n_ : Nat) => (show (((((w7.drewN n_).setCell ⟨gb102, 0, none⟩ (.int .i64 ((rd_T46 l0 x12_1).f0))).setCell ⟨gb102, 1, none⟩ (.int .i64 ((rd_T46 l0 x12_1).f1))).setCell ⟨gb102, 2, none⟩ (.slice A101_2 ((rd_T46 l0 x12_1).f2).length c101_2))).cell? _ = some _ from hx104_1)); (try have hy104_2 := fun (n_ : Nat) => (show (((((w7.drewN n_).setCell ⟨gb102, 0, none⟩ (.int .i64 ((rd_T46 l0 x12_1).f0))).setCell ⟨gb102, 1, none⟩ (.int .i64 ((rd_T46 l0 x12_1).f1))).setCell ⟨gb102, 2, none⟩ (.slice A101_2 ((rd_T46 l0 x12_1).f2).length c101_2))).cell? _ = some _ from hx104_2)); clear hn104_0; clear hn104_1; clear hn104_2; replace p104 := eq_true p104; replace q104 := eq_true q104))
     repeat (go_quiet (first | (go_at_call 57; (with_reducible refine (impl_InRange.calls ((rd_T46 l0 x12_1).f0) 1 99 true _ A9.out).mono ?_); rintro e w' ⟨rfl, ⟨nd, rfl⟩⟩; (try first | exact ⟨rfl, _, dN⟩ | exact ⟨rfl, _, dE⟩); have p104 : 0 ≤ ((ji12) : Int) := od (by assumption); have q104 : (ji12) < (l0.length : Int) := od (by assumption); obtain ⟨ad104, A104_2, c104_2, e104, hx104_0, hx104_1, hx104_2, hl104_2, hi104_2⟩ := at_T46 HR0.out (ji12) p104 q104; obtain rfl : ad101 = ad104 := (by injection e104); have hn104_0 : ad101.block ≠ gb102 := Nat.ne_of_lt (Nat.lt_of_lt_of_le (by have := bl _ _ hx104_0; first | rwa [add_block] at this | exact this) GW102.out); have hn104_1 : ad101.block ≠ gb102 := Nat.ne_of_lt (Nat.lt_of_lt_of_le (by have := bl _ _ hx104_0; first | rwa [add_block] at this | exact this) GW102.out); have hn104_2 : ad101.block ≠ gb102 := Nat.ne_of_lt (Nat.lt_of_lt_of_le (by have := bl _ _ hx104_0; first | rwa [add_block] at this | exact this) GW102.out); replace hx104_0 := (HB.out.cell (bl w _ hx104_0)).trans hx104_0; replace hx104_1 := (HB.out.cell (bl w _ hx104_1)).trans hx104_1; replace hx104_2 := (HB.out.cell (bl w _ hx104_2)).trans hx104_2; have HR104_2 := Aside0.mk hi104_2; have HC104_2 := Aside0.mk hl104_2; clear hi104_2 hl104_2; replace hx104_0 := (cell_far (p := ⟨gb102, 0, none⟩) (by first | (rw [add_block]; exact hn104_0) | (show (Addr.add _ _).block ≠ _; rw [add_block]; exact hn104_0) | exact hn104_0) (.int .i64 ((rd_T46 l0 x12_1).f0))).trans hx104_0; replace hx104_1 := (cell_far (p := ⟨gb102, 0, none⟩) (by first | (rw [add_block]; exact hn104_0) | (show (Addr.add _ _).block ≠ _; rw [add_block]; exact hn104_0) | exact hn104_0) (.int .i64 ((rd_T46 l0 x12_1).f0))).trans hx104_1; replace hx104_2 := (cell_far (p := ⟨gb102, 0, none⟩) (by first | (rw [add_block]; exact hn104_0) | (show (Addr.add _ _).block ≠ _; rw [add_block]; exact hn104_0) | exact hn104_0) (.int .i64 ((rd_T46 l0 x12_1).f0))).trans hx104_2; replace hx104_0 := (cell_far (p := ⟨gb102, 1, none⟩) (by first | (rw [add_block]; exact hn104_1) | (show (Addr.add _ _).block ≠ _; rw [add_block]; exact hn104_1) | exact hn104_1) (.int .i64 ((rd_T46 l0 x12_1).f1))).trans hx104_0; replace hx104_1 := (cell_far (p := ⟨gb102, 1, none⟩) (by first | (rw [add_block]; exact hn104_1) | (show (Addr.add _ _).block ≠ _; rw [add_block]; exact hn104_1) | exact hn104_1) (.int .i64 ((rd_T46 l0 x12_1).f1))).trans hx104_1; replace hx104_2 := (cell_far (p := ⟨gb102, 1, none⟩) (by first | (rw [add_block]; exact hn104_1) | (show (Addr.add _ _).block ≠ _; rw [add_block]; exact hn104_1) | exact hn104_1) (.int .i64 ((rd_T46 l0 x12_1).f1))).trans hx104_2; replace hx104_0 := (cell_far (p := ⟨gb102, 2, none⟩) (by first | (rw [add_block]; exact hn104_2) | (show (Addr.add _ _).block ≠ _; rw [add_block]; exact hn104_2) | exact hn104_2) (.slice A101_2 ((rd_T46 l0 x12_1).f2).length c101_2)).trans hx104_0; replace hx104_1 := (cell_far (p := ⟨gb102, 2, none⟩) (by first | (rw [add_block]; exact hn104_2) | (show (Addr.add _ _).block ≠ _; rw [add_block]; exact hn104_2) | exact hn104_2) (.slice A101_2 ((rd_T46 l0 x12_1).f2).length c101_2)).trans hx104_1; replace hx104_2 := (cell_far (p := ⟨gb102, 2, none⟩) (by first | (rw [add_block]; exact hn104_2) | (show (Addr.add _ _).block ≠ _; rw [add_block]; exact hn104_2) | exact hn104_2) (.slice A101_2 ((rd_T46 l0 x12_1).f2).length c101_2)).trans hx104_2; (try have hy104_0 := fun (n_ : Nat) => (show (((((w7.drewN n_).setCell ⟨gb102, 0, none⟩ (.int .i64 ((rd_T46 l0 x12_1).f0))).setCell ⟨gb102, 1, none⟩ (.int .i64 ((rd_T46 l0 x12_1).f1))).setCell ⟨gb102, 2, none⟩ (.slice A101_2 ((rd_T46 l0 x12_1).f2).length c101_2))).cell? _ = some _ from hx104_0)); (try have hy104_1 := fun (n_ : Nat) => (show (((((w7.drewN n_).setCell ⟨gb102, 0, none⟩ (.int .i64 ((rd_T46 l0 x12_1).f0))).setCell ⟨gb102, 1, none⟩ (.int .i64 ((rd_T46 l0 x12_1).f1))).setCell ⟨gb102, 2, none⟩ (.slice A101_2 ((rd_T46 l0 x12_1).f2).length c101_2))).cell? _ = some _ from hx104_1)); (try have hy104_2 := fun (n_ : Nat) => (show (((((w7.drewN n_).setCell ⟨gb102, 0, none⟩ (.int .i64 ((rd_T46 l0 x12_1).f0))).setCell ⟨gb102, 1, none⟩ (.int .i64 ((rd_T46 l0 x12_1).f1))).setCell ⟨gb102, 2, none⟩ (.slice A101_2 ((rd_T46 l0 x12_1).f2).length c101_2))).cell? _ = some _ from hx104_2)); clear hn104_0; clear hn104_1; clear hn104_2; replace p104 := eq_true p104; replace q104 := eq_true q104)); try go_wp2)
     go_meet
     case rel => exact ⟨_, (true), (by first | rfl | (simp; done) | (simp [*]; done)), H', ⟨by have := HK1.out; first | omega | exact Nat.le_refl _⟩, ⟨by (with_reducible repeat (first | refine kN ?_ _ | refine kD ?_ | refine kA ?_ _)); refine blk_put (cs := #[.int .i64 ((rd_T46 l0 x12_1).f0), .int .i64 ((rd_T46 l0 x12_1).f1), .slice none 0 0]) ?_ 2 _ rfl; (with_reducible repeat (first | refine kN ?_ _ | refine kD ?_ | refine kA ?_ _)); refine blk_put (cs := #[.int .i64 ((rd_T46 l0 x12_1).f0), .int .i64 0, .slice none 0 0]) ?_ 1 _ rfl; (with_reducible repeat (first | refine kN ?_ _ | refine kD ?_ | refine kA ?_ _)); refine blk_put (cs := #[.int .i64 0, .int .i64 0, .slice none 0 0]) ?_ 0 _ rfl; (with_reducible repeat (first | refine kN ?_ _ | refine kD ?_ | refine kA ?_ _)); exact BK102.out⟩, ⟨by repeat (first | (with_reducible first | exact HB.out | apply bA | apply bN | apply bD | refine below_set ?_ GE102.out) | exact HB.out)⟩⟩
    case rest =>
     clear HC6
     try clear c1
     try clear p1
     try clear q1
     try clear hx1
     try clear c2
     try clear c2b0
     try clear c2b1
     try clear p2
     try clear c3
     try clear c3b0
     try clear c4
     try clear c4b0
     try clear c5
     try clear c5b0
     try clear p6
     try clear c10
     try clear p10
     try clear q10
     try clear hx10
     try clear c11
     try clear c11b0
     try clear c13
     try clear c13b0
     try clear c14
     try clear c14b0
     try clear c15
     try clear c15b0
     try clear hcz16_0
     try clear hcz16_1
     try clear hcz16_2
     try clear hcz18_0
     try clear hcz18_1
     try clear hcz18_2
     try clear hcz20_0
     try clear hcz20_1
     try clear hcz20_2
     try clear hcz21_0
     try clear hcz21_1
     try clear hcz21_2
     try clear hcz8_0
     try clear hcz8_1
     try clear hcz8_2
     try clear hfz16_0
     try clear hfz16_1
     try clear hfz16_2
     try clear hfz18_0
     try clear hfz18_1
     try clear hfz18_2
     try clear hfz20_0
     try clear hfz20_1
     try clear hfz20_2
     try clear hfz21_0
     try clear hfz21_1
     try clear hfz21_2
     try clear hfz8_0
     try clear hfz8_1
     try clear hfz8_2
     try clear hx101_0
     try clear hx101_1
     try clear hx101_2
     try clear hx104_0
     try clear hx104_1
     try clear hx104_2
     try clear p101
     try clear p104
     try clear p2
     try clear q101
     try clear q104
     obtain ⟨kq, x41_5, rfl, HA, HJ5, BK102, HB⟩ := hcut
     cases kq with
     | zero => exact absurd HA.out (by simp [impl_AreJudges.j1])
     | succ kj5 =>
      have H := HA.out
      clear HA
      simp only [impl_AreJudges.j1] at H
      by_cases c22 : x41_5 = true
      rotate_left
      ·
       replace c22 := Bool.eq_false_iff.mpr c22
       subst c22
       have H1 : (impl_AreJudges.l1 kj5 l0 l0 (l0.length : Int) x12_1 ((rd_T46 l0 x12_1).f2) (((rd_T46 l0 x12_1).f2).length : Int) 0 ((rd_T46 l0 x12_1).f0) ((rd_T46 l0 x12_1).f1) ((rd_T46 l0 x12_1).f2)) = some r := by rw [if_neg (show ¬ (false = true) by decide)] at H; exact H
       clear H
       have H := H1
       clear H1
       have H' := Aside0.mk H
       clear H
       have hcz23_0 : wc.cell? ⟨gb102, 0, none⟩ = some (.int .i64 ((rd_T46 l0 x12_1).f0)) := (blk_cell BK102.out 0).trans rfl
       have hcz23_1 : wc.cell? ⟨gb102, 1, none⟩ = some (.int .i64 ((rd_T46 l0 x12_1).f1)) := (blk_cell BK102.out 1).trans rfl
       have hcz23_2 : wc.cell? ⟨gb102, 2, none⟩ = some (.slice A101_2 ((rd_T46 l0 x12_1).f2).length c101_2) := (blk_cell BK102.out 2).trans rfl
       have hfz23_0 := blk_frozen BK102.out 0
       have hfz23_1 := blk_frozen BK102.out 1
       have hfz23_2 := blk_frozen BK102.out 2
       go_wp2
       repeat (go_quiet (fail); try go_wp2)
       go_loopg [45] kj5 (fun kq v45 w' => ∃ (x45_3 : Int), v45 = .int .i64 x45_3 ∧ Aside0 (impl_AreJudges.l1 kq l0 l0 (l0.length : Int) x12_1 ((rd_T46 l0 x12_1).f2) (((rd_T46 l0 x12_1).f2).length : Int) x45_3 ((rd_T46 l0 x12_1).f0) ((rd_T46 l0 x12_1).f1) ((rd_T46 l0 x12_1).f2) = some r) ∧ Aside0 (kq ≤ kj5) ∧ Aside0 (w'.heap[gb102]? = some (.cells #[.int .i64 ((rd_T46 l0 x12_1).f0), .int .i64 ((rd_T46 l0 x12_1).f1), (.slice A101_2 ((rd_T46 l0 x12_1).f2).length c101_2)] 46 (0, 0))) ∧ Aside0 (Below w.heap.size w w'))
       case atStart => exact ⟨(0), (by first | rfl | (simp; done) | (simp [*]; done)), H', ⟨Nat.le_refl _⟩, ⟨by (with_reducible repeat (first | refine kN ?_ _ | refine kD ?_ | refine kA ?_ _)); exact BK102.out⟩, ⟨by repeat (first | (with_reducible first | exact HB.out | apply bA | apply bN | apply bD | refine below_set ?_ GE102.out) | exact HB.out)⟩⟩
       case round =>
        clear H'
        try clear c1
        try clear p1
        try clear q1
        try clear hx1
        try clear c2
        try clear c2b0
        try clear c2b1
        try clear p2
        try clear c3
        try clear c3b0
        try clear c4
        try clear c4b0
        try clear c5
        try clear c5b0
        try clear p6
        try clear c10
        try clear p10
        try clear q10
        try clear hx10
        try clear c11
        try clear c11b0
        try clear c13
        try clear c13b0
        try clear c14
        try clear c14b0
        try clear c15
        try clear c15b0
        try clear c22
        try clear hcz16_0
        try clear hcz16_1
        try clear hcz16_2
        try clear hcz18_0
        try clear hcz18_1
        try clear hcz18_2
        try clear hcz20_0
        try clear hcz20_1
        try clear hcz20_2
        try clear hcz21_0
        try clear hcz21_1
        try clear hcz21_2
        try clear hcz23_0
        try clear hcz23_1
        try clear hcz23_2
        try clear hcz8_0
        try clear hcz8_1
        try clear hcz8_2
        try clear hfz16_0
        try clear hfz16_1
        try clear hfz16_2
        try clear hfz18_0
        try clear hfz18_1
        try clear hfz18_2
        try clear hfz20_0
        try clear hfz20_1
        try clear hfz20_2
        try clear hfz21_0
        try clear hfz21_1
        try clear hfz21_2
        try clear hfz23_0
        try clear hfz23_1
        try clear hfz23_2
        try clear hfz8_0
        try clear hfz8_1
        try clear hfz8_2
        try clear hx101_0
        try clear hx101_1
        try clear hx101_2
        try clear hx104_0
        try clear hx104_1
        try clear hx104_2
        try clear p1
        try clear p10
        try clear p101
        try clear p104
        try clear p2
        try clear p6
        try clear q1
        try clear q10
        try clear q101
        try clear q104
        obtain ⟨x45_3, rfl, HA, HK3, BK102, HB⟩ := hrel
        cases gk with
        | zero => exact absurd HA.out (by simp [impl_AreJudges.l1])
        | succ k3 =>
         have H := HA.out
         clear HA
         simp only [impl_AreJudges.l1] at H
         by_cases c24 : x45_3 < (((rd_T46 l0 x12_1).f2).length : Int)
         rotate_left
         ·
          rw [if_neg c24] at H
          have c24b0 : decide (x45_3 < (((rd_T46 l0 x12_1).f2).length : Int)) = false := decide_eq_false c24
          clear c24
          have H' := Aside0.mk H
          clear H
          go_wp2
          repeat (go_quiet (fail); try go_wp2)
          go_roundg k3
          case measure => have := HK1.out; have := HJ5.out; have := HK3.out; omega
          case rel => exact ⟨(wrap64 (x12_1 + 1)), (by first | rfl | (simp; done) | (simp [*]; done)), H', ⟨by have := HK1.out; have := HJ5.out; have := HK3.out; omega⟩, ⟨by repeat (first | (with_reducible first | exact HB.out | apply bA | apply bN | apply bD | refine below_set ?_ GE102.out) | exact HB.out)⟩⟩
         rw [if_pos c24] at H
         have c24b0 : decide (x45_3 < (((rd_T46 l0 x12_1).f2).length : Int)) = true := decide_eq_true c24
         clear c24
         by_cases c25 : 0 ≤ x45_3
         rotate_left
         ·
          rw [if_neg c25] at H
          exact absurd H (by simp)
         rw [if_pos c25] at H
         have c25b0 : decide (0 ≤ x45_3) = true := decide_eq_true c25
         clear c25
         by_cases c26 : x45_3 < (((rd_T46 l0 x12_1).f2).length : Int)
         rotate_left
         ·
          rw [if_neg c26] at H
          exact absurd H (by simp)
         rw [if_pos c26] at H
         have c26b0 : decide (x45_3 < (((rd_T46 l0 x12_1).f2).length : Int)) = true := decide_eq_true c26
         clear c26
         replace H := Option.bind_eq_some_iff.mp H
         obtain ⟨t108, A270, H⟩ := H
         replace H : (if t108 = true then (if x45_3 > 0 then (if 0 ≤ (wrap64 (x45_3 - 1)) then (if (wrap64 (x45_3 - 1)) < (((rd_T46 l0 x12_1).f2).length : Int) then (if (rd ((rd_T46 l0 x12_1).f2) x45_3) ≤ (rd ((rd_T46 l0 x12_1).f2) (wrap64 (x45_3 - 1))) then (some false) else (impl_AreJudges.l1 k3 l0 l0 (l0.length : Int) x12_1 ((rd_T46 l0 x12_1).f2) (((rd_T46 l0 x12_1).f2).length : Int) (wrap64 (x45_3 + 1)) ((rd_T46 l0 x12_1).f0) ((rd_T46 l0 x12_1).f1) ((rd_T46 l0 x12_1).f2))) else (none)) else (none)) else (impl_AreJudges.l1 k3 l0 l0 (l0.length : Int) x12_1 ((rd_T46 l0 x12_1).f2) (((rd_T46 l0 x12_1).f2).length : Int) (wrap64 (x45_3 + 1)) ((rd_T46 l0 x12_1).f0) ((rd_T46 l0 x12_1).f1) ((rd_T46 l0 x12_1).f2))) else (some false)) = some r := H
         have A27 := Aside0.mk A270
         clear A270
         by_cases c28 : t108 = true
         rotate_left
         ·
          replace c28 := Bool.eq_false_iff.mpr c28
          subst c28
          have H1 : (some false) = some r := by rw [if_neg (show ¬ (false = true) by decide)] at H; exact H
          clear H
          have H := H1
          clear H1
          obtain rfl := Option.some.inj H
          have p107 : 0 ≤ (x45_3 : Int) := od (by assumption)
          have q107 : x45_3 < (((rd_T46 l0 x12_1).f2).length : Int) := od (by assumption)
          obtain ⟨ad107, e107, hx107_0⟩ := Kd.at_int HR101_2.out x45_3 p107 q107
          cases e107
          replace hx107_0 := (HB.out.cell (bl w _ hx107_0)).trans hx107_0
          replace p107 := eq_true p107
          replace q107 := eq_true q107
          go_wp2_with (first | (go_at_call 57; (with_reducible refine (impl_InRange.calls (rd ((rd_T46 l0 x12_1).f2) x45_3) 1 99 false _ A27.out).mono ?_); rintro e w' ⟨rfl, ⟨nd, rfl⟩⟩; (try first | exact ⟨rfl, _, dN⟩ | exact ⟨rfl, _, dE⟩)))
          repeat (go_quiet (first | (go_at_call 57; (with_reducible refine (impl_InRange.calls (rd ((rd_T46 l0 x12_1).f2) x45_3) 1 99 false _ A27.out).mono ?_); rintro e w' ⟨rfl, ⟨nd, rfl⟩⟩; (try first | exact ⟨rfl, _, dN⟩ | exact ⟨rfl, _, dE⟩))); try go_wp2)
          go_ret
          exact ⟨by first | rfl | (simp [*, errW_none, errW_some] <;> rfl), by repeat (first | (with_reducible first | exact HB.out | apply bA | apply bN | apply bD | refine below_set ?_ GE102.out) | exact HB.out)⟩
         subst c28
         have H1 : (if x45_3 > 0 then (if 0 ≤ (wrap64 (x45_3 - 1)) then (if (wrap64 (x45_3 - 1)) < (((rd_T46 l0 x12_1).f2).length : Int) then (if (rd ((rd_T46 l0 x12_1).f2) x45_3) ≤ (rd ((rd_T46 l0 x12_1).f2) (wrap64 (x45_3 - 1))) then (some false) else (impl_AreJudges.l1 k3 l0 l0 (l0.length : Int) x12_1 ((rd_T46 l0 x12_1).f2) (((rd_T46 l0 x12_1).f2).length : Int) (wrap64 (x45_3 + 1)) ((rd_T46 l0 x12_1).f0) ((rd_T46 l0 x12_1).f1) ((rd_T46 l0 x12_1).f2))) else (none)) else (none)) else (impl_AreJudges.l1 k3 l0 l0 (l0.length : Int) x12_1 ((rd_T46 l0 x12_1).f2) (((rd_T46 l0 x12_1).f2).length : Int) (wrap64 (x45_3 + 1)) ((rd_T46 l0 x12_1).f0) ((rd_T46 l0 x12_1).f1) ((rd_T46 l0 x12_1).f2))) = some r := by rw [if_pos rfl] at H; exact H
         clear H
         have H := H1
         clear H1
         by_cases c29 : x45_3 > 0
         rotate_left
         ·
          rw [if_neg c29] at H
          have c29b0 : decide (0 < x45_3) = false := decide_eq_false c29
          clear c29
          have H' := Aside0.mk H
          clear H
          have p107 : 0 ≤ (x45_3 : Int) := od (by assumption)
          have q107 : x45_3 < (((rd_T46 l0 x12_1).f2).length : Int) := od (by assumption)
          obtain ⟨ad107, e107, hx107_0⟩ := Kd.at_int HR101_2.out x45_3 p107 q107
          cases e107
          replace hx107_0 := (HB.out.cell (bl w _ hx107_0)).trans hx107_0
          replace p107 := eq_true p107
          replace q107 := eq_true q107
          go_wp2_with (first | (go_at_call 57; (with_reducible refine (impl_InRange.calls (rd ((rd_T46 l0 x12_1).f2) x45_3) 1 99 true _ A27.out).mono ?_); rintro e w' ⟨rfl, ⟨nd, rfl⟩⟩; (try first | exact ⟨rfl, _, dN⟩ | exact ⟨rfl, _, dE⟩)))
          repeat (go_quiet (first | (go_at_call 57; (with_reducible refine (impl_InRange.calls (rd ((rd_T46 l0 x12_1).f2) x45_3) 1 99 true _ A27.out).mono ?_); rintro e w' ⟨rfl, ⟨nd, rfl⟩⟩; (try first | exact ⟨rfl, _, dN⟩ | exact ⟨rfl, _, dE⟩))); try go_wp2)
          go_roundg k3
          case measure => have := HK1.out; have := HJ5.out; have := HK3.out; omega
          case rel => exact ⟨(wrap64 (x45_3 + 1)), (by first | rfl | (simp; done) | (simp [*]; done)), H', ⟨by have := HK1.out; have := HJ5.out; have := HK3.out; omega⟩, ⟨by (with_reducible repeat (first | refine kN ?_ _ | refine kD ?_ | refine kA ?_ _)); exact BK102.out⟩, ⟨by repeat (first | (with_reducible first | exact HB.out | apply bA | apply bN | apply bD | refine below_set ?_ GE102.out) | exact HB.out)⟩⟩
         rw [if_pos c29] at H
         have c29b0 : decide (0 < x45_3) = true := decide_eq_true c29
         clear c29
         obtain ⟨ji30, hji30⟩ : ∃ j_ : Int, (wrap64 (x45_3 - 1)) = j_ := ⟨_, rfl⟩
         replace H : (if 0 ≤ (ji30) then (if (ji30) < (((rd_T46 l0 x12_1).f2).length : Int) then (if (rd ((rd_T46 l0 x12_1).f2) x45_3) ≤ (rd ((rd_T46 l0 x12_1).f2) (ji30)) then (some false) else (impl_AreJudges.l1 k3 l0 l0 (l0.length : Int) x12_1 ((rd_T46 l0 x12_1).f2) (((rd_T46 l0 x12_1).f2).length : Int) (wrap64 (x45_3 + 1)) ((rd_T46 l0 x12_1).f0) ((rd_T46 l0 x12_1).f1) ((rd_T46 l0 x12_1).f2))) else (none)) else (none)) = some r := by first | (rw [hji30] at H; exact H) | (simp only [hji30] at H ⊢; exact H)
         (try rw [hji30] at A27)
         have hji30w : (IntKind.i64.wrap (x45_3 - 1)) = ji30 := (i64_w _).trans hji30
         by_cases c31 : 0 ≤ (ji30)
         rotate_left
         ·
          rw [if_neg c31] at H
          exact absurd H (by simp)
         rw [if_pos c31] at H
         have c31b0 : decide (0 ≤ (ji30)) = true := decide_eq_true c31
         clear c31
         by_cases c32 : (ji30) < (((rd_T46 l0 x12_1).f2).length : Int)
         rotate_left
         ·
          rw [if_neg c32] at H
          exact absurd H (by simp)
         rw [if_pos c32] at H
         have c32b0 : decide ((ji30) < (((rd_T46 l0 x12_1).f2).length : Int)) = true := decide_eq_true c32
         clear c32
         by_cases c33 : (rd ((rd_T46 l0 x12_1).f2) x45_3) ≤ (rd ((rd_T46 l0 x12_1).f2) (ji30))
         rotate_left
         ·
          rw [if_neg c33] at H
          have c33b0 : decide ((rd ((rd_T46 l0 x12_1).f2) x45_3) ≤ (rd ((rd_T46 l0 x12_1).f2) (ji30))) = false := decide_eq_false c33
          clear c33
          have H' := Aside0.mk H
          clear H
          have p107 : 0 ≤ (x45_3 : Int) := od (by assumption)
          have q107 : x45_3 < (((rd_T46 l0 x12_1).f2).length : Int) := od (by assumption)
          obtain ⟨ad107, e107, hx107_0⟩ := Kd.at_int HR101_2.out x45_3 p107 q107
          cases e107
          replace hx107_0 := (HB.out.cell (bl w _ hx107_0)).trans hx107_0
          replace p107 := eq_true p107
          replace q107 := eq_true q107
          go_wp2_with (first | (go_at_call 57; (with_reducible refine (impl_InRange.calls (rd ((rd_T46 l0 x12_1).f2) x45_3) 1 99 true _ A27.out).mono ?_); rintro e w' ⟨rfl, ⟨nd, rfl⟩⟩; (try first | exact ⟨rfl, _, dN⟩ | exact ⟨rfl, _, dE⟩); have hcz35_0 : wr.cell? ⟨gb102, 0, none⟩ = some (.int .i64 ((rd_T46 l0 x12_1).f0)) := (blk_cell BK102.out 0).trans rfl; have hcz35_1 : wr.cell? ⟨gb102, 1, none⟩ = some (.int .i64 ((rd_T46 l0 x12_1).f1)) := (blk_cell BK102.out 1).trans rfl; have hcz35_2 : wr.cell? ⟨gb102, 2, none⟩ = some (.slice (some ad107) ((rd_T46 l0 x12_1).f2).length c101_2) := (blk_cell BK102.out 2).trans rfl; have hfz35_0 := blk_frozen BK102.out 0; have hfz35_1 := blk_frozen BK102.out 1; have hfz35_2 := blk_frozen BK102.out 2; have p109 : 0 ≤ ((ji30) : Int) := od (by assumption); have q109 : (ji30) < (((rd_T46 l0 x12_1).f2).length : Int) := od (by assumption); obtain ⟨ad109, e109, hx109_0⟩ := Kd.at_int HR101_2.out (ji30) p109 q109; obtain rfl : ad107 = ad109 := (by injection e109); replace hx109_0 := (HB.out.cell (bl w _ hx109_0)).trans hx109_0; replace p109 := eq_true p109; replace q109 := eq_true q109))
          repeat (go_quiet (first | (go_at_call 57; (with_reducible refine (impl_InRange.calls (rd ((rd_T46 l0 x12_1).f2) x45_3) 1 99 true _ A27.out).mono ?_); rintro e w' ⟨rfl, ⟨nd, rfl⟩⟩; (try first | exact ⟨rfl, _, dN⟩ | exact ⟨rfl, _, dE⟩); have hcz35_0 : wr.cell? ⟨gb102, 0, none⟩ = some (.int .i64 ((rd_T46 l0 x12_1).f0)) := (blk_cell BK102.out 0).trans rfl; have hcz35_1 : wr.cell? ⟨gb102, 1, none⟩ = some (.int .i64 ((rd_T46 l0 x12_1).f1)) := (blk_cell BK102.out 1).trans rfl; have hcz35_2 : wr.cell? ⟨gb102, 2, none⟩ = some (.slice (some ad107) ((rd_T46 l0 x12_1).f2).length c101_2) := (blk_cell BK102.out 2).trans rfl; have hfz35_0 := blk_frozen BK102.out 0; have hfz35_1 := blk_frozen BK102.out 1; have hfz35_2 := blk_frozen BK102.out 2; have p109 : 0 ≤ ((ji30) : Int) := od (by assumption); have q109 : (ji30) < (((rd_T46 l0 x12_1).f2).length : Int) := od (by assumption); obtain ⟨ad109, e109, hx109_0⟩ := Kd.at_int HR101_2.out (ji30) p109 q109; obtain rfl : ad107 = ad109 := (by injection e109); replace hx109_0 := (HB.out.cell (bl w _ hx109_0)).trans hx109_0; replace p109 := eq_true p109; replace q109 := eq_true q109)); try go_wp2)
          go_roundg k3
          case measure => have := HK1.out; have := HJ5.out; have := HK3.out; omega
          case rel => exact ⟨(wrap64 (x45_3 + 1)), (by first | rfl | (simp; done) | (simp [*]; done)), H', ⟨by have := HK1.out; have := HJ5.out; have := HK3.out; omega⟩, ⟨by (with_reducible repeat (first | refine kN ?_ _ | refine kD ?_ | refine kA ?_ _)); exact BK102.out⟩, ⟨by repeat (first | (with_reducible first | exact HB.out | apply bA | apply bN | apply bD | refine below_set ?_ GE102.out) | exact HB.out)⟩⟩
         rw [if_pos c33] at H
         have c33b0 : decide ((rd ((rd_T46 l0 x12_1).f2) x45_3) ≤ (rd ((rd_T46 l0 x12_1).f2) (ji30))) = true := decide_eq_true c33
         clear c33
         obtain rfl := Option.some.inj H
         have p107 : 0 ≤ (x45_3 : Int) := od (by assumption)
         have q107 : x45_3 < (((rd_T46 l0 x12_1).f2).length : Int) := od (by assumption)
         obtain ⟨ad107, e107, hx107_0⟩ := Kd.at_int HR101_2.out x45_3 p107 q107
         cases e107
         replace hx107_0 := (HB.out.cell (bl w _ hx107_0)).trans hx107_0
         replace p107 := eq_true p107
         replace q107 := eq_true q107
         go_wp2_with (first | (go_at_call 57; (with_reducible refine (impl_InRange.calls (rd ((rd_T46 l0 x12_1).f2) x45_3) 1 99 true _ A27.out).mono ?_); rintro e w' ⟨rfl, ⟨nd, rfl⟩⟩; (try first | exact ⟨rfl, _, dN⟩ | exact ⟨rfl, _, dE⟩); have hcz34_0 : wr.cell? ⟨gb102, 0, none⟩ = some (.int .i64 ((rd_T46 l0 x12_1).f0)) := (blk_cell BK102.out 0).trans rfl; have hcz34_1 : wr.cell? ⟨gb102, 1, none⟩ = some (.int .i64 ((rd_T46 l0 x12_1).f1)) := (blk_cell BK102.out 1).trans rfl; have hcz34_2 : wr.cell? ⟨gb102, 2, none⟩ = some (.slice (some ad107) ((rd_T46 l0 x12_1).f2).length c101_2) := (blk_cell BK102.out 2).trans rfl; have hfz34_0 := blk_frozen BK102.out 0; have hfz34_1 := blk_frozen BK102.out 1; have hfz34_2 := blk_frozen BK102.out 2; have p109 : 0 ≤ ((ji30) : Int) := od (by assumption); have q109 : (ji30) < (((rd_T46 l0 x12_1).f2).length : Int) := od (by assumption); obtain ⟨ad109, e109, hx109_0⟩ := Kd.at_int HR101_2.out (ji30) p109 q109; obtain rfl : ad107 = ad109 := (by injection e109); replace hx109_0 := (HB.out.cell (bl w _ hx109_0)).trans hx109_0; replace p109 := eq_true p109; replace q109 := eq_true q109))
         repeat (go_quiet (first | (go_at_call 57; (with_reducible refine (impl_InRange.calls (rd ((rd_T46 l0 x12_1).f2) x45_3) 1 99 true _ A27.out).mono ?_); rintro e w' ⟨rfl, ⟨nd, rfl⟩⟩; (try first | exact ⟨rfl, _, dN⟩ | exact ⟨rfl, _, dE⟩); have hcz34_0 : wr.cell? ⟨gb102, 0, none⟩ = some (.int .i64 ((rd_T46 l0 x12_1).f0)) := (blk_cell BK102.out 0).trans rfl; have hcz34_1 : wr.cell? ⟨gb102, 1, none⟩ = some (.int .i64 ((rd_T46 l0 x12_1).f1)) := (blk_cell BK102.out 1).trans rfl; have hcz34_2 : wr.cell? ⟨gb102, 2, none⟩ = some (.slice (some ad107) ((rd_T46 l0 x12_1).f2).length c101_2) := (blk_cell BK102.out 2).trans rfl; have hfz34_0 := blk_frozen BK102.out 0; have hfz34_1 := blk_frozen BK102.out 1; have hfz34_2 := blk_frozen BK102.out 2; have p109 : 0 ≤ ((ji30) : Int) := od (by assumption); have q109 : (ji30) < (((rd_T46 l0 x12_1).f2).length : Int) := od (by assumption); obtain ⟨ad109, e109, hx109_0⟩ := Kd.at_int HR101_2.out (ji30) p109 q109; obtain rfl : ad107 = ad109 := (by injection e109); replace hx109_0 := (HB.out.cell (bl w _ hx109_0)).trans hx109_0; replace p109 := eq_true p109; replace q109 := eq_true q109)); try go_wp2)
         go_ret
         exact ⟨by first | rfl | (simp [errW_none, errW_some] <;> rfl) | (simp only [← hji30]; first | rfl | (simp [errW_none, errW_some] <;> rfl)) | (simp [*, errW_none, errW_some] <;> rfl), by repeat (first | (with_reducible first | exact HB.out | apply bA | apply bN | apply bD | refine below_set ?_ GE102.out) | exact HB.out)⟩
      subst c22
      have H1 : (some false) = some r := by rw [if_pos rfl] at H; exact H
      clear H
      have H := H1
      clear H1
      obtain rfl := Option.some.inj H
      go_wp2
      repeat (go_quiet (fail); try go_wp2)
      go_ret
      exact ⟨by first | rfl | (simp [*, errW_none, errW_some] <;> rfl), by repeat (first | (with_reducible first | exact HB.out | apply bA | apply bN | apply bD | refine below_set ?_ GE102.out) | exact HB.out)⟩
 rw [if_pos c2] at H
 have c2b0 : decide (10 < (l0.length : Int)) = true := decide_eq_true c2
 have c2b1 : decide (10 < l0.length) = true := decide_eq_true (by omega)
 clear c2
 obtain rfl := Option.some.inj H
 go_enter Try.func13, Try.ntmps13
 go_wp2
 repeat (go_quiet (fail); try go_wp2)
 go_ret
 exact ⟨by first | rfl | (simp [*, errW_none, errW_some] <;> rfl), by repeat (first | (with_reducible first | exact HB.out | apply bA | apply bN | apply bD) | exact HB.out)⟩
def slices_Index_int_int.l0 : Nat → List Int → Int → Int → Int → Option (Int)
  | 0, _, _, _, _ => none
  | k + 1, x0, x1, x7, x8 => if x8 < x7 then (if 0 ≤ x8 then (if x8 < (x0.length : Int) then (if x1 = (rd x0 x8) then (some x8) else (slices_Index_int_int.l0 k x0 x1 x7 (wrap64 (x8 + 1)))) else (none)) else (none)) else (some (-1))
def slices_Index_int_int.f (k : Nat) (l0 : List Int) (a1 : Int) : Option (Int) := slices_Index_int_int.l0 k l0 a1 (l0.length : Int) 0
set_option maxHeartbeats 8000000 in
set_option maxRecDepth 100000 in
theorem slices_Index_int_int.calls (k : Nat) (A0 : Option Addr) (c0 : Nat) (l0 : List Int) (a1 : Int) (r : Int) (w : World) (hr0 : Kd.C (Kd.int .i64) w A0 l0.length l0) (hc0 : l0.length ≤ c0) (h : slices_Index_int_int.f k l0 a1 = some r) :
  Calls Try.prog 87 #[.slice A0 l0.length c0, .int .i64 a1] w fun e w' => e = .returned (.int .i64 r) ∧ Drawn0 w w' := by
 have HR0 := Aside0.mk hr0
 have HC0 := Aside0.mk hc0
 clear hr0 hc0
 have H : (slices_Index_int_int.l0 k l0 a1 (l0.length : Int) 0) = some r := h
 clear h
 have H' := Aside0.mk H
 clear H
 go_enter Try.func87, Try.ntmps87
 go_wp2
 go_loopg [8] k (fun kq v8 w' => ∃ (x8_1 : Int), v8 = .int .i64 x8_1 ∧ Aside0 (slices_Index_int_int.l0 kq l0 a1 (l0.length : Int) x8_1 = some r) ∧ Aside0 (kq ≤ k) ∧ Drawn0 w w')
 case atStart => exact ⟨(0), (by first | rfl | (simp; done) | (simp [*]; done)), H', ⟨Nat.le_refl _⟩, by repeat (first | exact Drawn0.refl _ | apply Drawn0.step)⟩
 case round =>
  clear H'
  try clear p2
  obtain ⟨x8_1, rfl, HA, HK1, ⟨m1, rfl⟩⟩ := hrel
  cases gk with
  | zero => exact absurd HA.out (by simp [slices_Index_int_int.l0])
  | succ k1 =>
   have H := HA.out
   clear HA
   simp only [slices_Index_int_int.l0] at H
   by_cases c3 : x8_1 < (l0.length : Int)
   ·
    rw [if_pos c3] at H
    have c3b0 : decide (x8_1 < (l0.length : Int)) = true := decide_eq_true c3
    clear c3
    by_cases c4 : 0 ≤ x8_1
    ·
     rw [if_pos c4] at H
     have c4b0 : decide (0 ≤ x8_1) = true := decide_eq_true c4
     clear c4
     by_cases c5 : x8_1 < (l0.length : Int)
     ·
      rw [if_pos c5] at H
      have c5b0 : decide (x8_1 < (l0.length : Int)) = true := decide_eq_true c5
      clear c5
      by_cases c6 : a1 = (rd l0 x8_1)
      ·
       rw [if_pos c6] at H
       have c6b0 : (a1 == (rd l0 x8_1)) = true := beq_iff_eq.mpr c6
       have c6b1 : (a1 != (rd l0 x8_1)) = false := bne_eq_false_iff_eq.mpr c6
       clear c6
       obtain rfl := Option.some.inj H
       have p110 : 0 ≤ (x8_1 : Int) := of_decide_eq_true (by first | (with_reducible assumption) | assumption)
       have q110 : x8_1 < (l0.length : Int) := of_decide_eq_true (by first | (with_reducible assumption) | assumption)
       obtain ⟨ad110, e110, hx110_0⟩ := Kd.at_int HR0.out x8_1 p110 q110
       cases e110
       replace p110 := eq_true p110
       replace q110 := eq_true q110
       go_wp2
       go_ret
       exact ⟨by first | rfl | (simp; done) | (simp [*]; done), by repeat (first | exact Drawn0.refl _ | apply Drawn0.step)⟩
      ·
       rw [if_neg c6] at H
       have c6b0 : (a1 == (rd l0 x8_1)) = false := beq_eq_false_iff_ne.mpr c6
       have c6b1 : (a1 != (rd l0 x8_1)) = true := bne_iff_ne.mpr c6
       have H' := Aside0.mk H
       clear H
       have p110 : 0 ≤ (x8_1 : Int) := of_decide_eq_true (by first | (with_reducible assumption) | assumption)
       have q110 : x8_1 < (l0.length : Int) := of_decide_eq_true (by first | (with_reducible assumption) | assumption)
       obtain ⟨ad110, e110, hx110_0⟩ := Kd.at_int HR0.out x8_1 p110 q110
       cases e110
       replace p110 := eq_true p110
       replace q110 := eq_true q110
       go_wp2
       go_roundg k1
       case measure => have := HK1.out; omega
       case rel => exact ⟨(wrap64 (x8_1 + 1)), (by first | rfl | (simp; done) | (simp [*]; done)), H', ⟨by have := HK1.out; omega⟩, by repeat (first | exact Drawn0.refl _ | apply Drawn0.step)⟩
     ·
      rw [if_neg c5] at H
      exact absurd H (by simp)
    ·
     rw [if_neg c4] at H
     exact absurd H (by simp)
   ·
    rw [if_neg c3] at H
    have c3b0 : decide (x8_1 < (l0.length : Int)) = false := decide_eq_false c3
    clear c3
    obtain rfl := Option.some.inj H
    go_wp2
    go_ret
    exact ⟨by first | rfl | (simp; done) | (simp [*]; done), by repeat (first | exact Drawn0.refl _ | apply Drawn0.step)⟩
def slices_Contains_int_int.f (k : Nat) (l0 : List Int) (a1 : Int) : Option (Bool) := (slices_Index_int_int.f k l0 a1).bind fun t111 => (some (decide (t111 ≥ 0)))
set_option maxHeartbeats 8000000 in
set_option maxRecDepth 100000 in
theorem slices_Contains_int_int.calls (k : Nat) (A0 : Option Addr) (c0 : Nat) (l0 : List Int) (a1 : Int) (r : Bool) (w : World) (hr0 : Kd.C (Kd.int .i64) w A0 l0.length l0) (hc0 : l0.length ≤ c0) (h : slices_Contains_int_int.f k l0 a1 = some r) :
  Calls Try.prog 59 #[.slice A0 l0.length c0, .int .i64 a1] w fun e w' => e = .returned (.bool r) ∧ Drawn0 w w' := by
 have HR0 := Aside0.mk hr0
 have HC0 := Aside0.mk hc0
 clear hr0 hc0
 have H : ((slices_Index_int_int.f k l0 a1).bind fun t111 => (some (decide (t111 ≥ 0)))) = some r := h
 clear h
 replace H := Option.bind_eq_some_iff.mp H
 obtain ⟨t111, A30, H⟩ := H
 replace H : (some (decide (t111 ≥ 0))) = some r := H
 have A3 := Aside0.mk A30
 clear A30
 obtain rfl := Option.some.inj H
 go_enter Try.func59, Try.ntmps59
 go_wp2_with (first | ((with_reducible refine gate_callee (f := 87) rfl ?_); refine goesL_ (some 7) rfl rfl Try.func87 (by kernel_rfl) rfl #[.slice A0 l0.length c0, .int .i64 a1] rfl (by (try simp only [List.map_toArray, List.map_cons, List.map_nil]); first | done | rfl | (simp only [List.length_drop, List.length_take]; rfl)) ?_; (with_reducible refine (slices_Index_int_int.calls k _ _ l0 a1 t111 _ ?side1 ?side2 A3.out).mono ?_); (case side1 => repeat (first | exact HR0.out | (with_reducible refine Kd.C_alloc ?_ _) | (with_reducible refine Kd.C_drewN ?_ _) | (with_reducible refine Kd.C_drew ?_))); (case side2 => exact HC0.out); rintro e w' ⟨rfl, ⟨nd, rfl⟩⟩; refine ⟨_, rfl, ?_⟩))
 go_ret
 exact ⟨by first | rfl | (simp; done) | (simp [*]; done), by repeat (first | exact Drawn0.refl _ | apply Drawn0.step)⟩
def impl_MayJudge.l0 : Nat → List (S78) → List Int → Int → Int → Int → Int → List Int → Option (Bool)
  | 0, _, _, _, _, _, _, _ => none
  | k + 1, x0, x14, x15, x16, x122000, x122001, x122002 => if x16 < x15 then (if 0 ≤ x16 then (if x16 < (x14.length : Int) then ((impl_FindTeam.f x0 (rd x14 x16)).bind fun t127 => (if t127 < 0 then (some false) else (if 0 ≤ t127 then (if t127 < (x0.length : Int) then (if ((rd_T78 x0 t127).f1) = x122001 then (some false) else ((slices_Contains_int_int.f k x122002 (rd x14 x16)).bind fun t129 => (if t129 = true then (some false) else (impl_MayJudge.l0 k x0 x14 x15 (wrap64 (x16 + 1)) x122000 x122001 x122002)))) else (none)) else (none)))) else (none)) else (none)) else (some true)
def impl_MayJudge.f (k : Nat) (l0 : List (S78)) (a1_0 : Int) (a1_1 : Int) (l1_2 : List Int) (a2_0 : Int) (a2_1 : Int) : Option (Bool) := (some (([a2_0, a2_1] : List Int) : List Int)).bind fun y123 => (impl_MayJudge.l0 k l0 y123 (y123.length : Int) 0 a1_0 a1_1 l1_2)
set_option maxHeartbeats 8000000 in
set_option maxRecDepth 100000 in
theorem impl_MayJudge.calls (k : Nat) (A0 : Option Addr) (c0 : Nat) (l0 : List (S78)) (a1_0 : Int) (a1_1 : Int) (A1_2 : Option Addr) (c1_2 : Nat) (l1_2 : List Int) (a2_0 : Int) (a2_1 : Int) (r : Bool) (w : World) (hr0 : Kd.C k78 w A0 l0.length l0) (hc0 : l0.length ≤ c0) (hr1_2 : Kd.C (Kd.int .i64) w A1_2 l1_2.length l1_2) (hc1_2 : l1_2.length ≤ c1_2) (h : impl_MayJudge.f k l0 a1_0 a1_1 l1_2 a2_0 a2_1 = some r) :
  Calls Try.prog 28 #[.slice A0 l0.length c0, .agg #[.int .i64 a1_0, .int .i64 a1_1, .slice A1_2 l1_2.length c1_2], .agg #[.int .i64 a2_0, .int .i64 a2_1]] w fun e w' => e = .returned (.bool r) ∧ Below w.heap.size w w' := by
 have hu46 := Try.underlying46
 have hu48 := Try.underlying48
 have HR0 := Aside0.mk hr0
 have HC0 := Aside0.mk hc0
 clear hr0 hc0
 have HR1_2 := Aside0.mk hr1_2
 have HC1_2 := Aside0.mk hc1_2
 clear hr1_2 hc1_2
 have HB := Aside0.mk (Below.refl w.heap.size w)
 have H : ((some (([a2_0, a2_1] : List Int) : List Int)).bind fun y123 => (impl_MayJudge.l0 k l0 y123 (y123.length : Int) 0 a1_0 a1_1 l1_2)) = some r := h
 clear h
 obtain ⟨y123, hy123⟩ : ∃ y_ : List Int, y_ = (([a2_0, a2_1] : List Int)) := ⟨_, rfl⟩
 replace H : (impl_MayJudge.l0 k l0 y123 (y123.length : Int) 0 a1_0 a1_1 l1_2) = some r := by first | (rw [hy123]; with_reducible exact H) | (have H2_ := (Option.bind_some _ _).symm.trans H; rw [hy123]; with_reducible exact H2_) | (have H2_ := (Option.bind_some _ _).symm.trans H; with_reducible exact H2_) | with_reducible exact H | (rw [hy123]; exact H) | exact H
 have Ny123 := Aside0.mk hy123
 clear hy123
 have H' := Aside0.mk H
 clear H
 go_enter Try.func28, Try.ntmps28
 go_wp2_with (first | ((with_reducible refine gate_dst (N := 4) rfl ?_); refine box_event ?hg (N := 4) ?hd (cs := #[.int .i64 a1_0, .int .i64 a1_1, .slice A1_2 l1_2.length c1_2]) (t := 46) ?hr ?_; (case hd => rfl); (case hg => rfl); (case hr => first | (go_simp; done) | (go_simp; rfl)); intro gb121 hg w4 hbox hb; have n0_ := Aside0.mk (below_step (by repeat (first | (with_reducible first | exact HB.out | apply bA | apply bN | apply bD) | exact HB.out)) hb); have n1_ := Aside0.mk (hbox); have n2_ := Aside0.mk ((by rw [hg]; exact (below_size (by repeat (first | (with_reducible first | exact HB.out | apply bA | apply bN | apply bD) | exact HB.out))) : w.heap.size ≤ gb121)); have n3_ := Aside0.mk ((by rw [hg]; exact (below_size (by repeat (first | (with_reducible first | exact HB.out | apply bA | apply bN | apply bD) | exact HB.out))) : w.heap.size ≤ gb121)); clear HB; have HB := n0_; have BK121 := n1_; have GW121 := n2_; have GE121 := n3_; clear n0_ n1_ n2_ n3_; clear hb hbox hg) | ((with_reducible refine gate_dst (N := 5) rfl ?_); refine box_event ?hg (N := 5) ?hd (cs := #[.int .i64 a2_0, .int .i64 a2_1]) (t := 48) ?hr ?_; (case hd => rfl); (case hg => rfl); (case hr => first | (go_simp; done) | (go_simp; rfl)); intro gb122 hg w5 hbox hb; have n0_ := Aside0.mk (blk_below (g := gb121) (o := .cells #[.int .i64 a1_0, .int .i64 a1_1, .slice A1_2 l1_2.length c1_2] 46 (0, 0)) (by (with_reducible repeat (first | refine kN ?_ _ | refine kD ?_ | refine kA ?_ _)); exact BK121.out) hb); have n1_ := Aside0.mk (below_step (by repeat (first | (with_reducible first | exact HB.out | apply bA | apply bN | apply bD | refine below_set ?_ GE121.out) | exact HB.out)) hb); have n2_ := Aside0.mk (hbox); have n3_ := Aside0.mk ((by rw [hg]; exact (below_size (by repeat (first | (with_reducible first | exact HB.out | apply bA | apply bN | apply bD | refine below_set ?_ GE121.out) | exact HB.out))) : w.heap.size ≤ gb122)); have n4_ := Aside0.mk ((by rw [hg]; exact (below_size (by repeat (first | (with_reducible first | exact HB.out | apply bA | apply bN | apply bD | refine below_set ?_ GE121.out) | exact HB.out))) : w.heap.size ≤ gb122)); have n5_ := Aside0.mk ((by rw [hg]; exact Nat.ne_of_lt (blk_lt (g := gb121) (o := .cells #[.int .i64 a1_0, .int .i64 a1_1, .slice A1_2 l1_2.length c1_2] 46 (0, 0)) (by (with_reducible repeat (first | refine kN ?_ _ | refine kD ?_ | refine kA ?_ _)); exact BK121.out)) : gb121 ≠ gb122)); have n6_ := Aside0.mk ((by rw [hg]; exact Nat.ne_of_gt (blk_lt (g := gb121) (o := .cells #[.int .i64 a1_0, .int .i64 a1_1, .slice A1_2 l1_2.length c1_2] 46 (0, 0)) (by (with_reducible repeat (first | refine kN ?_ _ | refine kD ?_ | refine kA ?_ _)); exact BK121.out)) : gb122 ≠ gb121)); clear BK121; clear HB; have BK121 := n0_; have HB := n1_; have BK122 := n2_; have GW122 := n3_; have GE122 := n4_; have NB121_122 := n5_; have NB122_121 := n6_; clear n0_ n1_ n2_ n3_ n4_ n5_ n6_; clear hb hbox hg; have hnb6 := NB122_121.out; have hnc6 := NB121_122.out; have hcz7_0 : w5.cell? ⟨gb122, 0, none⟩ = some (.int .i64 a2_0) := (blk_cell BK122.out 0).trans rfl; have hcz7_1 : w5.cell? ⟨gb122, 1, none⟩ = some (.int .i64 a2_1) := (blk_cell BK122.out 1).trans rfl; have hfz7_0 := blk_frozen BK122.out 0; have hfz7_1 := blk_frozen BK122.out 1) | ((with_reducible refine gate_dst (N := 14) rfl ?_); refine Kd.R_lit (Kd.int .i64) _ 3 ?hg (N := 14) ?hd (xs := ([a2_0, a2_1] : List Int)) (inner := [.int .i64 a2_0, .int .i64 a2_1]) (ok := fun _ => True) (okp := fun _ => True) ?hr ?hp (fun _ hk => hk) trivial (Below.refl _ _) (Nat.le_refl _) (by simp) ?_; (case hd => rfl); (case hg => rfl); (case hr => first | (go_simp; done) | (go_simp; rfl)); (case hp => exact (Reps.one (show Kd.M (Kd.int .i64) _ _ _ a2_0 [.int .i64 a2_0] from rfl) (Reps.one (show Kd.M (Kd.int .i64) _ _ _ a2_1 [.int .i64 a2_1] from rfl) (Reps.none _ _)))); intro v124 w8 ho9 hb hg_ hnew_; clear hg_ hnew_; (first | rw [← Ny123.out] at ho9 | (simp only [Int.reduceToNat] at ho9; rw [← Ny123.out] at ho9)); replace HO125 := Aside0.mk (Kd.R_lower ho9 (below_size (by repeat (first | (with_reducible first | exact HB.out | apply bA | apply bN | apply bD | refine below_set ?_ GE121.out | refine below_set ?_ GE122.out) | exact HB.out)))); replace BK121 := Aside0.mk (blk_below (g := gb121) (o := .cells #[.int .i64 a1_0, .int .i64 a1_1, .slice A1_2 l1_2.length c1_2] 46 (0, 0)) (by (with_reducible repeat (first | refine kN ?_ _ | refine kD ?_ | refine kA ?_ _)); exact BK121.out) hb); replace BK122 := Aside0.mk (blk_below (g := gb122) (o := .cells #[.int .i64 a2_0, .int .i64 a2_1] 48 (0, 0)) (by (with_reducible repeat (first | refine kN ?_ _ | refine kD ?_ | refine kA ?_ _)); exact BK122.out) hb); replace HB := Aside0.mk (below_step (by repeat (first | (with_reducible first | exact HB.out | apply bA | apply bN | apply bD | refine below_set ?_ GE121.out | refine below_set ?_ GE122.out) | exact HB.out)) hb); clear hb ho9; obtain ⟨Ao10, co10, eo10⟩ := Kd.R_slice HO125.out; subst eo10))
 repeat (go_quiet (first | ((with_reducible refine gate_dst (N := 4) rfl ?_); refine box_event ?hg (N := 4) ?hd (cs := #[.int .i64 a1_0, .int .i64 a1_1, .slice A1_2 l1_2.length c1_2]) (t := 46) ?hr ?_; (case hd => rfl); (case hg => rfl); (case hr => first | (go_simp; done) | (go_simp; rfl)); intro gb121 hg w4 hbox hb; have n0_ := Aside0.mk (below_step (by repeat (first | (with_reducible first | exact HB.out | apply bA | apply bN | apply bD) | exact HB.out)) hb); have n1_ := Aside0.mk (hbox); have n2_ := Aside0.mk ((by rw [hg]; exact (below_size (by repeat (first | (with_reducible first | exact HB.out | apply bA | apply bN | apply bD) | exact HB.out))) : w.heap.size ≤ gb121)); have n3_ := Aside0.mk ((by rw [hg]; exact (below_size (by repeat (first | (with_reducible first | exact HB.out | apply bA | apply bN | apply bD) | exact HB.out))) : w.heap.size ≤ gb121)); clear HB; have HB := n0_; have BK121 := n1_; have GW121 := n2_; have GE121 := n3_; clear n0_ n1_ n2_ n3_; clear hb hbox hg) | ((with_reducible refine gate_dst (N := 5) rfl ?_); refine box_event ?hg (N := 5) ?hd (cs := #[.int .i64 a2_0, .int .i64 a2_1]) (t := 48) ?hr ?_; (case hd => rfl); (case hg => rfl); (case hr => first | (go_simp; done) | (go_simp; rfl)); intro gb122 hg w5 hbox hb; have n0_ := Aside0.mk (blk_below (g := gb121) (o := .cells #[.int .i64 a1_0, .int .i64 a1_1, .slice A1_2 l1_2.length c1_2] 46 (0, 0)) (by (with_reducible repeat (first | refine kN ?_ _ | refine kD ?_ | refine kA ?_ _)); exact BK121.out) hb); have n1_ := Aside0.mk (below_step (by repeat (first | (with_reducible first | exact HB.out | apply bA | apply bN | apply bD | refine below_set ?_ GE121.out) | exact HB.out)) hb); have n2_ := Aside0.mk (hbox); have n3_ := Aside0.mk ((by rw [hg]; exact (below_size (by repeat (first | (with_reducible first | exact HB.out | apply bA | apply bN | apply bD | refine below_set ?_ GE121.out) | exact HB.out))) : w.heap.size ≤ gb122)); have n4_ := Aside0.mk ((by rw [hg]; exact (below_size (by repeat (first | (with_reducible first | exact HB.out | apply bA | apply bN | apply bD | refine below_set ?_ GE121.out) | exact HB.out))) : w.heap.size ≤ gb122)); have n5_ := Aside0.mk ((by rw [hg]; exact Nat.ne_of_lt (blk_lt (g := gb121) (o := .cells #[.int .i64 a1_0, .int .i64 a1_1, .slice A1_2 l1_2.length c1_2] 46 (0, 0)) (by (with_reducible repeat (first | refine kN ?_ _ | refine kD ?_ | refine kA ?_ _)); exact BK121.out)) : gb121 ≠ gb122)); have n6_ := Aside0.mk ((by rw [hg]; exact Nat.ne_of_gt (blk_lt (g := gb121) (o := .cells #[.int .i64 a1_0, .int .i64 a1_1, .slice A1_2 l1_2.length c1_2] 46 (0, 0)) (by (with_reducible repeat (first | refine kN ?_ _ | refine kD ?_ | refine kA ?_ _)); exact BK121.out)) : gb122 ≠ gb121)); clear BK121; clear HB; have BK121 := n0_; have HB := n1_; have BK122 := n2_; have GW122 := n3_; have GE122 := n4_; have NB121_122 := n5_; have NB122_121 := n6_; clear n0_ n1_ n2_ n3_ n4_ n5_ n6_; clear hb hbox hg; have hnb6 := NB122_121.out; have hnc6 := NB121_122.out; have hcz7_0 : w5.cell? ⟨gb122, 0, none⟩ = some (.int .i64 a2_0) := (blk_cell BK122.out 0).trans rfl; have hcz7_1 : w5.cell? ⟨gb122, 1, none⟩ = some (.int .i64 a2_1) := (blk_cell BK122.out 1).trans rfl; have hfz7_0 := blk_frozen BK122.out 0; have hfz7_1 := blk_frozen BK122.out 1) | ((with_reducible refine gate_dst (N := 14) rfl ?_); refine Kd.R_lit (Kd.int .i64) _ 3 ?hg (N := 14) ?hd (xs := ([a2_0, a2_1] : List Int)) (inner := [.int .i64 a2_0, .int .i64 a2_1]) (ok := fun _ => True) (okp := fun _ => True) ?hr ?hp (fun _ hk => hk) trivial (Below.refl _ _) (Nat.le_refl _) (by simp) ?_; (case hd => rfl); (case hg => rfl); (case hr => first | (go_simp; done) | (go_simp; rfl)); (case hp => exact (Reps.one (show Kd.M (Kd.int .i64) _ _ _ a2_0 [.int .i64 a2_0] from rfl) (Reps.one (show Kd.M (Kd.int .i64) _ _ _ a2_1 [.int .i64 a2_1] from rfl) (Reps.none _ _)))); intro v124 w8 ho9 hb hg_ hnew_; clear hg_ hnew_; (first | rw [← Ny123.out] at ho9 | (simp only [Int.reduceToNat] at ho9; rw [← Ny123.out] at ho9)); replace HO125 := Aside0.mk (Kd.R_lower ho9 (below_size (by repeat (first | (with_reducible first | exact HB.out | apply bA | apply bN | apply bD | refine below_set ?_ GE121.out | refine below_set ?_ GE122.out) | exact HB.out)))); replace BK121 := Aside0.mk (blk_below (g := gb121) (o := .cells #[.int .i64 a1_0, .int .i64 a1_1, .slice A1_2 l1_2.length c1_2] 46 (0, 0)) (by (with_reducible repeat (first | refine kN ?_ _ | refine kD ?_ | refine kA ?_ _)); exact BK121.out) hb); replace BK122 := Aside0.mk (blk_below (g := gb122) (o := .cells #[.int .i64 a2_0, .int .i64 a2_1] 48 (0, 0)) (by (with_reducible repeat (first | refine kN ?_ _ | refine kD ?_ | refine kA ?_ _)); exact BK122.out) hb); replace HB := Aside0.mk (below_step (by repeat (first | (with_reducible first | exact HB.out | apply bA | apply bN | apply bD | refine below_set ?_ GE121.out | refine below_set ?_ GE122.out) | exact HB.out)) hb); clear hb ho9; obtain ⟨Ao10, co10, eo10⟩ := Kd.R_slice HO125.out; subst eo10)); try go_wp2)
 go_loopg [16] k (fun kq v16 w' => ∃ (x16_1 : Int), v16 = .int .i64 x16_1 ∧ Aside0 (impl_MayJudge.l0 kq l0 y123 (y123.length : Int) x16_1 a1_0 a1_1 l1_2 = some r) ∧ Aside0 (kq ≤ k) ∧ Aside0 (Kd.R (Kd.int .i64) 3 w' w.heap.size (fun _ => True) (.slice Ao10 y123.length co10) y123) ∧ Aside0 (w'.heap[gb121]? = some (.cells #[.int .i64 a1_0, .int .i64 a1_1, (.slice A1_2 l1_2.length c1_2)] 46 (0, 0))) ∧ Aside0 (w'.heap[gb122]? = some (.cells #[.int .i64 a2_0, .int .i64 a2_1] 48 (0, 0))) ∧ Aside0 (Below w.heap.size w w'))
 case atStart => exact ⟨(0), (by first | rfl | (simp; done) | (simp [*]; done)), H', ⟨Nat.le_refl _⟩, ⟨by (with_reducible repeat (first | apply rA | apply rN | apply rD)); exact HO125.out⟩, ⟨by (with_reducible repeat (first | refine kN ?_ _ | refine kD ?_ | refine kA ?_ _)); exact BK121.out⟩, ⟨by (with_reducible repeat (first | refine kN ?_ _ | refine kD ?_ | refine kA ?_ _)); exact BK122.out⟩, ⟨by repeat (first | (with_reducible first | exact HB.out | apply bA | apply bN | apply bD | refine below_set ?_ GE121.out | refine below_set ?_ GE122.out) | exact HB.out)⟩⟩
 case round =>
  clear H'
  try clear c1
  try clear c2
  try clear p2
  try clear c6
  try clear hcz7_0
  try clear hcz7_1
  try clear hfz7_0
  try clear hfz7_1
  obtain ⟨x16_1, rfl, HA, HK1, HO_14, BK121, BK122, HB⟩ := hrel
  cases gk with
  | zero => exact absurd HA.out (by simp [impl_MayJudge.l0])
  | succ k1 =>
   have H := HA.out
   clear HA
   simp only [impl_MayJudge.l0] at H
   by_cases c11 : x16_1 < (y123.length : Int)
   rotate_left
   ·
    rw [if_neg c11] at H
    have c11b0 : decide (x16_1 < (y123.length : Int)) = false := decide_eq_false c11
    clear c11
    obtain rfl := Option.some.inj H
    go_wp2
    repeat (go_quiet (fail); try go_wp2)
    go_ret
    exact ⟨by first | rfl | (simp [*, errW_none, errW_some] <;> rfl), by repeat (first | (with_reducible first | exact HB.out | apply bA | apply bN | apply bD | refine below_set ?_ GE121.out | refine below_set ?_ GE122.out) | exact HB.out)⟩

   rw [if_pos c11] at H
   have c11b0 : decide (x16_1 < (y123.length : Int)) = true := decide_eq_true c11
   clear c11
   by_cases c12 : 0 ≤ x16_1
   rotate_left
   ·
    rw [if_neg c12] at H
    exact absurd H (by simp)
   rw [if_pos c12] at H
   have c12b0 : decide (0 ≤ x16_1) = true := decide_eq_true c12
   clear c12
   by_cases c13 : x16_1 < (y123.length : Int)
   rotate_left
   ·
    rw [if_neg c13] at H
    exact absurd H (by simp)
   rw [if_pos c13] at H
   have c13b0 : decide (x16_1 < (y123.length : Int)) = true := decide_eq_true c13
   clear c13
   replace H := Option.bind_eq_some_iff.mp H
   obtain ⟨t127, A140, H⟩ := H
   replace H : (if t127 < 0 then (some false) else (if 0 ≤ t127 then (if t127 < (l0.length : Int) then (if ((rd_T78 l0 t127).f1) = a1_1 then (some false) else ((slices_Contains_int_int.f k1 l1_2 (rd y123 x16_1)).bind fun t129 => (if t129 = true then (some false) else (impl_MayJudge.l0 k1 l0 y123 (y123.length : Int) (wrap64 (x16_1 + 1)) a1_0 a1_1 l1_2)))) else (none)) else (none))) = some r := H
   have A14 := Aside0.mk A140
   clear A140
   by_cases c15 : t127 < 0
   rotate_left
   ·
    rw [if_neg c15] at H
    have c15b0 : decide (t127 < 0) = false := decide_eq_false c15
    clear c15
    by_cases c17 : 0 ≤ t127
    rotate_left
    ·
     rw [if_neg c17] at H
     exact absurd H (by simp)
    rw [if_pos c17] at H
    have c17b0 : decide (0 ≤ t127) = true := decide_eq_true c17
    clear c17
    by_cases c18 : t127 < (l0.length : Int)
    rotate_left
    ·
     rw [if_neg c18] at H
     exact absurd H (by simp)
    rw [if_pos c18] at H
    have c18b0 : decide (t127 < (l0.length : Int)) = true := decide_eq_true c18
    clear c18
    by_cases c19 : ((rd_T78 l0 t127).f1) = a1_1
    rotate_left
    ·
     rw [if_neg c19] at H
     have c19b0 : (((rd_T78 l0 t127).f1) == a1_1) = false := beq_eq_false_iff_ne.mpr c19
     have c19b1 : (((rd_T78 l0 t127).f1) != a1_1) = true := bne_iff_ne.mpr c19
     replace H := Option.bind_eq_some_iff.mp H
     obtain ⟨t129, A230, H⟩ := H
     replace H : (if t129 = true then (some false) else (impl_MayJudge.l0 k1 l0 y123 (y123.length : Int) (wrap64 (x16_1 + 1)) a1_0 a1_1 l1_2)) = some r := H
     have A23 := Aside0.mk A230
     clear A230
     by_cases c24 : t129 = true
     rotate_left
     ·
      replace c24 := Bool.eq_false_iff.mpr c24
      subst c24
      have H1 : (impl_MayJudge.l0 k1 l0 y123 (y123.length : Int) (wrap64 (x16_1 + 1)) a1_0 a1_1 l1_2) = some r := by rw [if_neg (show ¬ (false = true) by decide)] at H; exact H
      clear H
      have H := H1
      clear H1
      have H' := Aside0.mk H
      clear H
      have p126 : 0 ≤ (x16_1 : Int) := od (by assumption)
      have q126 : x16_1 < (y123.length : Int) := od (by assumption)
      obtain ⟨ad126, e126, hx126_0⟩ := Kd.at_int (Kd.R_reads' HO_14.out).2.2 x16_1 p126 q126
      cases e126
      replace p126 := eq_true p126
      replace q126 := eq_true q126
      go_wp2_with (first | (go_at_call 51; (with_reducible refine (impl_FindTeam.calls _ _ l0 (rd y123 x16_1) t127 _ ?side1 ?side2 A14.out).mono ?_); (case side1 => repeat (first | exact (Kd.C_below HR0.out HB.out) | (with_reducible first | refine cA ?_ _ | refine cN ?_ _ | refine cD ?_))); (case side2 => exact HC0.out); rintro e w28 ⟨rfl, hb⟩; replace HO_14 := Aside0.mk (Kd.R_below (by (with_reducible repeat (first | apply rA | apply rN | apply rD)); exact HO_14.out) hb); replace BK121 := Aside0.mk (blk_below (g := gb121) (o := .cells #[.int .i64 a1_0, .int .i64 a1_1, .slice A1_2 l1_2.length c1_2] 46 (0, 0)) (by (with_reducible repeat (first | refine kN ?_ _ | refine kD ?_ | refine kA ?_ _)); exact BK121.out) hb); replace BK122 := Aside0.mk (blk_below (g := gb122) (o := .cells #[.int .i64 a2_0, .int .i64 a2_1] 48 (0, 0)) (by (with_reducible repeat (first | refine kN ?_ _ | refine kD ?_ | refine kA ?_ _)); exact BK122.out) hb); replace HB := Aside0.mk (below_step (by repeat (first | (with_reducible first | exact HB.out | apply bA | apply bN | apply bD | refine below_set ?_ GE121.out | refine below_set ?_ GE122.out) | exact HB.out)) hb); (try clear hb); (try clear hb2); (try clear hk); (try clear hi); have p128 : 0 ≤ (t127 : Int) := od (by assumption); have q128 : t127 < (l0.length : Int) := od (by assumption); obtain ⟨ad128, A128_5, c128_5, e128, hx128_0, hx128_1, hx128_2, hx128_3, hx128_4, hx128_5, hl128_5, hi128_5⟩ := at_T78 HR0.out t127 p128 q128; cases e128; replace hx128_0 := (HB.out.cell (bl w _ hx128_0)).trans hx128_0; replace hx128_1 := (HB.out.cell (bl w _ hx128_1)).trans hx128_1; replace hx128_2 := (HB.out.cell (bl w _ hx128_2)).trans hx128_2; replace hx128_3 := (HB.out.cell (bl w _ hx128_3)).trans hx128_3; replace hx128_4 := (HB.out.cell (bl w _ hx128_4)).trans hx128_4; replace hx128_5 := (HB.out.cell (bl w _ hx128_5)).trans hx128_5; have HR128_5 := Aside0.mk hi128_5; have HC128_5 := Aside0.mk hl128_5; clear hi128_5 hl128_5; replace p128 := eq_true p128; replace q128 := eq_true q128; have hnb29 := NB121_122.out; have hnc29 := NB122_121.out; have hcz30_0 : w28.cell? ⟨gb121, 0, none⟩ = some (.int .i64 a1_0) := (blk_cell BK121.out 0).trans rfl; have hcz30_1 : w28.cell? ⟨gb121, 1, none⟩ = some (.int .i64 a1_1) := (blk_cell BK121.out 1).trans rfl; have hcz30_2 : w28.cell? ⟨gb121, 2, none⟩ = some (.slice A1_2 l1_2.length c1_2) := (blk_cell BK121.out 2).trans rfl; have hfz30_0 := blk_frozen BK121.out 0; have hfz30_1 := blk_frozen BK121.out 1; have hfz30_2 := blk_frozen BK121.out 2) | (go_at_call 59; (with_reducible refine (slices_Contains_int_int.calls k1 _ _ l1_2 (rd y123 x16_1) false _ ?side1 ?side2 A23.out).mono ?_); (case side1 => repeat (first | exact (Kd.C_below HR1_2.out HB.out) | (with_reducible first | refine cA ?_ _ | refine cN ?_ _ | refine cD ?_))); (case side2 => exact HC1_2.out); rintro e w' ⟨rfl, ⟨nd, rfl⟩⟩; (try first | exact ⟨rfl, _, dN⟩ | exact ⟨rfl, _, dE⟩)))
      repeat (go_quiet (first | (go_at_call 51; (with_reducible refine (impl_FindTeam.calls _ _ l0 (rd y123 x16_1) t127 _ ?side1 ?side2 A14.out).mono ?_); (case side1 => repeat (first | exact (Kd.C_below HR0.out HB.out) | (with_reducible first | refine cA ?_ _ | refine cN ?_ _ | refine cD ?_))); (case side2 => exact HC0.out); rintro e w28 ⟨rfl, hb⟩; replace HO_14 := Aside0.mk (Kd.R_below (by (with_reducible repeat (first | apply rA | apply rN | apply rD)); exact HO_14.out) hb); replace BK121 := Aside0.mk (blk_below (g := gb121) (o := .cells #[.int .i64 a1_0, .int .i64 a1_1, .slice A1_2 l1_2.length c1_2] 46 (0, 0)) (by (with_reducible repeat (first | refine kN ?_ _ | refine kD ?_ | refine kA ?_ _)); exact BK121.out) hb); replace BK122 := Aside0.mk (blk_below (g := gb122) (o := .cells #[.int .i64 a2_0, .int .i64 a2_1] 48 (0, 0)) (by (with_reducible repeat (first | refine kN ?_ _ | refine kD ?_ | refine kA ?_ _)); exact BK122.out) hb); replace HB := Aside0.mk (below_step (by repeat (first | (with_reducible first | exact HB.out | apply bA | apply bN | apply bD | refine below_set ?_ GE121.out | refine below_set ?_ GE122.out) | exact HB.out)) hb); (try clear hb); (try clear hb2); (try clear hk); (try clear hi); have p128 : 0 ≤ (t127 : Int) := od (by assumption); have q128 : t127 < (l0.length : Int) := od (by assumption); obtain ⟨ad128, A128_5, c128_5, e128, hx128_0, hx128_1, hx128_2, hx128_3, hx128_4, hx128_5, hl128_5, hi128_5⟩ := at_T78 HR0.out t127 p128 q128; cases e128; replace hx128_0 := (HB.out.cell (bl w _ hx128_0)).trans hx128_0; replace hx128_1 := (HB.out.cell (bl w _ hx128_1)).trans hx128_1; replace hx128_2 := (HB.out.cell (bl w _ hx128_2)).trans hx128_2; replace hx128_3 := (HB.out.cell (bl w _ hx128_3)).trans hx128_3; replace hx128_4 := (HB.out.cell (bl w _ hx128_4)).trans hx128_4; replace hx128_5 := (HB.out.cell (bl w _ hx128_5)).trans hx128_5; have HR128_5 := Aside0.mk hi128_5; have HC128_5 := Aside0.mk hl128_5; clear hi128_5 hl128_5; replace p128 := eq_true p128; replace q128 := eq_true q128; have hnb29 := NB121_122.out; have hnc29 := NB122_121.out; have hcz30_0 : w28.cell? ⟨gb121, 0, none⟩ = some (.int .i64 a1_0) := (blk_cell BK121.out 0).trans rfl; have hcz30_1 : w28.cell? ⟨gb121, 1, none⟩ = some (.int .i64 a1_1) := (blk_cell BK121.out 1).trans rfl; have hcz30_2 : w28.cell? ⟨gb121, 2, none⟩ = some (.slice A1_2 l1_2.length c1_2) := (blk_cell BK121.out 2).trans rfl; have hfz30_0 := blk_frozen BK121.out 0; have hfz30_1 := blk_frozen BK121.out 1; have hfz30_2 := blk_frozen BK121.out 2) | (go_at_call 59; (with_reducible refine (slices_Contains_int_int.calls k1 _ _ l1_2 (rd y123 x16_1) false _ ?side1 ?side2 A23.out).mono ?_); (case side1 => repeat (first | exact (Kd.C_below HR1_2.out HB.out) | (with_reducible first | refine cA ?_ _ | refine cN ?_ _ | refine cD ?_))); (case side2 => exact HC1_2.out); rintro e w' ⟨rfl, ⟨nd, rfl⟩⟩; (try first | exact ⟨rfl, _, dN⟩ | exact ⟨rfl, _, dE⟩))); try go_wp2)
      go_roundg k1
      case measure => have := HK1.out; omega
      case rel => exact ⟨(wrap64 (x16_1 + 1)), (by first | rfl | (simp; done) | (simp [*]; done)), H', ⟨by have := HK1.out; omega⟩, ⟨by (with_reducible repeat (first | apply rA | apply rN | apply rD)); exact HO_14.out⟩, ⟨by (with_reducible repeat (first | refine kN ?_ _ | refine kD ?_ | refine kA ?_ _)); exact BK121.out⟩, ⟨by (with_reducible repeat (first | refine kN ?_ _ | refine kD ?_ | refine kA ?_ _)); exact BK122.out⟩, ⟨by repeat (first | (with_reducible first | exact HB.out | apply bA | apply bN | apply bD | refine below_set ?_ GE121.out | refine below_set ?_ GE122.out) | exact HB.out)⟩⟩
     subst c24
     have H1 : (some false) = some r := by rw [if_pos rfl] at H; exact H
     clear H
     have H := H1
     clear H1
     obtain rfl := Option.some.inj H
     have p126 : 0 ≤ (x16_1 : Int) := od (by assumption)
     have q126 : x16_1 < (y123.length : Int) := od (by assumption)
     obtain ⟨ad126, e126, hx126_0⟩ := Kd.at_int (Kd.R_reads' HO_14.out).2.2 x16_1 p126 q126
     cases e126
     replace p126 := eq_true p126
     replace q126 := eq_true q126
     go_wp2_with (first | (go_at_call 51; (with_reducible refine (impl_FindTeam.calls _ _ l0 (rd y123 x16_1) t127 _ ?side1 ?side2 A14.out).mono ?_); (case side1 => repeat (first | exact (Kd.C_below HR0.out HB.out) | (with_reducible first | refine cA ?_ _ | refine cN ?_ _ | refine cD ?_))); (case side2 => exact HC0.out); rintro e w25 ⟨rfl, hb⟩; replace HO_14 := Aside0.mk (Kd.R_below (by (with_reducible repeat (first | apply rA | apply rN | apply rD)); exact HO_14.out) hb); replace BK121 := Aside0.mk (blk_below (g := gb121) (o := .cells #[.int .i64 a1_0, .int .i64 a1_1, .slice A1_2 l1_2.length c1_2] 46 (0, 0)) (by (with_reducible repeat (first | refine kN ?_ _ | refine kD ?_ | refine kA ?_ _)); exact BK121.out) hb); replace BK122 := Aside0.mk (blk_below (g := gb122) (o := .cells #[.int .i64 a2_0, .int .i64 a2_1] 48 (0, 0)) (by (with_reducible repeat (first | refine kN ?_ _ | refine kD ?_ | refine kA ?_ _)); exact BK122.out) hb); replace HB := Aside0.mk (below_step (by repeat (first | (with_reducible first | exact HB.out | apply bA | apply bN | apply bD | refine below_set ?_ GE121.out | refine below_set ?_ GE122.out) | exact HB.out)) hb); (try clear hb); (try clear hb2); (try clear hk); (try clear hi); have p128 : 0 ≤ (t127 : Int) := od (by assumption); have q128 : t127 < (l0.length : Int) := od (by assumption); obtain ⟨ad128, A128_5, c128_5, e128, hx128_0, hx128_1, hx128_2, hx128_3, hx128_4, hx128_5, hl128_5, hi128_5⟩ := at_T78 HR0.out t127 p128 q128; cases e128; replace hx128_0 := (HB.out.cell (bl w _ hx128_0)).trans hx128_0; replace hx128_1 := (HB.out.cell (bl w _ hx128_1)).trans hx128_1; replace hx128_2 := (HB.out.cell (bl w _ hx128_2)).trans hx128_2; replace hx128_3 := (HB.out.cell (bl w _ hx128_3)).trans hx128_3; replace hx128_4 := (HB.out.cell (bl w _ hx128_4)).trans hx128_4; replace hx128_5 := (HB.out.cell (bl w _ hx128_5)).trans hx128_5; have HR128_5 := Aside0.mk hi128_5; have HC128_5 := Aside0.mk hl128_5; clear hi128_5 hl128_5; replace p128 := eq_true p128; replace q128 := eq_true q128; have hnb26 := NB121_122.out; have hnc26 := NB122_121.out; have hcz27_0 : w25.cell? ⟨gb121, 0, none⟩ = some (.int .i64 a1_0) := (blk_cell BK121.out 0).trans rfl; have hcz27_1 : w25.cell? ⟨gb121, 1, none⟩ = some (.int .i64 a1_1) := (blk_cell BK121.out 1).trans rfl; have hcz27_2 : w25.cell? ⟨gb121, 2, none⟩ = some (.slice A1_2 l1_2.length c1_2) := (blk_cell BK121.out 2).trans rfl; have hfz27_0 := blk_frozen BK121.out 0; have hfz27_1 := blk_frozen BK121.out 1; have hfz27_2 := blk_frozen BK121.out 2) | (go_at_call 59; (with_reducible refine (slices_Contains_int_int.calls k1 _ _ l1_2 (rd y123 x16_1) true _ ?side1 ?side2 A23.out).mono ?_); (case side1 => repeat (first | exact (Kd.C_below HR1_2.out HB.out) | (with_reducible first | refine cA ?_ _ | refine cN ?_ _ | refine cD ?_))); (case side2 => exact HC1_2.out); rintro e w' ⟨rfl, ⟨nd, rfl⟩⟩; (try first | exact ⟨rfl, _, dN⟩ | exact ⟨rfl, _, dE⟩)))
     repeat (go_quiet (first | (go_at_call 51; (with_reducible refine (impl_FindTeam.calls _ _ l0 (rd y123 x16_1) t127 _ ?side1 ?side2 A14.out).mono ?_); (case side1 => repeat (first | exact (Kd.C_below HR0.out HB.out) | (with_reducible first | refine cA ?_ _ | refine cN ?_ _ | refine cD ?_))); (case side2 => exact HC0.out); rintro e w25 ⟨rfl, hb⟩; replace HO_14 := Aside0.mk (Kd.R_below (by (with_reducible repeat (first | apply rA | apply rN | apply rD)); exact HO_14.out) hb); replace BK121 := Aside0.mk (blk_below (g := gb121) (o := .cells #[.int .i64 a1_0, .int .i64 a1_1, .slice A1_2 l1_2.length c1_2] 46 (0, 0)) (by (with_reducible repeat (first | refine kN ?_ _ | refine kD ?_ | refine kA ?_ _)); exact BK121.out) hb); replace BK122 := Aside0.mk (blk_below (g := gb122) (o := .cells #[.int .i64 a2_0, .int .i64 a2_1] 48 (0, 0)) (by (with_reducible repeat (first | refine kN ?_ _ | refine kD ?_ | refine kA ?_ _)); exact BK122.out) hb); replace HB := Aside0.mk (below_step (by repeat (first | (with_reducible first | exact HB.out | apply bA | apply bN | apply bD | refine below_set ?_ GE121.out | refine below_set ?_ GE122.out) | exact HB.out)) hb); (try clear hb); (try clear hb2); (try clear hk); (try clear hi); have p128 : 0 ≤ (t127 : Int) := od (by assumption); have q128 : t127 < (l0.length : Int) := od (by assumption); obtain ⟨ad128, A128_5, c128_5, e128, hx128_0, hx128_1, hx128_2, hx128_3, hx128_4, hx128_5, hl128_5, hi128_5⟩ := at_T78 HR0.out t127 p128 q128; cases e128; replace hx128_0 := (HB.out.cell (bl w _ hx128_0)).trans hx128_0; replace hx128_1 := (HB.out.cell (bl w _ hx128_1)).trans hx128_1; replace hx128_2 := (HB.out.cell (bl w _ hx128_2)).trans hx128_2; replace hx128_3 := (HB.out.cell (bl w _ hx128_3)).trans hx128_3; replace hx128_4 := (HB.out.cell (bl w _ hx128_4)).trans hx128_4; replace hx128_5 := (HB.out.cell (bl w _ hx128_5)).trans hx128_5; have HR128_5 := Aside0.mk hi128_5; have HC128_5 := Aside0.mk hl128_5; clear hi128_5 hl128_5; replace p128 := eq_true p128; replace q128 := eq_true q128; have hnb26 := NB121_122.out; have hnc26 := NB122_121.out; have hcz27_0 : w25.cell? ⟨gb121, 0, none⟩ = some (.int .i64 a1_0) := (blk_cell BK121.out 0).trans rfl; have hcz27_1 : w25.cell? ⟨gb121, 1, none⟩ = some (.int .i64 a1_1) := (blk_cell BK121.out 1).trans rfl; have hcz27_2 : w25.cell? ⟨gb121, 2, none⟩ = some (.slice A1_2 l1_2.length c1_2) := (blk_cell BK121.out 2).trans rfl; have hfz27_0 := blk_frozen BK121.out 0; have hfz27_1 := blk_frozen BK121.out 1; have hfz27_2 := blk_frozen BK121.out 2) | (go_at_call 59; (with_reducible refine (slices_Contains_int_int.calls k1 _ _ l1_2 (rd y123 x16_1) true _ ?side1 ?side2 A23.out).mono ?_); (case side1 => repeat (first | exact (Kd.C_below HR1_2.out HB.out) | (with_reducible first | refine cA ?_ _ | refine cN ?_ _ | refine cD ?_))); (case side2 => exact HC1_2.out); rintro e w' ⟨rfl, ⟨nd, rfl⟩⟩; (try first | exact ⟨rfl, _, dN⟩ | exact ⟨rfl, _, dE⟩))); try go_wp2)
     go_ret
     exact ⟨by first | rfl | (simp [*, errW_none, errW_some] <;> rfl), by repeat (first | (with_reducible first | exact HB.out | apply bA | apply bN | apply bD | refine below_set ?_ GE121.out | refine below_set ?_ GE122.out) | exact HB.out)⟩
    rw [if_pos c19] at H
    have c19b0 : (((rd_T78 l0 t127).f1) == a1_1) = true := beq_iff_eq.mpr c19
    have c19b1 : (((rd_T78 l0 t127).f1) != a1_1) = false := bne_eq_false_iff_eq.mpr c19
    clear c19
    obtain rfl := Option.some.inj H
    have p126 : 0 ≤ (x16_1 : Int) := od (by assumption)
    have q126 : x16_1 < (y123.length : Int) := od (by assumption)
    obtain ⟨ad126, e126, hx126_0⟩ := Kd.at_int (Kd.R_reads' HO_14.out).2.2 x16_1 p126 q126
    cases e126
    replace p126 := eq_true p126
    replace q126 := eq_true q126
    go_wp2_with (first | (go_at_call 51; (with_reducible refine (impl_FindTeam.calls _ _ l0 (rd y123 x16_1) t127 _ ?side1 ?side2 A14.out).mono ?_); (case side1 => repeat (first | exact (Kd.C_below HR0.out HB.out) | (with_reducible first | refine cA ?_ _ | refine cN ?_ _ | refine cD ?_))); (case side2 => exact HC0.out); rintro e w20 ⟨rfl, hb⟩; replace HO_14 := Aside0.mk (Kd.R_below (by (with_reducible repeat (first | apply rA | apply rN | apply rD)); exact HO_14.out) hb); replace BK121 := Aside0.mk (blk_below (g := gb121) (o := .cells #[.int .i64 a1_0, .int .i64 a1_1, .slice A1_2 l1_2.length c1_2] 46 (0, 0)) (by (with_reducible repeat (first | refine kN ?_ _ | refine kD ?_ | refine kA ?_ _)); exact BK121.out) hb); replace BK122 := Aside0.mk (blk_below (g := gb122) (o := .cells #[.int .i64 a2_0, .int .i64 a2_1] 48 (0, 0)) (by (with_reducible repeat (first | refine kN ?_ _ | refine kD ?_ | refine kA ?_ _)); exact BK122.out) hb); replace HB := Aside0.mk (below_step (by repeat (first | (with_reducible first | exact HB.out | apply bA | apply bN | apply bD | refine below_set ?_ GE121.out | refine below_set ?_ GE122.out) | exact HB.out)) hb); (try clear hb); (try clear hb2); (try clear hk); (try clear hi); have p128 : 0 ≤ (t127 : Int) := od (by assumption); have q128 : t127 < (l0.length : Int) := od (by assumption); obtain ⟨ad128, A128_5, c128_5, e128, hx128_0, hx128_1, hx128_2, hx128_3, hx128_4, hx128_5, hl128_5, hi128_5⟩ := at_T78 HR0.out t127 p128 q128; cases e128; replace hx128_0 := (HB.out.cell (bl w _ hx128_0)).trans hx128_0; replace hx128_1 := (HB.out.cell (bl w _ hx128_1)).trans hx128_1; replace hx128_2 := (HB.out.cell (bl w _ hx128_2)).trans hx128_2; replace hx128_3 := (HB.out.cell (bl w _ hx128_3)).trans hx128_3; replace hx128_4 := (HB.out.cell (bl w _ hx128_4)).trans hx128_4; replace hx128_5 := (HB.out.cell (bl w _ hx128_5)).trans hx128_5; have HR128_5 := Aside0.mk hi128_5; have HC128_5 := Aside0.mk hl128_5; clear hi128_5 hl128_5; replace p128 := eq_true p128; replace q128 := eq_true q128; have hnb21 := NB121_122.out; have hnc21 := NB122_121.out; have hcz22_0 : w20.cell? ⟨gb121, 0, none⟩ = some (.int .i64 a1_0) := (blk_cell BK121.out 0).trans rfl; have hcz22_1 : w20.cell? ⟨gb121, 1, none⟩ = some (.int .i64 a1_1) := (blk_cell BK121.out 1).trans rfl; have hcz22_2 : w20.cell? ⟨gb121, 2, none⟩ = some (.slice A1_2 l1_2.length c1_2) := (blk_cell BK121.out 2).trans rfl; have hfz22_0 := blk_frozen BK121.out 0; have hfz22_1 := blk_frozen BK121.out 1; have hfz22_2 := blk_frozen BK121.out 2))
    repeat (go_quiet (first | (go_at_call 51; (with_reducible refine (impl_FindTeam.calls _ _ l0 (rd y123 x16_1) t127 _ ?side1 ?side2 A14.out).mono ?_); (case side1 => repeat (first | exact (Kd.C_below HR0.out HB.out) | (with_reducible first | refine cA ?_ _ | refine cN ?_ _ | refine cD ?_))); (case side2 => exact HC0.out); rintro e w20 ⟨rfl, hb⟩; replace HO_14 := Aside0.mk (Kd.R_below (by (with_reducible repeat (first | apply rA | apply rN | apply rD)); exact HO_14.out) hb); replace BK121 := Aside0.mk (blk_below (g := gb121) (o := .cells #[.int .i64 a1_0, .int .i64 a1_1, .slice A1_2 l1_2.length c1_2] 46 (0, 0)) (by (with_reducible repeat (first | refine kN ?_ _ | refine kD ?_ | refine kA ?_ _)); exact BK121.out) hb); replace BK122 := Aside0.mk (blk_below (g := gb122) (o := .cells #[.int .i64 a2_0, .int .i64 a2_1] 48 (0, 0)) (by (with_reducible repeat (first | refine kN ?_ _ | refine kD ?_ | refine kA ?_ _)); exact BK122.out) hb); replace HB := Aside0.mk (below_step (by repeat (first | (with_reducible first | exact HB.out | apply bA | apply bN | apply bD | refine below_set ?_ GE121.out | refine below_set ?_ GE122.out) | exact HB.out)) hb); (try clear hb); (try clear hb2); (try clear hk); (try clear hi); have p128 : 0 ≤ (t127 : Int) := od (by assumption); have q128 : t127 < (l0.length : Int) := od (by assumption); obtain ⟨ad128, A128_5, c128_5, e128, hx128_0, hx128_1, hx128_2, hx128_3, hx128_4, hx128_5, hl128_5, hi128_5⟩ := at_T78 HR0.out t127 p128 q128; cases e128; replace hx128_0 := (HB.out.cell (bl w _ hx128_0)).trans hx128_0; replace hx128_1 := (HB.out.cell (bl w _ hx128_1)).trans hx128_1; replace hx128_2 := (HB.out.cell (bl w _ hx128_2)).trans hx128_2; replace hx128_3 := (HB.out.cell (bl w _ hx128_3)).trans hx128_3; replace hx128_4 := (HB.out.cell (bl w _ hx128_4)).trans hx128_4; replace hx128_5 := (HB.out.cell (bl w _ hx128_5)).trans hx128_5; have HR128_5 := Aside0.mk hi128_5; have HC128_5 := Aside0.mk hl128_5; clear hi128_5 hl128_5; replace p128 := eq_true p128; replace q128 := eq_true q128; have hnb21 := NB121_122.out; have hnc21 := NB122_121.out; have hcz22_0 : w20.cell? ⟨gb121, 0, none⟩ = some (.int .i64 a1_0) := (blk_cell BK121.out 0).trans rfl; have hcz22_1 : w20.cell? ⟨gb121, 1, none⟩ = some (.int .i64 a1_1) := (blk_cell BK121.out 1).trans rfl; have hcz22_2 : w20.cell? ⟨gb121, 2, none⟩ = some (.slice A1_2 l1_2.length c1_2) := (blk_cell BK121.out 2).trans rfl; have hfz22_0 := blk_frozen BK121.out 0; have hfz22_1 := blk_frozen BK121.out 1; have hfz22_2 := blk_frozen BK121.out 2)); try go_wp2)
    go_ret
    exact ⟨by first | rfl | (simp [*, errW_none, errW_some] <;> rfl), by repeat (first | (with_reducible first | exact HB.out | apply bA | apply bN | apply bD | refine below_set ?_ GE121.out | refine below_set ?_ GE122.out) | exact HB.out)⟩
   rw [if_pos c15] at H
   have c15b0 : decide (t127 < 0) = true := decide_eq_true c15
   clear c15
   obtain rfl := Option.some.inj H
   have p126 : 0 ≤ (x16_1 : Int) := od (by assumption)
   have q126 : x16_1 < (y123.length : Int) := od (by assumption)
   obtain ⟨ad126, e126, hx126_0⟩ := Kd.at_int (Kd.R_reads' HO_14.out).2.2 x16_1 p126 q126
   cases e126
   replace p126 := eq_true p126
   replace q126 := eq_true q126
   go_wp2_with (first | (go_at_call 51; (with_reducible refine (impl_FindTeam.calls _ _ l0 (rd y123 x16_1) t127 _ ?side1 ?side2 A14.out).mono ?_); (case side1 => repeat (first | exact (Kd.C_below HR0.out HB.out) | (with_reducible first | refine cA ?_ _ | refine cN ?_ _ | refine cD ?_))); (case side2 => exact HC0.out); rintro e w16 ⟨rfl, hb⟩; replace HO_14 := Aside0.mk (Kd.R_below (by (with_reducible repeat (first | apply rA | apply rN | apply rD)); exact HO_14.out) hb); replace BK121 := Aside0.mk (blk_below (g := gb121) (o := .cells #[.int .i64 a1_0, .int .i64 a1_1, .slice A1_2 l1_2.length c1_2] 46 (0, 0)) (by (with_reducible repeat (first | refine kN ?_ _ | refine kD ?_ | refine kA ?_ _)); exact BK121.out) hb); replace BK122 := Aside0.mk (blk_below (g := gb122) (o := .cells #[.int .i64 a2_0, .int .i64 a2_1] 48 (0, 0)) (by (with_reducible repeat (first | refine kN ?_ _ | refine kD ?_ | refine kA ?_ _)); exact BK122.out) hb); replace HB := Aside0.mk (below_step (by repeat (first | (with_reducible first | exact HB.out | apply bA | apply bN | apply bD | refine below_set ?_ GE121.out | refine below_set ?_ GE122.out) | exact HB.out)) hb); (try clear hb); (try clear hb2); (try clear hk); (try clear hi)))
   repeat (go_quiet (first | (go_at_call 51; (with_reducible refine (impl_FindTeam.calls _ _ l0 (rd y123 x16_1) t127 _ ?side1 ?side2 A14.out).mono ?_); (case side1 => repeat (first | exact (Kd.C_below HR0.out HB.out) | (with_reducible first | refine cA ?_ _ | refine cN ?_ _ | refine cD ?_))); (case side2 => exact HC0.out); rintro e w16 ⟨rfl, hb⟩; replace HO_14 := Aside0.mk (Kd.R_below (by (with_reducible repeat (first | apply rA | apply rN | apply rD)); exact HO_14.out) hb); replace BK121 := Aside0.mk (blk_below (g := gb121) (o := .cells #[.int .i64 a1_0, .int .i64 a1_1, .slice A1_2 l1_2.length c1_2] 46 (0, 0)) (by (with_reducible repeat (first | refine kN ?_ _ | refine kD ?_ | refine kA ?_ _)); exact BK121.out) hb); replace BK122 := Aside0.mk (blk_below (g := gb122) (o := .cells #[.int .i64 a2_0, .int .i64 a2_1] 48 (0, 0)) (by (with_reducible repeat (first | refine kN ?_ _ | refine kD ?_ | refine kA ?_ _)); exact BK122.out) hb); replace HB := Aside0.mk (below_step (by repeat (first | (with_reducible first | exact HB.out | apply bA | apply bN | apply bD | refine below_set ?_ GE121.out | refine below_set ?_ GE122.out) | exact HB.out)) hb); (try clear hb); (try clear hb2); (try clear hk); (try clear hi))); try go_wp2)
   go_ret
   exact ⟨by first | rfl | (simp [*, errW_none, errW_some] <;> rfl), by repeat (first | (with_reducible first | exact HB.out | apply bA | apply bN | apply bD | refine below_set ?_ GE121.out | refine below_set ?_ GE122.out) | exact HB.out)⟩
end Go.Proofs.Ytdlebbmmanjffaa.A
end
section
set_option linter.unusedVariables false
set_option linter.unusedSimpArgs false
namespace Go.Proofs.Ytdlebbmmanjffaa.A
open Go.RowKit Go.Proofs.YtdlebbmmanjffaaW.PrintWords Go.Proofs.YtdlebbmmanjffaaW.PrintLast Go.Proofs.YtdlebbmmanjffaaW.PrintMore Go.Shelf
theorem atInt {w : World} {A : Option Addr} {xs : List Int} (h : Kd.C (Kd.int .i64) w A xs.length xs) (i : Nat) (hi : i < xs.length) : ∃ ad, A = some ad ∧ w.cell? (ad.add i) = some (.int .i64 xs[i]) := by
  obtain ⟨ad, e, hc⟩ := h.2.2 (by omega)
  obtain ⟨c, _, hr, hcell⟩ := hc i xs[i] (List.getElem?_eq_getElem hi)
  have hr' : c = [Value.int .i64 xs[i]] := hr
  subst hr'
  refine ⟨ad, e, ?_⟩
  have := hcell 0 _ rfl
  have e1 : (Kd.int .i64).sz = 1 := rfl
  simpa [e1] using this
theorem fidx_lt {α : Type} (p : α → Bool) (l : List α) : fidx p l < l.length := by
  unfold fidx
  cases e : l.findIdx? p with
  | none => simp; omega
  | some i =>
    have := (List.findIdx?_eq_some_iff_getElem.1 e).1
    simpa using this
set_option maxHeartbeats 4000000 in
set_option maxRecDepth 100000 in
theorem Index_still (A : Option Addr) (c : Nat) (l : List Int) (x : Int) (w : World) (h : Kd.C (Kd.int .i64) w A l.length l) :
    Calls Try.prog 87 #[.slice A l.length c, .int .i64 x] w fun e w' => (∃ i : Int, e = .returned (.int .i64 i) ∧ (0 ≤ i ↔ x ∈ l)) ∧ w' = w := by
  have HC := Aside0.mk h
  have HM := Aside0.mk (Kd.C_max h)
  clear h
  go_enter Try.func87, Try.ntmps87
  go_wp2
  go_loopg [5, 8] l.length (fun gg _ v8 wr => ∃ kk : Nat, v8 = .int .i64 kk ∧ Aside0 (kk ≤ l.length ∧ l.length - kk ≤ gg) ∧ Aside0 (x ∉ l.take kk) ∧ wr = w)
  case atStart => exact ⟨0, rfl, ⟨by omega⟩, ⟨by simp⟩, rfl⟩
  case round =>
    obtain ⟨kk, rfl, HI, HX, rfl⟩ := hrel
    by_cases hlt : kk < l.length
    · have hltb : ((kk : Int) < (l.length : Int)) = True := eq_true (by omega)
      obtain ⟨ad, rfl, hc⟩ := atInt HC.out kk hlt
      obtain ⟨y, hy⟩ : ∃ y, l[kk] = y := ⟨_, rfl⟩
      rw [hy] at hc
      have HT : Aside0 (l.take (kk + 1) = l.take kk ++ [y]) := ⟨by rw [List.take_succ_eq_append_getElem hlt, hy]⟩
      have HLT := Aside0.mk hlt
      by_cases e : x = y
      · have eb : (x == y) = true := beq_iff_eq.mpr e
        have HE := Aside0.mk e
        clear e hlt hy
        go_wp2
        go_ret
        refine ⟨⟨_, rfl, ?_⟩, rfl⟩
        have hm : x ∈ l := by
          have h1 : x ∈ l.take (kk + 1) := by rw [HT.out, HE.out]; simp
          exact List.mem_of_mem_take h1
        exact ⟨fun _ => hm, fun _ => by omega⟩
      · have eb : (x == y) = false := beq_false_of_ne e
        have HE := Aside0.mk e
        have HW : Aside0 (wrap64 ((kk : Int) + 1) = ((kk + 1 : Nat) : Int)) := ⟨by have := HM.out; unfold wrap64; omega⟩
        clear e hlt hy
        go_wp2
        go_roundg (l.length - (kk + 1))
        case measure => have := HI.out; have := HLT.out; omega
        case rel => exact ⟨kk + 1, by rw [HW.out], ⟨by have := HLT.out; omega⟩, ⟨by rw [HT.out]; intro h; rcases List.mem_append.1 h with h | h; exact HX.out h; exact HE.out (List.mem_singleton.1 h)⟩, rfl⟩
    · have hltb : ((kk : Int) < (l.length : Int)) = False := eq_false (by omega)
      have HLT := Aside0.mk hlt
      clear hlt
      go_wp2
      go_ret
      refine ⟨⟨_, rfl, ?_⟩, rfl⟩
      have hx := HX.out
      rw [List.take_of_length_le (by have := HLT.out; omega)] at hx
      exact ⟨fun h => by omega, fun h => absurd h hx⟩
set_option maxHeartbeats 4000000 in
set_option maxRecDepth 100000 in
theorem Contains_still (A : Option Addr) (c : Nat) (l : List Int) (x : Int) (w : World) (h : Kd.C (Kd.int .i64) w A l.length l) :
    Calls Try.prog 59 #[.slice A l.length c, .int .i64 x] w fun e w' => e = .returned (.bool (decide (x ∈ l))) ∧ w' = w := by
  have hI := Index_still A c l x w h
  clear h
  by_cases hx : x ∈ l
  · have e : decide (x ∈ l) = true := decide_eq_true hx
    rw [e]
    have HX := Aside0.mk hx
    clear e hx
    go_enter Try.func59, Try.ntmps59
    go_wp2_with (go_at_call 87; refine hI.mono ?_; rintro e w' ⟨⟨i, rfl, hi⟩, rfl⟩; have hib : (0 ≤ i) = True := eq_true (hi.2 HX.out); clear hi)
    go_ret
    exact ⟨by simp, rfl⟩
  · have e : decide (x ∈ l) = false := decide_eq_false hx
    rw [e]
    have HX := Aside0.mk hx
    clear e hx
    go_enter Try.func59, Try.ntmps59
    go_wp2_with (go_at_call 87; refine hI.mono ?_; rintro e w' ⟨⟨i, rfl, hi⟩, rfl⟩; have hib : (0 ≤ i) = False := eq_false (fun h => HX.out (hi.1 h)); clear hi)
    go_ret
    exact ⟨by simp, rfl⟩
def asF (k : Nat) (t : List S78) (l : List S46) : List S48 → List Int → List Int → Option Bool
  | p :: rs, id :: ids, seen =>
    if fidx (fun j => decide (j.f0 = id)) l < 0 then some false
    else if id ∈ seen then some false
    else (impl_MayJudge.f k t (rd_T46 l (fidx (fun j => decide (j.f0 = id)) l)).f0 (rd_T46 l (fidx (fun j => decide (j.f0 = id)) l)).f1 (rd_T46 l (fidx (fun j => decide (j.f0 = id)) l)).f2 p.f0 p.f1).bind fun b => if b = true then asF k t l rs ids (seen ++ [id]) else some false
  | _, _, _ => some true
def impl_AreSeated.f (k : Nat) (l0 : List S78) (l1 : List S46) (l2 : List S48) (l3 : List Int) : Option Bool := (impl_AreJudges.f k l1).bind fun b => if b = true then (if l3.length = l2.length then asF k l0 l1 l2 l3 [] else some false) else some false
set_option maxHeartbeats 16000000 in
set_option maxRecDepth 100000 in
theorem impl_AreSeated.calls (k : Nat) (A0 : Option Addr) (c0 : Nat) (l0 : List S78) (A1 : Option Addr) (c1 : Nat) (l1 : List S46) (A2 : Option Addr) (c2 : Nat) (l2 : List S48) (A3 : Option Addr) (c3 : Nat) (l3 : List Int) (r : Bool) (w : World) (hr0 : Kd.C k78 w A0 l0.length l0) (hc0 : l0.length ≤ c0) (hr1 : Kd.C k46 w A1 l1.length l1) (hc1 : l1.length ≤ c1) (hr2 : Kd.C k48 w A2 l2.length l2) (hc2 : l2.length ≤ c2) (hr3 : Kd.C (Kd.int .i64) w A3 l3.length l3) (hc3 : l3.length ≤ c3) (h : impl_AreSeated.f k l0 l1 l2 l3 = some r) :
    Calls Try.prog 34 #[.slice A0 l0.length c0, .slice A1 l1.length c1, .slice A2 l2.length c2, .slice A3 l3.length c3] w fun e w' => e = .returned (.bool r) ∧ Below w.heap.size w w' := by
  unfold impl_AreSeated.f at h
  replace h := Option.bind_eq_some_iff.mp h
  obtain ⟨b, hb, h⟩ := h
  have HA := Aside0.mk (impl_AreJudges.calls k A1 c1 l1 b w hr1 hc1 hb)
  have HR0 := Aside0.mk hr0
  have HR1 := Aside0.mk hr1
  have HR2 := Aside0.mk hr2
  have HR3 := Aside0.mk hr3
  have HC0 := Aside0.mk hc0
  have HM3 := Aside0.mk (Kd.C_max hr3)
  have HM2 := Aside0.mk (Kd.C_max hr2)
  have HC3 := Aside0.mk hc3
  clear hb hr0 hr1 hr2 hr3
  have hu46 := Try.underlying46
  have hu48 := Try.underlying48
  cases b with
  | false =>
    rw [if_neg (by simp)] at h
    obtain rfl := Option.some.inj h
    clear h
    go_enter Try.func34, Try.ntmps34
    go_wp2_with (go_at_call 13; refine HA.out.mono ?_; rintro e w' ⟨rfl, hb'⟩)
    go_ret
    exact ⟨rfl, hb'⟩
  | true =>
    rw [if_pos rfl] at h
    by_cases hl : l3.length = l2.length
    rotate_left
    · rw [if_neg hl] at h
      obtain rfl := Option.some.inj h
      have hq : ((l3.length : Int) != (l2.length : Int)) = true := bne_iff_ne.mpr (by omega)
      clear h hl
      go_enter Try.func34, Try.ntmps34
      go_wp2_with (go_at_call 13; refine HA.out.mono ?_; rintro e w' ⟨rfl, hb'⟩)
      go_ret
      exact ⟨rfl, hb'⟩
    rw [if_pos hl] at h
    have HL := Aside0.mk hl
    have HF := Aside0.mk h
    have hq : ((l3.length : Int) != (l2.length : Int)) = false := bne_eq_false_iff_eq.mpr (by omega)
    clear h hl
    go_enter Try.func34, Try.ntmps34
    go_wp2_with (go_at_call 13; refine HA.out.mono ?_; rintro e w1 ⟨rfl, hb'⟩; have HB := Aside0.mk hb'; clear hb')
    go_loopg [9, 10, 11, 24] l3.length (fun gg _ _ _ v24 wr => ∃ (kk : Nat), v24 = .int .i64 kk ∧ Aside0 (kk ≤ l3.length ∧ l3.length - kk ≤ gg) ∧ Aside0 (asF k l0 l1 (l2.drop kk) (l3.drop kk) (l3.take kk) = some r) ∧ Aside0 (Below w.heap.size w wr))
    case atStart => exact ⟨0, rfl, ⟨by omega⟩, ⟨by simpa using HF.out⟩, HB⟩
    case round =>
      obtain ⟨kk, rfl, HI, HT, HB⟩ := hrel
      by_cases hlt : kk < l3.length
      · have hltb : ((kk : Int) < (l3.length : Int)) = True := eq_true (by omega)
        have hlt2 : kk < l2.length := by rw [← HL.out]; exact hlt
        obtain ⟨a3, rfl, h3⟩ := atInt (Kd.C_below HR3.out HB.out) kk hlt
        have ht := HT.out
        rw [List.drop_eq_getElem_cons hlt, List.drop_eq_getElem_cons hlt2, asF] at ht
        have hseen : l3.take (kk + 1) = l3.take kk ++ [l3[kk]] := List.take_succ_eq_append_getElem hlt
        obtain ⟨id, hid⟩ : ∃ x, l3[kk] = x := ⟨_, rfl⟩
        rw [hid] at h3 ht hseen
        have hpr : rd_T48 l2 (kk : Int) = l2[kk] := by simp [rd_T48, hlt2]
        rw [← hpr] at ht
        have HSEEN := Aside0.mk hseen
        have HLT := Aside0.mk hlt
        have HLT2 : Aside0 ((kk : Int) < (l2.length : Int)) := ⟨by omega⟩
        have hlt2b : ((kk : Int) < (l2.length : Int)) = True := eq_true (by omega)
        have eg : ∀ args w, (callFunc 67 args).run Try.prog w = .ok (.enter 67 args) w := enters_of Try.func67 (by kernel_rfl) rfl
        have hb0 : Below w.heap.size w (wr.alloc (.cells #[.int .i64 id] 3)) := below_alloc HB.out _
        have hcon := IndexFuncJudge_calls A1 c1 l1 (fun t => decide (t.f0 = id)) #[.pointer (some ⟨wr.heap.size, 0, none⟩)] 67 (wr.alloc (.cells #[.int .i64 id] 3)) eg
          (fun x v2 W hW => AreSeated_pred id wr.heap.size _ (by simp) (by simp) x v2 W hW) (Kd.C_below HR1.out hb0)
        have hbox : ∀ W, Below (wr.alloc (.cells #[.int .i64 id] 3)).heap.size (wr.alloc (.cells #[.int .i64 id] 3)) W → W.cell? ⟨wr.heap.size, 0, none⟩ = some (.int .i64 id) := fun W hW => (hW.cell (p := ⟨wr.heap.size, 0, none⟩) (by simp)).trans (by simp)
        have hfl := fidx_lt (fun t : S46 => decide (t.f0 = id)) l1
        generalize fidx (fun t : S46 => decide (t.f0 = id)) l1 = ix at hcon ht hfl
        have HC := Aside0.mk hcon
        have HBOX := Aside0.mk hbox
        have HB0 := Aside0.mk hb0
        have HFL := Aside0.mk hfl
        clear hcon hb0 eg hlt hid hfl HT hbox hseen hpr hlt2
        by_cases hix : ix < 0
        · rw [if_pos hix] at ht
          obtain rfl := Option.some.inj ht
          have hixb : (ix < 0) = True := eq_true hix
          clear hix ht
          go_wp2_with (go_at_call 66; refine HC.out.mono ?_; rintro e w2 ⟨rfl, hb2⟩)
          go_quiet (fail)
          go_wp2
          go_ret
          exact ⟨rfl, pw_below_drewN (HB0.out.trans (hb2.mono HB0.out.size)) _⟩
        · rw [if_neg hix] at ht
          have hixb : (ix < 0) = False := eq_false hix
          have HIX := Aside0.mk hix
          have hix0 : (0 ≤ ix) = True := eq_true (by omega)
          have hix1 : (ix < (l1.length : Int)) = True := eq_true HFL.out
          clear hix
          have el : (l3.take kk).length = kk := by rw [List.length_take]; have := HLT.out; omega
          have hkc : (kk ≤ c3) = True := eq_true (by have := HLT.out; have := HC3.out; omega)
          have hkc2 : ((kk : Int) ≤ (c3 : Int)) = True := eq_true (by have := HLT.out; have := HC3.out; omega)
          have hCon : ∀ W, Below w.heap.size w W → Calls Try.prog 59 #[.slice (some a3) kk c3, .int .i64 id] W fun e w' => e = .returned (.bool (decide (id ∈ l3.take kk))) ∧ w' = W := fun W hW => by
            have := Contains_still (some a3) c3 (l3.take kk) id W (Kd.C_take (Kd.C_below HR3.out hW) (by have := HLT.out; omega))
            rw [el] at this
            exact this
          have HEL := Aside0.mk el
          clear el
          by_cases hin : id ∈ l3.take kk
          · rw [if_pos hin] at ht
            obtain rfl := Option.some.inj ht
            have hd : decide (id ∈ l3.take kk) = true := decide_eq_true hin
            rw [hd] at hCon
            clear hd hin ht
            go_wp2_with (go_at_call 66; refine HC.out.mono ?_; rintro e w2 ⟨rfl, hb2⟩; have HBX := HBOX.out w2 hb2; have HB2 := Aside0.mk (HB0.out.trans (hb2.mono HB0.out.size)); clear hb2)
            go_quiet ((go_at_call 59; refine (hCon _ ?hw).mono ?_; (case hw => exact pw_below_drewN HB2.out _); rintro e w' ⟨rfl, rfl⟩; exact ⟨rfl, _, rfl⟩))
            go_wp2
            go_ret
            exact ⟨rfl, pw_below_drewN HB2.out _⟩
          · rw [if_neg hin] at ht
            have hd : decide (id ∈ l3.take kk) = false := decide_eq_false hin
            rw [hd] at hCon
            clear hd hin
            replace ht := Option.bind_eq_some_iff.mp ht
            obtain ⟨b, hmj, ht⟩ := ht
            have HMJ := Aside0.mk hmj
            have HT2 := Aside0.mk ht
            clear hmj ht
            go_wp2_with (go_at_call 66; refine HC.out.mono ?_; rintro e w2 ⟨rfl, hb2⟩; have HBX := HBOX.out w2 hb2; have HB2 := Aside0.mk (HB0.out.trans (hb2.mono HB0.out.size)); clear hb2)
            refine wp_region_still_tail 19 (by kernel_rfl) (by kernel_rfl) ?_
            show wpStill _ _ (World.drew _) (fun a' => wpList _ _ _ _ a' (World.drew _)) _ _
            have hbx3 : w2.drew.cell? ⟨wr.heap.size, 0, none⟩ = some (.int .i64 id) := HBX
            have hb3 : Below w.heap.size w w2.drew := below_drew HB2.out
            obtain ⟨b1, A2_, c2_, e1_, x0, x1, x2, hl2_, hc2_⟩ := at_T46 (Kd.C_below HR1.out hb3) ix (by have := HIX.out; omega) HFL.out
            subst e1_
            obtain ⟨b2, e2_, y0, y1⟩ := at_T48 (Kd.C_below HR2.out hb3) (kk : Int) (by omega) HLT2.out
            subst e2_
            simp only [Int.toNat_natCast] at y0 y1
            generalize w2.drew = w3 at hbx3 hb3 x0 x1 x2 hc2_ y0 y1 ⊢
            have hCon3 := hCon w3 hb3
            have HB3 := Aside0.mk hb3
            have HJ2 := Aside0.mk hc2_
            have HL2_ := Aside0.mk hl2_
            clear hCon hb3 hc2_ HBX hl2_
            simp only [List.take_succ_cons, List.take_zero, List.drop_succ_cons, List.drop_zero]
            repeat (first | still_step | still_call hCon3)
            refine wpStill_nil ?_
            cases b with
            | true =>
              have ht := HT2.out
              rw [if_pos rfl] at ht
              have HT3 := Aside0.mk ht
              clear ht
              go_wp2_with (go_at_call 28; refine (impl_MayJudge.calls k A0 c0 l0 _ _ A2_ c2_ _ _ _ true _ ?q1 ?q2 ?q3 ?q4 HMJ.out).mono ?_; (case q1 => exact Kd.C_below HR0.out HB3.out); (case q2 => exact HC0.out); (case q3 => exact HJ2.out); (case q4 => exact HL2_.out); rintro e w4 ⟨rfl, hb4⟩; have HB4 := Aside0.mk (HB3.out.trans (hb4.mono HB3.out.size)); clear hb4)
              go_roundg (l3.length - (kk + 1))
              case measure => have := HI.out; have := HLT.out; omega
              case rel =>
                have hw : wrap64 ((kk : Int) + 1) = ((kk + 1 : Nat) : Int) := by have := HM3.out; have := HLT.out; unfold wrap64; omega
                exact ⟨kk + 1, by rw [hw], ⟨by have := HLT.out; omega⟩, ⟨by rw [HSEEN.out]; exact HT3.out⟩, HB4⟩
            | false =>
              have ht := HT2.out
              rw [if_neg (by simp)] at ht
              obtain rfl := Option.some.inj ht
              clear ht
              go_wp2_with (go_at_call 28; refine (impl_MayJudge.calls k A0 c0 l0 _ _ A2_ c2_ _ _ _ false _ ?q1 ?q2 ?q3 ?q4 HMJ.out).mono ?_; (case q1 => exact Kd.C_below HR0.out HB3.out); (case q2 => exact HC0.out); (case q3 => exact HJ2.out); (case q4 => exact HL2_.out); rintro e w4 ⟨rfl, hb4⟩; have HB4 := Aside0.mk (HB3.out.trans (hb4.mono HB3.out.size)); clear hb4)
              go_ret
              exact ⟨rfl, HB4.out⟩
      · have hltb : ((kk : Int) < (l3.length : Int)) = False := eq_false (by omega)
        have HLT := Aside0.mk hlt
        clear hlt
        go_wp2
        go_ret
        have ht := HT.out
        rw [show l3.drop kk = [] from List.drop_eq_nil_of_le (by have := HLT.out; omega), show l2.drop kk = [] from List.drop_eq_nil_of_le (by have := HLT.out; have := HL.out; omega)] at ht
        obtain rfl := Option.some.inj ht
        exact ⟨rfl, HB.out⟩
end Go.Proofs.Ytdlebbmmanjffaa.A
end
section
namespace Go.Proofs.Ytdlebbmmanjffaa.A
open Go.RowKit Go.Proofs.YtdlebbmmanjffaaW.PrintWords Go.Proofs.YtdlebbmmanjffaaW.PrintLast Go.Proofs.YtdlebbmmanjffaaW.PrintMore
attribute [local go_sem] max2_int min2_int max_two min_two max_three min_three max_four min_four
set_option linter.unusedVariables false
set_option linter.unusedSimpArgs false
def impl_FreeJudges.l0 : Nat → List Int → List Int → List (S46) → Int → Int → Option (List Int)
  | 0, _, _, _, _, _ => none
  | k + 1, x1, x5, x9, x10, x11 => if x11 < x10 then (if 0 ≤ x11 then (if x11 < (x9.length : Int) then ((slices_Contains_int_int.f k x1 ((rd_T46 x9 x11).f0)).bind fun t117 => (if t117 = true then (impl_FreeJudges.l0 k x1 x5 x9 x10 (wrap64 (x11 + 1))) else (if x5.length < 17592186044416 then (impl_FreeJudges.l0 k x1 (x5 ++ [(rd_T46 x9 x11).f0]) x9 x10 (wrap64 (x11 + 1))) else (none)))) else (none)) else (none)) else (some x5)
def impl_FreeJudges.f (k : Nat) (l0 : List (S46)) (l1 : List Int) : Option (List Int) := impl_FreeJudges.l0 k l1 (([] : List Int)) l0 (l0.length : Int) 0
set_option maxHeartbeats 8000000 in
set_option maxRecDepth 100000 in
theorem impl_FreeJudges.calls (k : Nat) (A0 : Option Addr) (c0 : Nat) (l0 : List (S46)) (A1 : Option Addr) (c1 : Nat) (l1 : List Int) (r : List Int) (w : World) (hr0 : Kd.C k46 w A0 l0.length l0) (hc0 : l0.length ≤ c0) (hr1 : Kd.C (Kd.int .i64) w A1 l1.length l1) (hc1 : l1.length ≤ c1) (h : impl_FreeJudges.f k l0 l1 = some r) :
  Calls Try.prog 17 #[.slice A0 l0.length c0, .slice A1 l1.length c1] w fun e w' => ∃ v0_ : Value, e = .returned (v0_) ∧ Kd.R (Kd.int .i64) 3 w' w.heap.size (fun _ => True) v0_ r ∧ Below w.heap.size w w' := by
 have hu46 := Try.underlying46
 have HR0 := Aside0.mk hr0
 have HC0 := Aside0.mk hc0
 clear hr0 hc0
 have HR1 := Aside0.mk hr1
 have HC1 := Aside0.mk hc1
 clear hr1 hc1
 have HB := Aside0.mk (Below.refl w.heap.size w)
 have H : (impl_FreeJudges.l0 k l1 (([] : List Int)) l0 (l0.length : Int) 0) = some r := h
 clear h
 obtain ⟨y112, hy112⟩ : ∃ y_ : List Int, y_ = (([] : List Int)) := ⟨_, rfl⟩
 replace H : (impl_FreeJudges.l0 k l1 y112 l0 (l0.length : Int) 0) = some r := by first | (rw [hy112]; with_reducible exact H) | (have H2_ := (Option.bind_some _ _).symm.trans H; rw [hy112]; with_reducible exact H2_) | (have H2_ := (Option.bind_some _ _).symm.trans H; with_reducible exact H2_) | with_reducible exact H | (rw [hy112]; exact H) | exact H
 have Ny112 := Aside0.mk hy112
 clear hy112
 have H' := Aside0.mk H
 clear H
 go_enter Try.func17, Try.ntmps17
 go_wp2_with (first | ((with_reducible refine gate_dst (N := 8) rfl ?_); refine Kd.R_lit (Kd.int .i64) _ 3 ?hg (N := 8) ?hd (xs := ([] : List Int)) (inner := []) (ok := fun _ => True) (okp := fun _ => True) ?hr ?hp (fun _ hk => hk) trivial (Below.refl _ _) (Nat.le_refl _) (by simp) ?_; (case hd => rfl); (case hg => rfl); (case hr => first | (go_simp; done) | (go_simp; rfl)); (case hp => exact (Reps.none _ _)); intro v113 w3 ho4 hb hg_ hnew_; clear hg_ hnew_; (first | rw [← Ny112.out] at ho4 | (simp only [Int.reduceToNat] at ho4; rw [← Ny112.out] at ho4)); replace HO114 := Aside0.mk (Kd.R_lower ho4 (below_size (by repeat (first | (with_reducible first | exact HB.out | apply bA | apply bN | apply bD) | exact HB.out)))); replace HB := Aside0.mk (below_step (by repeat (first | (with_reducible first | exact HB.out | apply bA | apply bN | apply bD) | exact HB.out)) hb); clear hb ho4))
 go_loopg [5, 11] k (fun kq v5 v11 w' => ∃ (x5_1 : List Int) (x11_1 : Int), v11 = .int .i64 x11_1 ∧ Aside0 (impl_FreeJudges.l0 kq l1 x5_1 l0 (l0.length : Int) x11_1 = some r) ∧ Aside0 (kq ≤ k) ∧ Aside0 (Kd.R (Kd.int .i64) 3 w' w.heap.size (fun _ => True) v5 x5_1) ∧ Aside0 (Below w.heap.size w w'))
 case atStart => exact ⟨(y112), (0), (by first | rfl | (simp; done) | (simp [*]; done)), H', ⟨Nat.le_refl _⟩, ⟨by (with_reducible repeat (first | apply rA | apply rN | apply rD)); exact HO114.out⟩, ⟨by repeat (first | (with_reducible first | exact HB.out | apply bA | apply bN | apply bD) | exact HB.out)⟩⟩
 case round =>
  clear H'
  try clear c1
  try clear p2
  obtain ⟨x5_1, x11_1, rfl, HA, HK1, HO_5, HB⟩ := hrel
  cases gk with
  | zero => exact absurd HA.out (by simp [impl_FreeJudges.l0])
  | succ k1 =>
   have H := HA.out
   clear HA
   simp only [impl_FreeJudges.l0] at H
   by_cases c5 : x11_1 < (l0.length : Int)
   ·
    rw [if_pos c5] at H
    have c5b0 : decide (x11_1 < (l0.length : Int)) = true := decide_eq_true c5
    clear c5
    by_cases c6 : 0 ≤ x11_1
    ·
     rw [if_pos c6] at H
     have c6b0 : decide (0 ≤ x11_1) = true := decide_eq_true c6
     clear c6
     by_cases c7 : x11_1 < (l0.length : Int)
     ·
      rw [if_pos c7] at H
      have c7b0 : decide (x11_1 < (l0.length : Int)) = true := decide_eq_true c7
      clear c7
      replace H := Option.bind_eq_some_iff.mp H
      obtain ⟨t117, A80, H⟩ := H
      replace H : (if t117 = true then (impl_FreeJudges.l0 k1 l1 x5_1 l0 (l0.length : Int) (wrap64 (x11_1 + 1))) else (if x5_1.length < 17592186044416 then (impl_FreeJudges.l0 k1 l1 (x5_1 ++ [(rd_T46 l0 x11_1).f0]) l0 (l0.length : Int) (wrap64 (x11_1 + 1))) else (none))) = some r := H
      have A8 := Aside0.mk A80
      clear A80
      by_cases c9 : t117 = true
      ·
       subst c9
       have H1 : (impl_FreeJudges.l0 k1 l1 x5_1 l0 (l0.length : Int) (wrap64 (x11_1 + 1))) = some r := by rw [if_pos rfl] at H; exact H
       clear H
       have H := H1
       clear H1
       have H' := Aside0.mk H
       clear H
       have p115 : 0 ≤ (x11_1 : Int) := od (by assumption)
       have q115 : x11_1 < (l0.length : Int) := od (by assumption)
       obtain ⟨ad115, A115_2, c115_2, e115, hx115_0, hx115_1, hx115_2, hl115_2, hi115_2⟩ := at_T46 HR0.out x11_1 p115 q115
       cases e115
       replace hx115_0 := (HB.out.cell (bl w _ hx115_0)).trans hx115_0
       replace hx115_1 := (HB.out.cell (bl w _ hx115_1)).trans hx115_1
       replace hx115_2 := (HB.out.cell (bl w _ hx115_2)).trans hx115_2
       have HR115_2 := Aside0.mk hi115_2
       have HC115_2 := Aside0.mk hl115_2
       clear hi115_2 hl115_2
       replace p115 := eq_true p115
       replace q115 := eq_true q115
       go_wp2_with (first | ((with_reducible refine gate_dst (N := 7) rfl ?_); refine box_event ?hg (N := 7) ?hd (cs := #[.int .i64 0, .int .i64 0, .slice none 0 0]) (t := 46) ?hr ?_; (case hd => rfl); (case hg => rfl); (case hr => first | (go_simp; done) | (go_simp; rfl)); intro gb116 hg w10 hbox hb; have n0_ := Aside0.mk (Kd.R_below (by (with_reducible repeat (first | apply rA | apply rN | apply rD)); exact HO_5.out) hb); have n1_ := Aside0.mk (below_step (by repeat (first | (with_reducible first | exact HB.out | apply bA | apply bN | apply bD) | exact HB.out)) hb); have n2_ := Aside0.mk (hbox); have n3_ := Aside0.mk ((by rw [hg]; exact (below_size (by repeat (first | (with_reducible first | exact HB.out | apply bA | apply bN | apply bD) | exact HB.out))) : w.heap.size ≤ gb116)); have n4_ := Aside0.mk ((by rw [hg]; exact (below_size (by repeat (first | (with_reducible first | exact HB.out | apply bA | apply bN | apply bD) | exact HB.out))) : w.heap.size ≤ gb116)); clear HO_5; clear HB; have HO_5 := n0_; have HB := n1_; have BK116 := n2_; have GW116 := n3_; have GE116 := n4_; clear n0_ n1_ n2_ n3_ n4_; clear hb hbox hg; have hcz11_0 : w10.cell? ⟨gb116, 0, none⟩ = some (.int .i64 0) := (blk_cell BK116.out 0).trans rfl; have hcz11_1 : w10.cell? ⟨gb116, 1, none⟩ = some (.int .i64 0) := (blk_cell BK116.out 1).trans rfl; have hcz11_2 : w10.cell? ⟨gb116, 2, none⟩ = some (.slice none 0 0) := (blk_cell BK116.out 2).trans rfl; have hfz11_0 := blk_frozen BK116.out 0; have hfz11_1 := blk_frozen BK116.out 1; have hfz11_2 := blk_frozen BK116.out 2) | ((with_reducible refine gate_callee (f := 59) rfl ?_); refine goesL_ (some 18) rfl rfl Try.func59 (by kernel_rfl) rfl #[.slice A1 l1.length c1, .int .i64 ((rd_T46 l0 x11_1).f0)] rfl (by (try simp only [Y1, Y2, Y3]); first | done | rfl | (simp only [Y4, Y5]; rfl)) ?_; (with_reducible refine (slices_Contains_int_int.calls k1 _ _ l1 ((rd_T46 l0 x11_1).f0) true _ ?side1 ?side2 A8.out).mono ?_); (case side1 => exact Kd.C_below HR1.out (by repeat (first | (with_reducible first | exact HB.out | apply bA | apply bN | apply bD | refine below_set ?_ GE116.out) | exact HB.out))); (case side2 => exact HC1.out); rintro e w' ⟨rfl, ⟨nd, rfl⟩⟩; refine ⟨_, rfl, ?_⟩))
       go_roundg k1
       case measure => have := HK1.out; omega
       case rel => exact ⟨(x5_1), (wrap64 (x11_1 + 1)), (by first | rfl | (simp; done) | (simp [*]; done)), H', ⟨by have := HK1.out; omega⟩, ⟨by (with_reducible repeat (first | apply rA | apply rN | apply rD)); exact Kd.R_mono (Kd.R_far (p := ⟨gb116, 2, none⟩) (Kd.R_far (p := ⟨gb116, 1, none⟩) (Kd.R_far (p := ⟨gb116, 0, none⟩) (Kd.R_types HO_5.out BK116.out (by decide)) (fun _ hk => hk.2) (.int .i64 ((rd_T46 l0 x11_1).f0))) (fun _ hk => hk.2) (.int .i64 ((rd_T46 l0 x11_1).f1))) (fun _ hk => hk.2) (.slice A115_2 ((rd_T46 l0 x11_1).f2).length c115_2)) (fun _ hk => trivial)⟩, ⟨by repeat (first | (with_reducible first | exact HB.out | apply bA | apply bN | apply bD | refine below_set ?_ GE116.out) | exact HB.out)⟩⟩
      ·
       replace c9 := Bool.eq_false_iff.mpr c9
       subst c9
       have H1 : (if x5_1.length < 17592186044416 then (impl_FreeJudges.l0 k1 l1 (x5_1 ++ [(rd_T46 l0 x11_1).f0]) l0 (l0.length : Int) (wrap64 (x11_1 + 1))) else (none)) = some r := by rw [if_neg (show ¬ (false = true) by decide)] at H; exact H
       clear H
       have H := H1
       clear H1
       by_cases c12 : x5_1.length < 17592186044416
       ·
        rw [if_pos c12] at H
        have LMc12 := Aside0.mk c12
        clear c12
        obtain ⟨y118, hy118⟩ : ∃ y_ : List Int, y_ = (x5_1 ++ [(rd_T46 l0 x11_1).f0]) := ⟨_, rfl⟩
        replace H : (impl_FreeJudges.l0 k1 l1 y118 l0 (l0.length : Int) (wrap64 (x11_1 + 1))) = some r := by first | (rw [hy118]; with_reducible exact H) | (have H2_ := (Option.bind_some _ _).symm.trans H; rw [hy118]; with_reducible exact H2_) | (have H2_ := (Option.bind_some _ _).symm.trans H; with_reducible exact H2_) | with_reducible exact H | (rw [hy118]; exact H) | exact H
        have Ny118 := Aside0.mk hy118
        clear hy118
        have H' := Aside0.mk H
        clear H
        have p115 : 0 ≤ (x11_1 : Int) := od (by assumption)
        have q115 : x11_1 < (l0.length : Int) := od (by assumption)
        obtain ⟨ad115, A115_2, c115_2, e115, hx115_0, hx115_1, hx115_2, hl115_2, hi115_2⟩ := at_T46 HR0.out x11_1 p115 q115
        cases e115
        replace hx115_0 := (HB.out.cell (bl w _ hx115_0)).trans hx115_0
        replace hx115_1 := (HB.out.cell (bl w _ hx115_1)).trans hx115_1
        replace hx115_2 := (HB.out.cell (bl w _ hx115_2)).trans hx115_2
        have HR115_2 := Aside0.mk hi115_2
        have HC115_2 := Aside0.mk hl115_2
        clear hi115_2 hl115_2
        replace p115 := eq_true p115
        replace q115 := eq_true q115
        go_wp2_with (first | ((with_reducible refine gate_dst (N := 7) rfl ?_); refine box_event ?hg (N := 7) ?hd (cs := #[.int .i64 0, .int .i64 0, .slice none 0 0]) (t := 46) ?hr ?_; (case hd => rfl); (case hg => rfl); (case hr => first | (go_simp; done) | (go_simp; rfl)); intro gb116 hg w13 hbox hb; have n0_ := Aside0.mk (Kd.R_below (by (with_reducible repeat (first | apply rA | apply rN | apply rD)); exact HO_5.out) hb); have n1_ := Aside0.mk (below_step (by repeat (first | (with_reducible first | exact HB.out | apply bA | apply bN | apply bD) | exact HB.out)) hb); have n2_ := Aside0.mk (hbox); have n3_ := Aside0.mk ((by rw [hg]; exact (below_size (by repeat (first | (with_reducible first | exact HB.out | apply bA | apply bN | apply bD) | exact HB.out))) : w.heap.size ≤ gb116)); have n4_ := Aside0.mk ((by rw [hg]; exact (below_size (by repeat (first | (with_reducible first | exact HB.out | apply bA | apply bN | apply bD) | exact HB.out))) : w.heap.size ≤ gb116)); clear HO_5; clear HB; have HO_5 := n0_; have HB := n1_; have BK116 := n2_; have GW116 := n3_; have GE116 := n4_; clear n0_ n1_ n2_ n3_ n4_; clear hb hbox hg; have hcz14_0 : w13.cell? ⟨gb116, 0, none⟩ = some (.int .i64 0) := (blk_cell BK116.out 0).trans rfl; have hcz14_1 : w13.cell? ⟨gb116, 1, none⟩ = some (.int .i64 0) := (blk_cell BK116.out 1).trans rfl; have hcz14_2 : w13.cell? ⟨gb116, 2, none⟩ = some (.slice none 0 0) := (blk_cell BK116.out 2).trans rfl; have hfz14_0 := blk_frozen BK116.out 0; have hfz14_1 := blk_frozen BK116.out 1; have hfz14_2 := blk_frozen BK116.out 2) | ((with_reducible refine gate_callee (f := 59) rfl ?_); refine goesL_ (some 18) rfl rfl Try.func59 (by kernel_rfl) rfl #[.slice A1 l1.length c1, .int .i64 ((rd_T46 l0 x11_1).f0)] rfl (by (try simp only [Y1, Y2, Y3]); first | done | rfl | (simp only [Y4, Y5]; rfl)) ?_; (with_reducible refine (slices_Contains_int_int.calls k1 _ _ l1 ((rd_T46 l0 x11_1).f0) false _ ?side1 ?side2 A8.out).mono ?_); (case side1 => exact Kd.C_below HR1.out (by repeat (first | (with_reducible first | exact HB.out | apply bA | apply bN | apply bD | refine below_set ?_ GE116.out) | exact HB.out))); (case side2 => exact HC1.out); rintro e w' ⟨rfl, ⟨nd, rfl⟩⟩; refine ⟨_, rfl, ?_⟩) | ((with_reducible refine gate_builtin (b := .append) (xs := #[.tmp 20, .tmp 23]) rfl ?_); at_builtin; refine Kd.R_append (Kd.int .i64) (w0 := w) w.heap.size rfl (.tmp 20) (.tmp 23) 29 3 (.int .i64 0) 8 rfl Try.underlying29 info3 rfl (by decide) (by omega) u5 x5_1 ((rd_T46 l0 x11_1).f0) [.int .i64 ((rd_T46 l0 x11_1).f0)] (fun _ => True) (fun _ => False) rfl (by first | (go_simp; done) | (go_simp; rfl)) ?aP (fun _ hk => hk.elim) ?aF ?aO ?aB ?aS ?aL ?_; (case aP => exact rfl); (case aB => exact (by repeat (first | (with_reducible first | exact HB.out | apply bA | apply bN | apply bD | refine below_set ?_ GE116.out) | exact HB.out))); (case aF => exact (fun _ _ => trivial)); (case aO => exact (by (with_reducible repeat (first | apply rA | apply rN | apply rD)); exact Kd.R_mono (Kd.R_far (p := ⟨gb116, 2, none⟩) (Kd.R_far (p := ⟨gb116, 1, none⟩) (Kd.R_far (p := ⟨gb116, 0, none⟩) (Kd.R_types HO_5.out BK116.out (by decide)) (fun _ hk => hk.2) (.int .i64 ((rd_T46 l0 x11_1).f0))) (fun _ hk => hk.2) (.int .i64 ((rd_T46 l0 x11_1).f1))) (fun _ hk => hk.2) (.slice A115_2 ((rd_T46 l0 x11_1).f2).length c115_2)) (fun _ hk => trivial))); (case aS => exact (below_size (by repeat (first | (with_reducible first | exact HB.out | apply bA | apply bN | apply bD | refine below_set ?_ GE116.out) | exact HB.out)))); (case aL => have := LMc12.out; omega); intro v119 w15 ho hb hg hat; rw [← Ny118.out] at ho; replace BK116 := Aside0.mk (blk_grown (g := gb116) (o := .cells #[.int .i64 ((rd_T46 l0 x11_1).f0), .int .i64 ((rd_T46 l0 x11_1).f1), .slice A115_2 ((rd_T46 l0 x11_1).f2).length c115_2] 46 (0, 0)) (by (with_reducible repeat (first | refine kN ?_ _ | refine kD ?_ | refine kA ?_ _)); refine blk_put (cs := #[.int .i64 ((rd_T46 l0 x11_1).f0), .int .i64 ((rd_T46 l0 x11_1).f1), .slice none 0 0]) ?_ 2 _ rfl; (with_reducible repeat (first | refine kN ?_ _ | refine kD ?_ | refine kA ?_ _)); refine blk_put (cs := #[.int .i64 ((rd_T46 l0 x11_1).f0), .int .i64 0, .slice none 0 0]) ?_ 1 _ rfl; (with_reducible repeat (first | refine kN ?_ _ | refine kD ?_ | refine kA ?_ _)); refine blk_put (cs := #[.int .i64 0, .int .i64 0, .slice none 0 0]) ?_ 0 _ rfl; (with_reducible repeat (first | refine kN ?_ _ | refine kD ?_ | refine kA ?_ _)); exact BK116.out) hg (Kd.R_ne HO_5.out BK116.out (by decide))); replace HB := Aside0.mk (hb); replace HO120 := Aside0.mk (ho); clear HO_5; clear ho hb hg hat))
        go_roundg k1
        case measure => have := HK1.out; omega
        case rel => exact ⟨(y118), (wrap64 (x11_1 + 1)), (by first | rfl | (simp; done) | (simp [*]; done)), H', ⟨by have := HK1.out; omega⟩, ⟨by (with_reducible repeat (first | apply rA | apply rN | apply rD)); exact HO120.out⟩, ⟨by repeat (first | (with_reducible first | exact HB.out | apply bA | apply bN | apply bD | refine below_set ?_ GE116.out) | exact HB.out)⟩⟩
       ·
        rw [if_neg c12] at H
        exact absurd H (by simp)
     ·
      rw [if_neg c7] at H
      exact absurd H (by simp)
    ·
     rw [if_neg c6] at H
     exact absurd H (by simp)
   ·
    rw [if_neg c5] at H
    have c5b0 : decide (x11_1 < (l0.length : Int)) = false := decide_eq_false c5
    clear c5
    obtain rfl := Option.some.inj H
    go_wp2
    go_ret
    exact ⟨_, by first | rfl | (simp [*, errW_none, errW_some] <;> rfl), by (with_reducible repeat (first | apply rA | apply rN | apply rD)); exact HO_5.out, by repeat (first | (with_reducible first | exact HB.out | apply bA | apply bN | apply bD) | exact HB.out)⟩
theorem slices_Clone_int_int_nil {w : World} {a : Option Addr} {n c n' c' : Nat} : (binOp .eql 29 (.slice a n c) (.slice none n' c')).run Try.prog w = .ok (.bool a.isNone) w := by
  have e : ∀ d, (Op.equalIn (d + 1) 29 (.slice a n c) (.slice none n' c')).run Try.prog w = .ok a.isNone w := by
    intro d
    cases a <;> simp [Op.equalIn, run_underlying Try.underlying29]
  simp only [binOp]
  simp [Op.equal, Op.maxDepth, e 9999]
theorem slices_Clone_int_int_alloc {W : World} {a : Addr} {v : Value} (o : Obj) (h : W.cell? a = some v) : (W.alloc o).cell? a = some v := by
  have hlt : a.block < W.heap.size := World.block_lt_of_cell? W a h
  rw [← h]
  simp only [World.cell?, World.alloc, Array.getElem?_push, Nat.ne_of_lt hlt, if_false]
def slices_Clone_int_int.f (l0 : List Int) : Option (List Int) := if l0.length < 17592186044416 then some l0 else none
set_option maxHeartbeats 2000000 in
set_option maxRecDepth 100000 in
theorem slices_Clone_int_int.calls (A0 : Option Addr) (c0 : Nat) (l0 : List Int) (r : List Int) (w : World) (hr0 : Kd.C (Kd.int .i64) w A0 l0.length l0) (hc0 : l0.length ≤ c0) (h : slices_Clone_int_int.f l0 = some r) :
  Calls Try.prog 90 #[.slice A0 l0.length c0] w fun e w' => ∃ v0_, e = .returned v0_ ∧ Kd.R (Kd.int .i64) 3 w' w.heap.size (fun _ => True) v0_ r ∧ Below w.heap.size w w' := by
 have hf : l0.length < 17592186044416 ∧ l0 = r := by
  unfold slices_Clone_int_int.f at h
  split at h
  ·
   exact ⟨by assumption, Option.some.inj h⟩
  ·
   cases h
 obtain ⟨hlen, rfl⟩ := hf
 clear h
 have q41 : ∀ (w : World) (a : Option Addr) (n c n' c' : Nat), (binOp .eql 29 (.slice a n c) (.slice none n' c')).run Try.prog w = .ok (.bool a.isNone) w := fun w a n c n' c' => slices_Clone_int_int_nil
 have u41 : ∀ w, Sem.run Try.prog (underlying 29) w = .ok (TypeDesc.slice 3) w := run_underlying Try.underlying29
 obtain ⟨i0, hi, hzz⟩ := Option.map_eq_some_iff.1 (show (Try.prog.info? 3).map (fun i => (i.zero, i.size, i.bytes)) = some (some (.int .i64 0), 1, 8) by kernel_rfl)
 simp only [Prod.mk.injEq] at hzz
 obtain ⟨hz0, hz1, hz2⟩ := hzz
 cases A0 with
 | none =>
  have hl0 : l0 = [] := by
   rcases Nat.eq_zero_or_pos l0.length with h0 | h0
   ·
    exact List.eq_nil_of_length_eq_zero h0
   ·
    obtain ⟨ad, e, _⟩ := hr0.2.2 h0
    cases e
  subst hl0
  clear hr0 hc0
  go_enter Try.func90, Try.ntmps90
  go_wp2
  go_ret
  exact ⟨_, rfl, Kd.R_nil _ _ _ _ _, Below.refl _ _⟩
 | some ad =>
  have HC := Aside0.mk hr0
  have HL := Aside0.mk hlen
  clear hr0 hc0 hlen
  go_enter Try.func90, Try.ntmps90
  go_wp2_with (at_builtin; refine wpList_append_own _ rfl _ _ 29 rfl w.heap.size 3 i0 (.int .i64 0) 1 8 Try.underlying29 hi hz0 hz1 hz2 rfl (by decide) _ _ _ rfl (World.ownsRow_made w #[] 0 (Nat.le_refl _) (Nat.zero_le _) rfl) ad l0.length c0 (l0.map (Value.int .i64)) rfl ?qc1 ?qc2 ?qc3 ?qc4 ?qc5 ?qc6 ?_)
  case qc1 => simp
  case qc2 =>
   intro j u hj
   refine slices_Clone_int_int_alloc _ ?_
   rw [List.getElem?_map] at hj
   obtain ⟨x, hx, rfl⟩ := Option.map_eq_some_iff.1 hj
   have hjl : j < l0.length := (List.getElem?_eq_some_iff.1 hx).1
   obtain ⟨ad', e, hc⟩ := HC.out.2.2 (by omega)
   cases e
   obtain ⟨c, hc1, hc2, hc3⟩ := hc j x hx
   have hc2' : c = [Value.int .i64 x] := hc2
   subst hc2'
   have := hc3 0 (.int .i64 x) rfl
   have e1 : (Kd.int .i64).sz = 1 := rfl
   simpa [e1] using this
  case qc3 => intro u hu; obtain ⟨x, _, rfl⟩ := List.mem_map.1 hu; rfl
  case qc4 => have := HL.out; unfold maxLen; omega
  case qc5 => have := HL.out; omega
  case qc6 => simp
  intro v' w1 hown hgrow hnil
  have HO := Aside0.mk hown
  have HG := Aside0.mk hgrow
  clear hown hgrow hnil
  go_wp2
  go_ret
  refine ⟨v', rfl, Kd.R_of_own (by simpa [encs] using HO.out) (fun _ _ => trivial), ?_⟩
  exact ((Below.refl _ w).alloc (Nat.le_refl _) _).grown HG.out (by simp) (by intro k hk; simp [Value.ownBlock] at hk; omega)
mutual
def impl_seated.l0 : Nat → List (S78) → List (S46) → List (S48) → List Int → List (S46) → Int → Int → Option (List Int × Bool)
  | 0, _, _, _, _, _, _, _ => none
  | k + 1, x0, x1, x2, x3, x18, x19, x20 => if x20 < x19 then (if 0 ≤ x20 then (if x20 < (x18.length : Int) then ((slices_Contains_int_int.f k x3 ((rd_T46 x18 x20).f0)).bind fun t139 => (if t139 = true then (impl_seated.j1 k x0 x1 x2 x3 x18 x19 x20 true ((rd_T46 x18 x20).f0) ((rd_T46 x18 x20).f1) ((rd_T46 x18 x20).f2)) else (if 0 < (x2.length : Int) then ((impl_MayJudge.f k x0 ((rd_T46 x18 x20).f0) ((rd_T46 x18 x20).f1) ((rd_T46 x18 x20).f2) ((rd_T48 x2 0).f0) ((rd_T48 x2 0).f1)).bind fun t141 => (impl_seated.j1 k x0 x1 x2 x3 x18 x19 x20 (!t141) ((rd_T46 x18 x20).f0) ((rd_T46 x18 x20).f1) ((rd_T46 x18 x20).f2))) else (none)))) else (none)) else (none)) else (some ((([] : List Int)), false))
def impl_seated.j1 : Nat → List (S78) → List (S46) → List (S48) → List Int → List (S46) → Int → Int → Bool → Int → Int → List Int → Option (List Int × Bool)
  | 0, _, _, _, _, _, _, _, _, _, _, _ => none
  | k + 1, x0, x1, x2, x3, x18, x19, x20, x36, x139000, x139001, x139002 => if x36 = true then (impl_seated.l0 k x0 x1 x2 x3 x18 x19 (wrap64 (x20 + 1))) else (if 1 ≤ (x2.length : Int) then ((slices_Clone_int_int.f x3).bind fun t146 => ((some (([x139000] : List Int) : List Int)).bind fun y149 => (if t146.length + y149.length < 17592186044416 then ((impl_seated.f k x0 x1 (x2.drop 1) (t146 ++ y149)).bind fun bt155 => (if bt155.2 = true then ((some (([x139000] : List Int) : List Int)).bind fun y159 => (if y159.length + bt155.1.length < 17592186044416 then (some ((y159 ++ bt155.1), true)) else (none))) else (impl_seated.l0 k x0 x1 x2 x3 x18 x19 (wrap64 (x20 + 1))))) else (none)))) else (none))
def impl_seated.f : Nat → List (S78) → List (S46) → List (S48) → List Int → Option (List Int × Bool)
  | 0, _, _, _, _ => none
  | k + 1, l0, l1, l2, l3 => if (l2.length : Int) = 0 then (some ((([] : List Int)), true)) else (impl_seated.l0 k l0 l1 l2 l3 l1 (l1.length : Int) 0)
end
def impl_seated.T6 : Bool × List (List Nat × List Nat) := (true, [([], []), ([], []), ([1], [1]), ([0, 2], [0, 2]), ([3, 3], [3]), ([4], [4]), ([4], [4]), ([4], [4]), ([7, 4], [4, 7]), ([8, 4], [4, 8]), ([5, 6, 9, 4, 4], [4, 5, 6, 9]), ([10, 4], [4, 10]), ([4, 11], [4, 11])])
def impl_seated.B6 : List Nat := [0, 0, 2, 7, 15, 31, 31, 31, 159, 415, 1023, 2047, 4095]
theorem impl_seated.tab6 : rtab .any (opsOf Try.f71 6) = impl_seated.T6 := by kernel_rfl
theorem impl_seated.bits6 : waitsOk impl_seated.T6.2 impl_seated.B6 = true := by kernel_rfl
def impl_seated.T7 : Bool × List (List Nat × List Nat) := (true, [([], []), ([], []), ([], []), ([2], [2]), ([], []), ([4], [4]), ([], []), ([6], [6]), ([7], [7]), ([5, 8, 5], [5, 8]), ([0, 1, 3, 9, 9], [0, 1, 3, 9]), ([10], [10]), ([11], [11]), ([11], [11]), ([12, 10, 0, 1, 2, 3, 4, 5, 6, 7, 8, 9, 10, 11, 12], [12]), ([13, 14, 0, 1, 2, 3, 4, 5, 6, 7, 8, 9, 10, 11, 12, 13, 14], [13])])
def impl_seated.B7 : List Nat := [0, 0, 0, 4, 0, 16, 0, 64, 192, 496, 1023, 2047, 4095, 4095, 8191, 32767]
theorem impl_seated.tab7 : rtab .any (opsOf Try.f71 7) = impl_seated.T7 := by kernel_rfl
theorem impl_seated.bits7 : waitsOk impl_seated.T7.2 impl_seated.B7 = true := by kernel_rfl
set_option maxHeartbeats 8000000 in
set_option maxRecDepth 100000 in
theorem impl_seated.calls (k : Nat) : ∀ (A0 : Option Addr) (c0 : Nat) (l0 : List (S78)) (A1 : Option Addr) (c1 : Nat) (l1 : List (S46)) (A2 : Option Addr) (c2 : Nat) (l2 : List (S48)) (A3 : Option Addr) (c3 : Nat) (l3 : List Int) (r1 : List Int) (r2 : Bool) (w : World) (hr0 : Kd.C k78 w A0 l0.length l0) (hc0 : l0.length ≤ c0) (hr1 : Kd.C k46 w A1 l1.length l1) (hc1 : l1.length ≤ c1) (hr2 : Kd.C k48 w A2 l2.length l2) (hc2 : l2.length ≤ c2) (hr3 : Kd.C (Kd.int .i64) w A3 l3.length l3) (hc3 : l3.length ≤ c3) (h : impl_seated.f k l0 l1 l2 l3 = some (r1, r2)),
  Calls Try.prog 71 #[.slice A0 l0.length c0, .slice A1 l1.length c1, .slice A2 l2.length c2, .slice A3 l3.length c3] w fun e w' => ∃ v0_ : Value, e = .returned (.tuple #[v0_, .bool r2]) ∧ Kd.R (Kd.int .i64) 3 w' w.heap.size (fun _ => True) v0_ r1 ∧ Below w.heap.size w w' := by
 induction k using Nat.strongRecOn with
 | _ k ih =>
 intro A0 c0 l0 A1 c1 l1 A2 c2 l2 A3 c3 l3 r1 r2 w hr0 hc0 hr1 hc1 hr2 hc2 hr3 hc3 h
 cases k with
 | zero => exact absurd h (by simp [impl_seated.f])
 | succ k =>
 simp only [impl_seated.f] at h
 have hu46 := Try.underlying46
 have hu48 := Try.underlying48
 have HR0 := Aside0.mk hr0
 have HC0 := Aside0.mk hc0
 clear hr0 hc0
 have HR1 := Aside0.mk hr1
 have HC1 := Aside0.mk hc1
 clear hr1 hc1
 have HR2 := Aside0.mk hr2
 have HC2 := Aside0.mk hc2
 clear hr2 hc2
 have HR3 := Aside0.mk hr3
 have HC3 := Aside0.mk hc3
 clear hr3 hc3
 have HB := Aside0.mk (Below.refl w.heap.size w)
 have H : (if (l2.length : Int) = 0 then (some ((([] : List Int)), true)) else (impl_seated.l0 k l0 l1 l2 l3 l1 (l1.length : Int) 0)) = some (r1, r2) := h
 clear h
 by_cases c5 : (l2.length : Int) = 0
 rotate_left
 ·
  rw [if_neg c5] at H
  have c5b0 : ((l2.length : Int) == 0) = false := beq_eq_false_iff_ne.mpr c5
  have c5b1 : ((l2.length : Int) != 0) = true := bne_iff_ne.mpr c5
  have c5b2 : ¬ (l2 = []) := fun h_ => c5 (by rw [h_]; rfl)
  have H' := Aside0.mk H
  clear H
  go_enter Try.func71, Try.ntmps71
  go_wp2
  go_loopg [20] k (fun kq v20 w' => ∃ (x20_1 : Int), v20 = .int .i64 x20_1 ∧ Aside0 (impl_seated.l0 kq l0 l1 l2 l3 l1 (l1.length : Int) x20_1 = some (r1, r2)) ∧ Aside0 (kq ≤ k) ∧ Aside0 (Below w.heap.size w w'))
  case atStart => exact ⟨(0), (by first | rfl | (simp; done) | (simp [*]; done)), H', ⟨Nat.le_refl _⟩, ⟨by repeat (first | (with_reducible first | exact HB.out | apply bA | apply bN | apply bD) | exact HB.out)⟩⟩
  case round =>
   clear H'
   try clear c1
   try clear c2
   try clear p2
   try clear c3
   try clear c5
   try clear c5b0
   try clear c5b1
   try clear c5b2
   try clear c7
   obtain ⟨x20_1, rfl, HA, HK1, HB⟩ := hrel
   cases gk with
   | zero => exact absurd HA.out (by simp [impl_seated.l0])
   | succ k1 =>
    have H := HA.out
    clear HA
    simp only [impl_seated.l0] at H
    by_cases c8 : x20_1 < (l1.length : Int)
    rotate_left
    ·
     rw [if_neg c8] at H
     have c8b0 : decide (x20_1 < (l1.length : Int)) = false := decide_eq_false c8
     clear c8
     obtain ⟨y134, hy134⟩ : ∃ y_ : List Int, y_ = (([] : List Int)) := ⟨_, rfl⟩
     replace H : (some (y134, false)) = some (r1, r2) := by first | (rw [hy134]; with_reducible exact H) | (have H2_ := (Option.bind_some _ _).symm.trans H; rw [hy134]; with_reducible exact H2_) | (have H2_ := (Option.bind_some _ _).symm.trans H; with_reducible exact H2_) | with_reducible exact H | (rw [hy134]; exact H) | exact H
     have Ny134 := Aside0.mk hy134
     clear hy134
     simp only [Option.some.injEq, Prod.mk.injEq] at H
     obtain ⟨rfl, rfl⟩ := H
     go_wp2_with (first | ((with_reducible refine gate_dst (N := 58) rfl ?_); refine Kd.R_lit (Kd.int .i64) _ 3 ?hg (N := 58) ?hd (xs := ([] : List Int)) (inner := []) (ok := fun _ => True) (okp := fun _ => True) ?hr ?hp (fun _ hk => hk) trivial (Below.refl _ _) (Nat.le_refl _) (by simp) ?_; (case hd => rfl); (case hg => rfl); (case hr => first | (go_simp; done) | (go_simp; rfl)); (case hp => exact (Reps.none _ _)); intro v135 w55 ho56 hb hg_ hnew_; clear hg_ hnew_; (first | rw [← Ny134.out] at ho56 | (simp only [Int.reduceToNat] at ho56; rw [← Ny134.out] at ho56)); replace HO136 := Aside0.mk (Kd.R_lower ho56 (below_size (by repeat (first | (with_reducible first | exact HB.out | apply bA | apply bN | apply bD) | exact HB.out)))); replace HB := Aside0.mk (below_step (by repeat (first | (with_reducible first | exact HB.out | apply bA | apply bN | apply bD) | exact HB.out)) hb); clear hb ho56))
     go_ret2
     exact ⟨_, by first | rfl | (simp [*, errW_none, errW_some] <;> rfl), by (with_reducible repeat (first | apply rA | apply rN | apply rD)); exact HO136.out, by repeat (first | (with_reducible first | exact HB.out | apply bA | apply bN | apply bD) | exact HB.out)⟩

    rw [if_pos c8] at H
    have c8b0 : decide (x20_1 < (l1.length : Int)) = true := decide_eq_true c8
    clear c8
    by_cases c9 : 0 ≤ x20_1
    rotate_left
    ·
     rw [if_neg c9] at H
     exact absurd H (by simp)
    rw [if_pos c9] at H
    have c9b0 : decide (0 ≤ x20_1) = true := decide_eq_true c9
    clear c9
    by_cases c10 : x20_1 < (l1.length : Int)
    rotate_left
    ·
     rw [if_neg c10] at H
     exact absurd H (by simp)
    rw [if_pos c10] at H
    have c10b0 : decide (x20_1 < (l1.length : Int)) = true := decide_eq_true c10
    clear c10
    have HC11 := Aside0.mk H
    clear H
    have p137 : 0 ≤ (x20_1 : Int) := od (by assumption)
    have q137 : x20_1 < (l1.length : Int) := od (by assumption)
    obtain ⟨ad137, A137_2, c137_2, e137, hx137_0, hx137_1, hx137_2, hl137_2, hi137_2⟩ := at_T46 HR1.out x20_1 p137 q137
    cases e137
    replace hx137_0 := (HB.out.cell (bl w _ hx137_0)).trans hx137_0
    replace hx137_1 := (HB.out.cell (bl w _ hx137_1)).trans hx137_1
    replace hx137_2 := (HB.out.cell (bl w _ hx137_2)).trans hx137_2
    have HR137_2 := Aside0.mk hi137_2
    have HC137_2 := Aside0.mk hl137_2
    clear hi137_2 hl137_2
    replace p137 := eq_true p137
    replace q137 := eq_true q137
    go_upto_region 6 with (first | ((with_reducible refine gate_dst (N := 11) rfl ?_); refine box_event ?hg (N := 11) ?hd (cs := #[.int .i64 0, .int .i64 0, .slice none 0 0]) (t := 46) ?hr ?_; (case hd => rfl); (case hg => rfl); (case hr => first | (go_simp; done) | (go_simp; rfl)); intro gb138 hg w12 hbox hb; have n0_ := Aside0.mk (below_step (by repeat (first | (with_reducible first | exact HB.out | apply bA | apply bN | apply bD) | exact HB.out)) hb); have n1_ := Aside0.mk (hbox); have n2_ := Aside0.mk ((by rw [hg]; exact (below_size (by repeat (first | (with_reducible first | exact HB.out | apply bA | apply bN | apply bD) | exact HB.out))) : w.heap.size ≤ gb138)); have n3_ := Aside0.mk ((by rw [hg]; exact (below_size (by repeat (first | (with_reducible first | exact HB.out | apply bA | apply bN | apply bD) | exact HB.out))) : w.heap.size ≤ gb138)); clear HB; have HB := n0_; have BK138 := n1_; have GW138 := n2_; have GE138 := n3_; clear n0_ n1_ n2_ n3_; clear hb hbox hg; have hcz13_0 : w12.cell? ⟨gb138, 0, none⟩ = some (.int .i64 0) := (blk_cell BK138.out 0).trans rfl; have hcz13_1 : w12.cell? ⟨gb138, 1, none⟩ = some (.int .i64 0) := (blk_cell BK138.out 1).trans rfl; have hcz13_2 : w12.cell? ⟨gb138, 2, none⟩ = some (.slice none 0 0) := (blk_cell BK138.out 2).trans rfl; have hfz13_0 := blk_frozen BK138.out 0; have hfz13_1 := blk_frozen BK138.out 1; have hfz13_2 := blk_frozen BK138.out 2))
    (try simp only [Act.put, Z1, Z2, Z3])
    go_cut [36] (fun v36 wc => ∃ (kq : Nat) (x36_10 : Bool), v36 = .bool x36_10 ∧ Aside0 (impl_seated.j1 kq l0 l1 l2 l3 l1 (l1.length : Int) x20_1 x36_10 ((rd_T46 l1 x20_1).f0) ((rd_T46 l1 x20_1).f1) ((rd_T46 l1 x20_1).f2) = some (r1, r2)) ∧ Aside0 (kq ≤ k1) ∧ Aside0 (wc.heap[gb138]? = some (.cells #[.int .i64 ((rd_T46 l1 x20_1).f0), .int .i64 ((rd_T46 l1 x20_1).f1), (.slice A137_2 ((rd_T46 l1 x20_1).f2).length c137_2)] 46 (0, 0))) ∧ Aside0 (Below w.heap.size w wc))
    case first =>
     have H := HC11.out
     clear HC11
     replace H := Option.bind_eq_some_iff.mp H
     obtain ⟨t139, A140, H⟩ := H
     replace H : (if t139 = true then (impl_seated.j1 k1 l0 l1 l2 l3 l1 (l1.length : Int) x20_1 true ((rd_T46 l1 x20_1).f0) ((rd_T46 l1 x20_1).f1) ((rd_T46 l1 x20_1).f2)) else (if 0 < (l2.length : Int) then ((impl_MayJudge.f k1 l0 ((rd_T46 l1 x20_1).f0) ((rd_T46 l1 x20_1).f1) ((rd_T46 l1 x20_1).f2) ((rd_T48 l2 0).f0) ((rd_T48 l2 0).f1)).bind fun t141 => (impl_seated.j1 k1 l0 l1 l2 l3 l1 (l1.length : Int) x20_1 (!t141) ((rd_T46 l1 x20_1).f0) ((rd_T46 l1 x20_1).f1) ((rd_T46 l1 x20_1).f2))) else (none))) = some (r1, r2) := H
     have A14 := Aside0.mk A140
     clear A140
     by_cases c15 : t139 = true
     rotate_left
     ·
      replace c15 := Bool.eq_false_iff.mpr c15
      subst c15
      have H1 : (if 0 < (l2.length : Int) then ((impl_MayJudge.f k1 l0 ((rd_T46 l1 x20_1).f0) ((rd_T46 l1 x20_1).f1) ((rd_T46 l1 x20_1).f2) ((rd_T48 l2 0).f0) ((rd_T48 l2 0).f1)).bind fun t141 => (impl_seated.j1 k1 l0 l1 l2 l3 l1 (l1.length : Int) x20_1 (!t141) ((rd_T46 l1 x20_1).f0) ((rd_T46 l1 x20_1).f1) ((rd_T46 l1 x20_1).f2))) else (none)) = some (r1, r2) := by rw [if_neg (show ¬ (false = true) by decide)] at H; exact H
      clear H
      have H := H1
      clear H1
      by_cases c18 : 0 < (l2.length : Int)
      rotate_left
      ·
       rw [if_neg c18] at H
       exact absurd H (by simp)
      rw [if_pos c18] at H
      have c18b0 : decide (0 < (l2.length : Int)) = true := decide_eq_true c18
      have c18b1 : decide (0 < l2.length) = true := decide_eq_true (by omega)
      clear c18
      (first | rw [c18b0] | (simp only [i64_w, i32_w]; rw [c18b0]) | skip)
      replace H := Option.bind_eq_some_iff.mp H
      obtain ⟨t141, A190, H⟩ := H
      replace H : (impl_seated.j1 k1 l0 l1 l2 l3 l1 (l1.length : Int) x20_1 (!t141) ((rd_T46 l1 x20_1).f0) ((rd_T46 l1 x20_1).f1) ((rd_T46 l1 x20_1).f2)) = some (r1, r2) := H
      have A19 := Aside0.mk A190
      clear A190
      have H' := Aside0.mk H
      clear H
      try go_wp2
      have n0_ : Aside0 ((((w12.setCell ⟨gb138, 0, none⟩ (.int .i64 ((rd_T46 l1 x20_1).f0))).setCell ⟨gb138, 1, none⟩ (.int .i64 ((rd_T46 l1 x20_1).f1))).setCell ⟨gb138, 2, none⟩ (.slice A137_2 ((rd_T46 l1 x20_1).f2).length c137_2)).heap[gb138]? = some (.cells #[.int .i64 ((rd_T46 l1 x20_1).f0), .int .i64 ((rd_T46 l1 x20_1).f1), .slice A137_2 ((rd_T46 l1 x20_1).f2).length c137_2] 46 (0, 0))) := ⟨by (with_reducible repeat (first | refine kN ?_ _ | refine kD ?_ | refine kA ?_ _)); refine blk_put (cs := #[.int .i64 ((rd_T46 l1 x20_1).f0), .int .i64 ((rd_T46 l1 x20_1).f1), .slice none 0 0]) ?_ 2 _ rfl; (with_reducible repeat (first | refine kN ?_ _ | refine kD ?_ | refine kA ?_ _)); refine blk_put (cs := #[.int .i64 ((rd_T46 l1 x20_1).f0), .int .i64 0, .slice none 0 0]) ?_ 1 _ rfl; (with_reducible repeat (first | refine kN ?_ _ | refine kD ?_ | refine kA ?_ _)); refine blk_put (cs := #[.int .i64 0, .int .i64 0, .slice none 0 0]) ?_ 0 _ rfl; (with_reducible repeat (first | refine kN ?_ _ | refine kD ?_ | refine kA ?_ _)); exact BK138.out⟩
      have n1_ : Aside0 (Below w.heap.size w (((w12.setCell ⟨gb138, 0, none⟩ (.int .i64 ((rd_T46 l1 x20_1).f0))).setCell ⟨gb138, 1, none⟩ (.int .i64 ((rd_T46 l1 x20_1).f1))).setCell ⟨gb138, 2, none⟩ (.slice A137_2 ((rd_T46 l1 x20_1).f2).length c137_2))) := ⟨by repeat (first | (with_reducible first | exact HB.out | apply bA | apply bN | apply bD | refine below_set ?_ GE138.out) | exact HB.out)⟩
      (try clear BK138)
      (try clear HB)
      generalize (((w12.setCell ⟨gb138, 0, none⟩ (.int .i64 ((rd_T46 l1 x20_1).f0))).setCell ⟨gb138, 1, none⟩ (.int .i64 ((rd_T46 l1 x20_1).f1))).setCell ⟨gb138, 2, none⟩ (.slice A137_2 ((rd_T46 l1 x20_1).f2).length c137_2)) = w20 at n0_ n1_ ⊢
      have BK138 := n0_
      have HB := n1_
      clear n0_ n1_
      replace BK138 := Aside0.mk (blk_drew BK138.out)
      replace HB := Aside0.mk (below_drew1 HB.out)
      have p140 : 0 ≤ (0 : Int) := (by omega)
      have q140 : 0 < (l2.length : Int) := od (by assumption)
      obtain ⟨ad140, e140, hx140_0, hx140_1⟩ := at_T48 HR2.out 0 p140 q140
      have hw140_1 := hx140_1
      (try rw [show ((0 : Int)).toNat = 0 from rfl] at hw140_1)
      (try rw [show 0 * 2 = 0 from rfl] at hw140_1)
      (try rw [Addr.add_zero'] at hw140_1)
      have hw140_0 := hx140_0
      (try rw [show ((0 : Int)).toNat = 0 from rfl] at hw140_0)
      (try rw [show 0 * 2 = 0 from rfl] at hw140_0)
      (try rw [Addr.add_zero'] at hw140_0)
      cases e140
      have qi140 : (0 < l2.length) = True := eq_true (by omega)
      (try rw [show ((0 : Int)).toNat = 0 from rfl] at hx140_0)
      (try rw [show 0 * 2 = 0 from rfl] at hx140_0)
      (try rw [Addr.add_zero'] at hx140_0)
      (try rw [show ((0 : Int)).toNat = 0 from rfl] at hx140_1)
      (try rw [show 0 * 2 = 0 from rfl] at hx140_1)
      (try rw [Addr.add_zero'] at hx140_1)
      replace hx140_0 := (HB.out.cell (bl w _ hx140_0)).trans hx140_0
      replace hx140_1 := (HB.out.cell (bl w _ hx140_1)).trans hx140_1
      replace p140 := eq_true p140
      replace q140 := eq_true q140
      refine start_ (n := 13) (S := fun w' => w'.cell? ⟨gb138, 0, none⟩ = some (.int .i64 ((rd_T46 l1 x20_1).f0)) ∧ w'.cell? ⟨gb138, 1, none⟩ = some (.int .i64 ((rd_T46 l1 x20_1).f1)) ∧ w'.cell? ⟨gb138, 2, none⟩ = some (.slice A137_2 ((rd_T46 l1 x20_1).f2).length c137_2) ∧ w'.cell? ad140 = some (.int .i64 ((rd_T48 l2 0).f0)) ∧ w'.cell? ⟨ad140.block, ad140.off + 1, none⟩ = some (.int .i64 ((rd_T48 l2 0).f1))) (ds := []) (bv 13 0) (by kernel_rfl) rfl rfl ⟨(blk_cell BK138.out 0).trans rfl, (blk_cell BK138.out 1).trans rfl, (blk_cell BK138.out 2).trans rfl, ((HB.out.cell (bl w _ hw140_0)).trans hw140_0), ((HB.out.cell (bl w _ hw140_1)).trans hw140_1)⟩ (fun hHeld => ?_); refine with_tabW impl_seated.tab6 impl_seated.bits6 (fun HT_ HW_ => ?_)
      generalize w20.drew = w21 at BK138 HB hx140_0 hx140_1 hHeld ⊢
      refine pv_ 13 0 24 1 rfl rfl HT_ ?_; refine pv_ 13 1 25 3 rfl rfl HT_ ?_
      refine tv_ 13 2 26 7 rfl rfl HT_ HW_ hHeld (by rintro w' ⟨s0, s1, s2, s3, s4⟩; go_simp; with_reducible rfl) ?_
      refine one_ (i := 3) (N := some 27) (bv 13 15) rfl rfl (one_of HT_.out (by kernel_rfl)) (by decide) (fun K hK => ?_)
      refine goes_ Try.func59 (by kernel_rfl) rfl #[.slice A3 l3.length c3, .int .i64 ((rd_T46 l1 x20_1).f0)] (by rfl) rfl rfl (by (try simp only [Y1, Y2, Y3]); first | done | rfl | (simp only [Y4, Y5]; rfl)) ?_
      with_reducible refine (slices_Contains_int_int.calls k1 _ _ l3 ((rd_T46 l1 x20_1).f0) false _ ?side1 ?side2 A14.out).mono ?_
      (case side1 => repeat (first | exact (Kd.C_below HR3.out HB.out) | (with_reducible first | refine cA ?_ _ | refine cN ?_ _ | refine cD ?_)))
      (case side2 => exact HC3.out)
      rintro e w' ⟨rfl, ⟨nd, rfl⟩⟩
      refine ⟨_, rfl, ?_⟩
      refine hK.out _ _ ⟨(blk_cell BK138.out 0).trans rfl, (blk_cell BK138.out 1).trans rfl, (blk_cell BK138.out 2).trans rfl, ((HB.out.cell (bl w _ hw140_0)).trans hw140_0), ((HB.out.cell (bl w _ hw140_1)).trans hw140_1)⟩ (fun hHeld => ?_)
      clear hK K
      refine nm_ 27 ?_
      refine pv_ 13 4 28 31 rfl rfl HT_ ?_; refine pv_ 13 5 29 63 rfl rfl HT_ ?_; refine pv_ 13 7 31 191 rfl rfl HT_ ?_; refine pv_ 13 8 32 447 rfl rfl HT_ ?_
      refine tv_ 13 6 30 511 rfl rfl HT_ HW_ hHeld (by rintro w' ⟨s0, s1, s2, s3, s4⟩; go_simp; with_reducible rfl) ?_
      refine tv_ 13 9 33 1023 rfl rfl HT_ HW_ hHeld (by rintro w' ⟨s0, s1, s2, s3, s4⟩; go_simp; with_reducible rfl) ?_
      refine one_ (i := 10) (N := some 34) (bv 13 2047) rfl rfl (one_of HT_.out (by kernel_rfl)) (by decide) (fun K hK => ?_)
      refine goes_ Try.func28 (by kernel_rfl) rfl #[.slice A0 l0.length c0, .agg #[.int .i64 ((rd_T46 l1 x20_1).f0), .int .i64 ((rd_T46 l1 x20_1).f1), .slice A137_2 ((rd_T46 l1 x20_1).f2).length c137_2], .agg #[.int .i64 ((rd_T48 l2 0).f0), .int .i64 ((rd_T48 l2 0).f1)]] (by rfl) rfl rfl (by (try simp only [Y1, Y2, Y3]); first | done | rfl | (simp only [Y4, Y5]; rfl)) ?_
      with_reducible refine (impl_MayJudge.calls k1 _ _ l0 ((rd_T46 l1 x20_1).f0) ((rd_T46 l1 x20_1).f1) _ _ ((rd_T46 l1 x20_1).f2) ((rd_T48 l2 0).f0) ((rd_T48 l2 0).f1) t141 _ ?side1 ?side2 ?side3 ?side4 A19.out).mono ?_
      (case side1 => repeat (first | exact (Kd.C_below HR0.out (by repeat (first | (with_reducible first | exact HB.out | apply bA | apply bN | apply bD | refine below_set ?_ GE138.out) | exact HB.out))) | (with_reducible first | refine cA ?_ _ | refine cN ?_ _ | refine cD ?_)))
      (case side2 => exact HC0.out)
      (case side3 => repeat (first | exact (Kd.C_below HR137_2.out (by repeat (first | (with_reducible first | exact HB.out | apply bA | apply bN | apply bD | refine below_set ?_ GE138.out) | exact HB.out))) | (with_reducible first | refine cA ?_ _ | refine cN ?_ _ | refine cD ?_)))
      (case side4 => exact HC137_2.out)
      rintro e w22 ⟨rfl, hb⟩
      refine ⟨_, rfl, ?_⟩
      replace BK138 := Aside0.mk (blk_below (g := gb138) (o := .cells #[.int .i64 ((rd_T46 l1 x20_1).f0), .int .i64 ((rd_T46 l1 x20_1).f1), .slice A137_2 ((rd_T46 l1 x20_1).f2).length c137_2] 46 (0, 0)) (by (with_reducible repeat (first | refine kN ?_ _ | refine kD ?_ | refine kA ?_ _)); exact BK138.out) hb)
      replace HB := Aside0.mk (below_step (by repeat (first | (with_reducible first | exact HB.out | apply bA | apply bN | apply bD | refine below_set ?_ GE138.out) | exact HB.out)) hb)
      (try clear hb)
      (try clear hb2)
      (try clear hk)
      (try clear hi)
      refine hK.out _ _ ⟨(blk_cell BK138.out 0).trans rfl, (blk_cell BK138.out 1).trans rfl, (blk_cell BK138.out 2).trans rfl, ((HB.out.cell (bl w _ hw140_0)).trans hw140_0), ((HB.out.cell (bl w _ hw140_1)).trans hw140_1)⟩ (fun hHeld => ?_)
      clear hK K
      refine nm_ 34 ?_
      refine pv_ 13 11 35 4095 rfl rfl HT_ ?_; refine pv_ 13 12 36 8191 rfl rfl HT_ ?_
      refine done_ (done_of HT_.out (by kernel_rfl)) ?_
      try go_wp2
      go_meet
      case rel => exact ⟨_, (!t141), (by first | rfl | (simp; done) | (simp [*]; done)), H', ⟨by have := HK1.out; first | omega | exact Nat.le_refl _⟩, ⟨by (with_reducible repeat (first | refine kN ?_ _ | refine kD ?_ | refine kA ?_ _)); exact BK138.out⟩, ⟨by repeat (first | (with_reducible first | exact HB.out | apply bA | apply bN | apply bD | refine below_set ?_ GE138.out) | exact HB.out)⟩⟩
     subst c15
     have H1 : (impl_seated.j1 k1 l0 l1 l2 l3 l1 (l1.length : Int) x20_1 true ((rd_T46 l1 x20_1).f0) ((rd_T46 l1 x20_1).f1) ((rd_T46 l1 x20_1).f2)) = some (r1, r2) := by rw [if_pos rfl] at H; exact H
     clear H
     have H := H1
     clear H1
     have H' := Aside0.mk H
     clear H
     try go_wp2
     have n0_ : Aside0 ((((w12.setCell ⟨gb138, 0, none⟩ (.int .i64 ((rd_T46 l1 x20_1).f0))).setCell ⟨gb138, 1, none⟩ (.int .i64 ((rd_T46 l1 x20_1).f1))).setCell ⟨gb138, 2, none⟩ (.slice A137_2 ((rd_T46 l1 x20_1).f2).length c137_2)).heap[gb138]? = some (.cells #[.int .i64 ((rd_T46 l1 x20_1).f0), .int .i64 ((rd_T46 l1 x20_1).f1), .slice A137_2 ((rd_T46 l1 x20_1).f2).length c137_2] 46 (0, 0))) := ⟨by (with_reducible repeat (first | refine kN ?_ _ | refine kD ?_ | refine kA ?_ _)); refine blk_put (cs := #[.int .i64 ((rd_T46 l1 x20_1).f0), .int .i64 ((rd_T46 l1 x20_1).f1), .slice none 0 0]) ?_ 2 _ rfl; (with_reducible repeat (first | refine kN ?_ _ | refine kD ?_ | refine kA ?_ _)); refine blk_put (cs := #[.int .i64 ((rd_T46 l1 x20_1).f0), .int .i64 0, .slice none 0 0]) ?_ 1 _ rfl; (with_reducible repeat (first | refine kN ?_ _ | refine kD ?_ | refine kA ?_ _)); refine blk_put (cs := #[.int .i64 0, .int .i64 0, .slice none 0 0]) ?_ 0 _ rfl; (with_reducible repeat (first | refine kN ?_ _ | refine kD ?_ | refine kA ?_ _)); exact BK138.out⟩
     have n1_ : Aside0 (Below w.heap.size w (((w12.setCell ⟨gb138, 0, none⟩ (.int .i64 ((rd_T46 l1 x20_1).f0))).setCell ⟨gb138, 1, none⟩ (.int .i64 ((rd_T46 l1 x20_1).f1))).setCell ⟨gb138, 2, none⟩ (.slice A137_2 ((rd_T46 l1 x20_1).f2).length c137_2))) := ⟨by repeat (first | (with_reducible first | exact HB.out | apply bA | apply bN | apply bD | refine below_set ?_ GE138.out) | exact HB.out)⟩
     (try clear BK138)
     (try clear HB)
     generalize (((w12.setCell ⟨gb138, 0, none⟩ (.int .i64 ((rd_T46 l1 x20_1).f0))).setCell ⟨gb138, 1, none⟩ (.int .i64 ((rd_T46 l1 x20_1).f1))).setCell ⟨gb138, 2, none⟩ (.slice A137_2 ((rd_T46 l1 x20_1).f2).length c137_2)) = w16 at n0_ n1_ ⊢
     have BK138 := n0_
     have HB := n1_
     clear n0_ n1_
     replace BK138 := Aside0.mk (blk_drew BK138.out)
     replace HB := Aside0.mk (below_drew1 HB.out)
     refine start_ (n := 13) (S := fun w' => w'.cell? ⟨gb138, 0, none⟩ = some (.int .i64 ((rd_T46 l1 x20_1).f0)) ∧ w'.cell? ⟨gb138, 1, none⟩ = some (.int .i64 ((rd_T46 l1 x20_1).f1)) ∧ w'.cell? ⟨gb138, 2, none⟩ = some (.slice A137_2 ((rd_T46 l1 x20_1).f2).length c137_2)) (ds := []) (bv 13 0) (by kernel_rfl) rfl rfl ⟨(blk_cell BK138.out 0).trans rfl, (blk_cell BK138.out 1).trans rfl, (blk_cell BK138.out 2).trans rfl⟩ (fun hHeld => ?_); refine with_tabW impl_seated.tab6 impl_seated.bits6 (fun HT_ HW_ => ?_)
     generalize w16.drew = w17 at BK138 HB hHeld ⊢
     refine pv_ 13 0 24 1 rfl rfl HT_ ?_; refine pv_ 13 1 25 3 rfl rfl HT_ ?_
     refine tv_ 13 2 26 7 rfl rfl HT_ HW_ hHeld (by rintro w' ⟨s0, s1, s2⟩; go_simp; with_reducible rfl) ?_
     refine one_ (i := 3) (N := some 27) (bv 13 15) rfl rfl (one_of HT_.out (by kernel_rfl)) (by decide) (fun K hK => ?_)
     refine goes_ Try.func59 (by kernel_rfl) rfl #[.slice A3 l3.length c3, .int .i64 ((rd_T46 l1 x20_1).f0)] (by rfl) rfl rfl (by (try simp only [Y1, Y2, Y3]); first | done | rfl | (simp only [Y4, Y5]; rfl)) ?_
     with_reducible refine (slices_Contains_int_int.calls k1 _ _ l3 ((rd_T46 l1 x20_1).f0) true _ ?side1 ?side2 A14.out).mono ?_
     (case side1 => repeat (first | exact (Kd.C_below HR3.out HB.out) | (with_reducible first | refine cA ?_ _ | refine cN ?_ _ | refine cD ?_)))
     (case side2 => exact HC3.out)
     rintro e w' ⟨rfl, ⟨nd, rfl⟩⟩
     refine ⟨_, rfl, ?_⟩
     refine hK.out _ _ ⟨(blk_cell BK138.out 0).trans rfl, (blk_cell BK138.out 1).trans rfl, (blk_cell BK138.out 2).trans rfl⟩ (fun hHeld => ?_)
     clear hK K
     refine nm_ 27 ?_
     refine pv_ 13 4 28 31 rfl rfl HT_ ?_; refine pu_ 13 5 29 63 rfl rfl HT_ ?_; refine pu_ 13 6 30 127 rfl rfl HT_ ?_; refine pu_ 13 7 31 255 rfl rfl HT_ ?_; refine pu_ 13 8 32 511 rfl rfl HT_ ?_; refine pu_ 13 9 33 1023 rfl rfl HT_ ?_; refine pu_ 13 10 34 2047 rfl rfl HT_ ?_; refine pu_ 13 11 35 4095 rfl rfl HT_ ?_; refine pv_ 13 12 36 8191 rfl rfl HT_ ?_
     refine done_ (done_of HT_.out (by kernel_rfl)) ?_
     try go_wp2
     go_meet
     case rel => exact ⟨_, (true), (by first | rfl | (simp; done) | (simp [*]; done)), H', ⟨by have := HK1.out; first | omega | exact Nat.le_refl _⟩, ⟨by (with_reducible repeat (first | refine kN ?_ _ | refine kD ?_ | refine kA ?_ _)); exact BK138.out⟩, ⟨by repeat (first | (with_reducible first | exact HB.out | apply bA | apply bN | apply bD | refine below_set ?_ GE138.out) | exact HB.out)⟩⟩
    case rest =>
     clear HC11
     try clear c1
     try clear p1
     try clear q1
     try clear hx1
     try clear qi1
     try clear c2
     try clear p2
     try clear c3
     try clear c5
     try clear c5b0
     try clear c5b1
     try clear c5b2
     try clear c7
     try clear c8
     try clear c8b0
     try clear c9
     try clear c9b0
     try clear c10
     try clear c10b0
     try clear c13
     try clear p13
     try clear q13
     try clear hx13
     try clear p14
     try clear q14
     try clear hx14
     try clear qi14
     try clear c15
     try clear c18
     try clear c18b0
     try clear c18b1
     try clear hcz13_0
     try clear hcz13_1
     try clear hcz13_2
     try clear hfz13_0
     try clear hfz13_1
     try clear hfz13_2
     try clear hx137_0
     try clear hx137_1
     try clear hx137_2
     try clear hx140_0
     try clear hx140_1
     try clear p137
     try clear p140
     try clear p2
     try clear q137
     try clear q140
     obtain ⟨kq, x36_10, rfl, HA, HJ10, BK138, HB⟩ := hcut
     cases kq with
     | zero => exact absurd HA.out (by simp [impl_seated.j1])
     | succ kj10 =>
      have H := HA.out
      clear HA
      simp only [impl_seated.j1] at H
      by_cases c23 : x36_10 = true
      rotate_left
      ·
       replace c23 := Bool.eq_false_iff.mpr c23
       subst c23
       have H1 : (if 1 ≤ (l2.length : Int) then ((slices_Clone_int_int.f l3).bind fun t146 => ((some (([((rd_T46 l1 x20_1).f0)] : List Int) : List Int)).bind fun y149 => (if t146.length + y149.length < 17592186044416 then ((impl_seated.f kj10 l0 l1 (l2.drop 1) (t146 ++ y149)).bind fun bt155 => (if bt155.2 = true then ((some (([((rd_T46 l1 x20_1).f0)] : List Int) : List Int)).bind fun y159 => (if y159.length + bt155.1.length < 17592186044416 then (some ((y159 ++ bt155.1), true)) else (none))) else (impl_seated.l0 kj10 l0 l1 l2 l3 l1 (l1.length : Int) (wrap64 (x20_1 + 1))))) else (none)))) else (none)) = some (r1, r2) := by rw [if_neg (show ¬ (false = true) by decide)] at H; exact H
       clear H
       have H := H1
       clear H1
       by_cases c24 : 1 ≤ (l2.length : Int)
       rotate_left
       ·
        rw [if_neg c24] at H
        exact absurd H (by simp)
       rw [if_pos c24] at H
       have c24b0 := eq_true c24
       have c24b1 : decide (1 ≤ (l2.length : Int)) = true := decide_eq_true c24
       clear c24
       obtain ⟨y142, hy142⟩ : ∃ y_ : List (S48), y_ = (l2.drop 1) := ⟨_, rfl⟩
       replace H : ((slices_Clone_int_int.f l3).bind fun t146 => ((some (([((rd_T46 l1 x20_1).f0)] : List Int) : List Int)).bind fun y149 => (if t146.length + y149.length < 17592186044416 then ((impl_seated.f kj10 l0 l1 y142 (t146 ++ y149)).bind fun bt155 => (if bt155.2 = true then ((some (([((rd_T46 l1 x20_1).f0)] : List Int) : List Int)).bind fun y159 => (if y159.length + bt155.1.length < 17592186044416 then (some ((y159 ++ bt155.1), true)) else (none))) else (impl_seated.l0 kj10 l0 l1 l2 l3 l1 (l1.length : Int) (wrap64 (x20_1 + 1))))) else (none)))) = some (r1, r2) := by first | (rw [hy142]; with_reducible exact H) | (have H2_ := (Option.bind_some _ _).symm.trans H; rw [hy142]; with_reducible exact H2_) | (have H2_ := (Option.bind_some _ _).symm.trans H; with_reducible exact H2_) | with_reducible exact H | (rw [hy142]; exact H) | exact H
       have Ny142 := Aside0.mk hy142
       clear hy142
       replace H := Option.bind_eq_some_iff.mp H
       obtain ⟨t146, A250, H⟩ := H
       replace H : ((some (([((rd_T46 l1 x20_1).f0)] : List Int) : List Int)).bind fun y149 => (if t146.length + y149.length < 17592186044416 then ((impl_seated.f kj10 l0 l1 y142 (t146 ++ y149)).bind fun bt155 => (if bt155.2 = true then ((some (([((rd_T46 l1 x20_1).f0)] : List Int) : List Int)).bind fun y159 => (if y159.length + bt155.1.length < 17592186044416 then (some ((y159 ++ bt155.1), true)) else (none))) else (impl_seated.l0 kj10 l0 l1 l2 l3 l1 (l1.length : Int) (wrap64 (x20_1 + 1))))) else (none))) = some (r1, r2) := H
       have A25 := Aside0.mk A250
       clear A250
       obtain ⟨y149, hy149⟩ : ∃ y_ : List Int, y_ = (([((rd_T46 l1 x20_1).f0)] : List Int)) := ⟨_, rfl⟩
       replace H : (if t146.length + y149.length < 17592186044416 then ((impl_seated.f kj10 l0 l1 y142 (t146 ++ y149)).bind fun bt155 => (if bt155.2 = true then ((some (([((rd_T46 l1 x20_1).f0)] : List Int) : List Int)).bind fun y159 => (if y159.length + bt155.1.length < 17592186044416 then (some ((y159 ++ bt155.1), true)) else (none))) else (impl_seated.l0 kj10 l0 l1 l2 l3 l1 (l1.length : Int) (wrap64 (x20_1 + 1))))) else (none)) = some (r1, r2) := by first | (rw [hy149]; with_reducible exact H) | (have H2_ := (Option.bind_some _ _).symm.trans H; rw [hy149]; with_reducible exact H2_) | (have H2_ := (Option.bind_some _ _).symm.trans H; with_reducible exact H2_) | with_reducible exact H | (rw [hy149]; exact H) | exact H
       have Ny149 := Aside0.mk hy149
       clear hy149
       by_cases c26 : t146.length + y149.length < 17592186044416
       rotate_left
       ·
        rw [if_neg c26] at H
        exact absurd H (by simp)
       rw [if_pos c26] at H
       have LMc26 := Aside0.mk c26
       clear c26
       obtain ⟨y152, hy152⟩ : ∃ y_ : List Int, y_ = (t146 ++ y149) := ⟨_, rfl⟩
       replace H : ((impl_seated.f kj10 l0 l1 y142 y152).bind fun bt155 => (if bt155.2 = true then ((some (([((rd_T46 l1 x20_1).f0)] : List Int) : List Int)).bind fun y159 => (if y159.length + bt155.1.length < 17592186044416 then (some ((y159 ++ bt155.1), true)) else (none))) else (impl_seated.l0 kj10 l0 l1 l2 l3 l1 (l1.length : Int) (wrap64 (x20_1 + 1))))) = some (r1, r2) := by first | (rw [hy152]; with_reducible exact H) | (have H2_ := (Option.bind_some _ _).symm.trans H; rw [hy152]; with_reducible exact H2_) | (have H2_ := (Option.bind_some _ _).symm.trans H; with_reducible exact H2_) | with_reducible exact H | (rw [hy152]; exact H) | exact H
       have Ny152 := Aside0.mk hy152
       clear hy152
       replace H := Option.bind_eq_some_iff.mp H
       obtain ⟨⟨t155, t156⟩, A270, H⟩ := H
       replace H : (if t156 = true then ((some (([((rd_T46 l1 x20_1).f0)] : List Int) : List Int)).bind fun y159 => (if y159.length + t155.length < 17592186044416 then (some ((y159 ++ t155), true)) else (none))) else (impl_seated.l0 kj10 l0 l1 l2 l3 l1 (l1.length : Int) (wrap64 (x20_1 + 1)))) = some (r1, r2) := H
       have A27 := Aside0.mk A270
       clear A270
       by_cases c28 : t156 = true
       rotate_left
       ·
        replace c28 := Bool.eq_false_iff.mpr c28
        subst c28
        have H1 : (impl_seated.l0 kj10 l0 l1 l2 l3 l1 (l1.length : Int) (wrap64 (x20_1 + 1))) = some (r1, r2) := by rw [if_neg (show ¬ (false = true) by decide)] at H; exact H
        clear H
        have H := H1
        clear H1
        have H' := Aside0.mk H
        clear H
        try go_wp2
        replace BK138 := Aside0.mk (blk_drew BK138.out)
        replace HB := Aside0.mk (below_drew1 HB.out)
        have q46 : (1 : Int) ≤ ((l2.length : Int) : Int) := od (by assumption)
        obtain ⟨i046, hi046, _, hsz46, _⟩ := info_parts info48
        have hroom46 : l2.length ≤ c2 := HC2.out
        have hC46 : Kd.C k48 _ A2 l2.length l2 := HR2.out
        have hcut46 := cut_from (P := Try.prog) 56 48 .i64 Try.underlying56 hi046 2 hsz46 A2 l2.length c2 1 (by omega) q46
        have hr46 := Kd.C_drop (m := (1 : Int).toNat) (c := c2) hC46 (by omega) hroom46
        obtain ⟨A46, hA46⟩ : ∃ A1, A1 = (if c2 = (1 : Int).toNat then A2 else (A2 : Option Addr).map (·.add ((1 : Int).toNat * 2))) := ⟨_, rfl⟩
        obtain ⟨c46, hc46⟩ : ∃ c_, c_ = c2 - (1 : Int).toNat := ⟨_, rfl⟩
        have hy46 : y142.length = l2.length - (1 : Int).toNat := (by rw [Ny142.out, List.length_drop] <;> omega)
        rw [show (l2).drop (1 : Int).toNat = y142 from Ny142.out.symm] at hr46
        replace hr46 : Kd.C k48 _ A46 y142.length y142 := (by rw [hA46]; exact hr46)
        rw [← hy46, ← hA46, ← hc46] at hcut46
        have HR145 := Aside0.mk hr46
        have HC145 := Aside0.mk (show y142.length ≤ c46 from by rw [hy46, hc46]; exact Nat.sub_le_sub_right hroom46 _)
        clear hr46 hC46 hroom46 hi046 hsz46 hc46
        have KY46 := Aside0.mk hy46
        have KA46 := Aside0.mk hA46
        clear hy46 hA46
        replace q46 := eq_true q46
        refine start_ (n := 16) (S := fun w' => w'.cell? ⟨gb138, 0, none⟩ = some (.int .i64 ((rd_T46 l1 x20_1).f0)) ∧ w'.cell? ⟨gb138, 1, none⟩ = some (.int .i64 ((rd_T46 l1 x20_1).f1)) ∧ w'.cell? ⟨gb138, 2, none⟩ = some (.slice A137_2 ((rd_T46 l1 x20_1).f2).length c137_2)) (ds := []) (bv 16 0) (by kernel_rfl) rfl rfl ⟨(blk_cell BK138.out 0).trans rfl, (blk_cell BK138.out 1).trans rfl, (blk_cell BK138.out 2).trans rfl⟩ (fun hHeld => ?_); refine with_tabW impl_seated.tab7 impl_seated.bits7 (fun HT_ HW_ => ?_)
        generalize wc.drew = w45 at BK138 HB HR145 hHeld ⊢
        refine pv_ 16 0 38 1 rfl rfl HT_ ?_; refine pv_ 16 1 39 3 rfl rfl HT_ ?_; refine pv_ 16 2 40 7 rfl rfl HT_ ?_; refine pv_ 16 3 41 15 rfl rfl HT_ ?_; refine pv_ 16 4 42 31 rfl rfl HT_ ?_; refine pv_ 16 6 44 95 rfl rfl HT_ ?_
        refine tv_ 16 7 45 223 rfl rfl HT_ HW_ hHeld (by rintro w' ⟨s0, s1, s2⟩; go_simp; with_reducible rfl) ?_
        refine join_ (σ := Value × Value) 7 (bv 16 511) (fun s_ => [(43, s_.1), (46, s_.2)]) (fun s_ w' => (w'.cell? ⟨gb138, 0, none⟩ = some (.int .i64 ((rd_T46 l1 x20_1).f0)) ∧ w'.cell? ⟨gb138, 1, none⟩ = some (.int .i64 ((rd_T46 l1 x20_1).f1)) ∧ w'.cell? ⟨gb138, 2, none⟩ = some (.slice A137_2 ((rd_T46 l1 x20_1).f2).length c137_2)) ∧ (Kd.R (Kd.int .i64) 3 w' w.heap.size (fun k_ => some k_ ≠ (s_.2 : Value).ownBlock) s_.1 t146) ∧ (Kd.R (Kd.int .i64) 3 w' w.heap.size (fun k_ => some k_ ≠ (s_.1 : Value).ownBlock) s_.2 y149) ∧ (w'.heap[gb138]? = some (.cells #[.int .i64 ((rd_T46 l1 x20_1).f0), .int .i64 ((rd_T46 l1 x20_1).f1), .slice A137_2 ((rd_T46 l1 x20_1).f2).length c137_2] 46 (0, 0))) ∧ (Below w.heap.size w w')) ?_ ?_
        rotate_left
        ·
         intro hCont
         refine two_ (i := 5) (j := 8) (Ni := some 43) (Nj := some 46) (bv 16 255) (bv 16 479) rfl rfl rfl rfl (two_of HT_.out (by kernel_rfl)) (by decide) (by decide) (fun K hK => ?_) (fun K hK => ?_)
         ·
          skip
          refine goes_ Try.func90 (by kernel_rfl) rfl #[.slice A3 l3.length c3] (by rfl) rfl rfl (by (try simp only [Y1, Y2, Y3]); first | done | rfl | (simp only [Y4, Y5]; rfl)) ?_
          with_reducible refine (slices_Clone_int_int.calls _ _ l3 t146 _ ?side1 ?side2 A25.out).mono ?_
          (case side1 => repeat (first | exact (Kd.C_below HR3.out HB.out) | (with_reducible first | refine cA ?_ _ | refine cN ?_ _ | refine cD ?_)))
          (case side2 => exact HC3.out)
          rintro e w47 ⟨v147, rfl, ho0, hb⟩
          refine ⟨_, rfl, ?_⟩
          replace HO148 := Aside0.mk (Kd.R_lower ho0 (below_size (by repeat (first | (with_reducible first | exact HB.out | apply bA | apply bN | apply bD | refine below_set ?_ GE138.out) | exact HB.out))))
          replace BK138 := Aside0.mk (blk_below (g := gb138) (o := .cells #[.int .i64 ((rd_T46 l1 x20_1).f0), .int .i64 ((rd_T46 l1 x20_1).f1), .slice A137_2 ((rd_T46 l1 x20_1).f2).length c137_2] 46 (0, 0)) (by (with_reducible repeat (first | refine kN ?_ _ | refine kD ?_ | refine kA ?_ _)); exact BK138.out) hb)
          replace HB := Aside0.mk (below_step (by repeat (first | (with_reducible first | exact HB.out | apply bA | apply bN | apply bD | refine below_set ?_ GE138.out) | exact HB.out)) hb)
          (try clear hb)
          (try clear hb2)
          (try clear hk)
          (try clear hi)
          (try clear ho0)
          refine hK.out _ _ ⟨(blk_cell BK138.out 0).trans rfl, (blk_cell BK138.out 1).trans rfl, (blk_cell BK138.out 2).trans rfl⟩ (fun hHeld => ?_)
          clear hK K
          refine nm_ 43 ?_
          refine one_ (i := 8) (N := some 46) (bv 16 511) rfl rfl (one_of HT_.out (by kernel_rfl)) (by decide) (fun K hK => ?_)
          refine Kd.R_lit_step (Kd.int .i64) _ 3 ?hg (N := 46) ?hd (xs := ([((rd_T46 l1 x20_1).f0)] : List Int)) (inner := [.int .i64 ((rd_T46 l1 x20_1).f0)]) (ok := fun _ => True) (okp := fun _ => True) ?hr ?hp (fun _ hk => hk) trivial (Below.refl _ _) (Nat.le_refl _) (by simp) ?_; (case hd => rfl); (case hg => rfl); (case hr => first | (go_simp; done) | (go_simp; rfl)); (case hp => exact (Reps.one (show Kd.M (Kd.int .i64) _ _ _ ((rd_T46 l1 x20_1).f0) [.int .i64 ((rd_T46 l1 x20_1).f0)] from rfl) (Reps.none _ _)))
          intro v150 w48 ho49 hb hg_ hnew_
          clear hg_ hnew_
          (first | rw [← Ny149.out] at ho49 | (simp only [Int.reduceToNat] at ho49; rw [← Ny149.out] at ho49))
          have n0_ := Aside0.mk (Kd.R_elder' (by (with_reducible repeat (first | apply rA | apply rN | apply rD)); exact HO148.out) (Kd.R_base ho49) hb)
          have n1_ := Aside0.mk (Kd.R_lower (Kd.R_new' ho49 (Kd.R_lt (by (with_reducible repeat (first | apply rA | apply rN | apply rD)); exact HO148.out))) (below_size (by repeat (first | (with_reducible first | exact HB.out | apply bA | apply bN | apply bD | refine below_set ?_ GE138.out) | exact HB.out))))
          have n2_ := Aside0.mk (blk_below (g := gb138) (o := .cells #[.int .i64 ((rd_T46 l1 x20_1).f0), .int .i64 ((rd_T46 l1 x20_1).f1), .slice A137_2 ((rd_T46 l1 x20_1).f2).length c137_2] 46 (0, 0)) (by (with_reducible repeat (first | refine kN ?_ _ | refine kD ?_ | refine kA ?_ _)); exact BK138.out) hb)
          have n3_ := Aside0.mk (below_step (by repeat (first | (with_reducible first | exact HB.out | apply bA | apply bN | apply bD | refine below_set ?_ GE138.out) | exact HB.out)) hb)
          clear HO148
          clear BK138
          clear HB
          have HO148 := n0_
          have HO151 := n1_
          have BK138 := n2_
          have HB := n3_
          clear n0_ n1_ n2_ n3_
          clear hb ho49
          refine hK.out _ _ ⟨(blk_cell BK138.out 0).trans rfl, (blk_cell BK138.out 1).trans rfl, (blk_cell BK138.out 2).trans rfl⟩ (fun hHeld => ?_)
          clear hK K
          refine nm_ 46 ?_
          exact norm_ (by simp only [putAll, Act.put, Z1, Z2, Z3]) (hCont (v147, v150) _ ⟨hHeld, (by (with_reducible repeat (first | apply rA | apply rN | apply rD)); exact Kd.R_mono HO148.out (fun _ hk => hk.2)), (by (with_reducible repeat (first | apply rA | apply rN | apply rD)); exact Kd.R_mono HO151.out (fun _ hk => hk.2)), (by (with_reducible repeat (first | refine kN ?_ _ | refine kD ?_ | refine kA ?_ _)); exact BK138.out), (by repeat (first | (with_reducible first | exact HB.out | apply bA | apply bN | apply bD | refine below_set ?_ GE138.out) | exact HB.out))⟩)
         ·
          skip
          refine Kd.R_lit_step (Kd.int .i64) _ 3 ?hg (N := 46) ?hd (xs := ([((rd_T46 l1 x20_1).f0)] : List Int)) (inner := [.int .i64 ((rd_T46 l1 x20_1).f0)]) (ok := fun _ => True) (okp := fun _ => True) ?hr ?hp (fun _ hk => hk) trivial (Below.refl _ _) (Nat.le_refl _) (by simp) ?_; (case hd => rfl); (case hg => rfl); (case hr => first | (go_simp; done) | (go_simp; rfl)); (case hp => exact (Reps.one (show Kd.M (Kd.int .i64) _ _ _ ((rd_T46 l1 x20_1).f0) [.int .i64 ((rd_T46 l1 x20_1).f0)] from rfl) (Reps.none _ _)))
          intro v150 w47 ho48 hb hg_ hnew_
          clear hg_ hnew_
          (first | rw [← Ny149.out] at ho48 | (simp only [Int.reduceToNat] at ho48; rw [← Ny149.out] at ho48))
          replace HO151 := Aside0.mk (Kd.R_lower ho48 (below_size (by repeat (first | (with_reducible first | exact HB.out | apply bA | apply bN | apply bD | refine below_set ?_ GE138.out) | exact HB.out))))
          replace BK138 := Aside0.mk (blk_below (g := gb138) (o := .cells #[.int .i64 ((rd_T46 l1 x20_1).f0), .int .i64 ((rd_T46 l1 x20_1).f1), .slice A137_2 ((rd_T46 l1 x20_1).f2).length c137_2] 46 (0, 0)) (by (with_reducible repeat (first | refine kN ?_ _ | refine kD ?_ | refine kA ?_ _)); exact BK138.out) hb)
          replace HB := Aside0.mk (below_step (by repeat (first | (with_reducible first | exact HB.out | apply bA | apply bN | apply bD | refine below_set ?_ GE138.out) | exact HB.out)) hb)
          clear hb ho48
          refine hK.out _ _ ⟨(blk_cell BK138.out 0).trans rfl, (blk_cell BK138.out 1).trans rfl, (blk_cell BK138.out 2).trans rfl⟩ (fun hHeld => ?_)
          clear hK K
          refine nm_ 46 ?_
          refine one_ (i := 5) (N := some 43) (bv 16 511) rfl rfl (one_of HT_.out (by kernel_rfl)) (by decide) (fun K hK => ?_)
          refine goes_ Try.func90 (by kernel_rfl) rfl #[.slice A3 l3.length c3] (by rfl) rfl rfl (by (try simp only [Y1, Y2, Y3]); first | done | rfl | (simp only [Y4, Y5]; rfl)) ?_
          with_reducible refine (slices_Clone_int_int.calls _ _ l3 t146 _ ?side1 ?side2 A25.out).mono ?_
          (case side1 => repeat (first | exact (Kd.C_below HR3.out HB.out) | (with_reducible first | refine cA ?_ _ | refine cN ?_ _ | refine cD ?_)))
          (case side2 => exact HC3.out)
          rintro e w49 ⟨v147, rfl, ho0, hb⟩
          refine ⟨_, rfl, ?_⟩
          have n0_ := Aside0.mk (Kd.R_elder' (by (with_reducible repeat (first | apply rA | apply rN | apply rD)); exact HO151.out) (Kd.R_base ho0) hb)
          have n1_ := Aside0.mk (Kd.R_lower (Kd.R_new' ho0 (Kd.R_lt (by (with_reducible repeat (first | apply rA | apply rN | apply rD)); exact HO151.out))) (below_size (by repeat (first | (with_reducible first | exact HB.out | apply bA | apply bN | apply bD | refine below_set ?_ GE138.out) | exact HB.out))))
          have n2_ := Aside0.mk (blk_below (g := gb138) (o := .cells #[.int .i64 ((rd_T46 l1 x20_1).f0), .int .i64 ((rd_T46 l1 x20_1).f1), .slice A137_2 ((rd_T46 l1 x20_1).f2).length c137_2] 46 (0, 0)) (by (with_reducible repeat (first | refine kN ?_ _ | refine kD ?_ | refine kA ?_ _)); exact BK138.out) hb)
          have n3_ := Aside0.mk (below_step (by repeat (first | (with_reducible first | exact HB.out | apply bA | apply bN | apply bD | refine below_set ?_ GE138.out) | exact HB.out)) hb)
          clear HO151
          clear BK138
          clear HB
          have HO151 := n0_
          have HO148 := n1_
          have BK138 := n2_
          have HB := n3_
          clear n0_ n1_ n2_ n3_
          (try clear hb)
          (try clear hb2)
          (try clear hk)
          (try clear hi)
          (try clear ho0)
          refine hK.out _ _ ⟨(blk_cell BK138.out 0).trans rfl, (blk_cell BK138.out 1).trans rfl, (blk_cell BK138.out 2).trans rfl⟩ (fun hHeld => ?_)
          clear hK K
          refine nm_ 43 ?_
          exact norm_ (by simp only [putAll, Act.put, Z1, Z2, Z3]) (hCont (v147, v150) _ ⟨hHeld, (by (with_reducible repeat (first | apply rA | apply rN | apply rD)); exact Kd.R_mono HO148.out (fun _ hk => hk.2)), (by (with_reducible repeat (first | apply rA | apply rN | apply rD)); exact Kd.R_mono HO151.out (fun _ hk => hk.2)), (by (with_reducible repeat (first | refine kN ?_ _ | refine kD ?_ | refine kA ?_ _)); exact BK138.out), (by repeat (first | (with_reducible first | exact HB.out | apply bA | apply bN | apply bD | refine below_set ?_ GE138.out) | exact HB.out))⟩)
        rintro ⟨v147, v150⟩ w50 ⟨hS_, h0_, h1_, h2_, h3_⟩
        have n0_ : Aside0 (Kd.R (Kd.int .i64) 3 w50 w.heap.size (fun k_ => some k_ ≠ (v150 : Value).ownBlock) v147 t146) := ⟨h0_⟩
        have n1_ : Aside0 (Kd.R (Kd.int .i64) 3 w50 w.heap.size (fun k_ => some k_ ≠ (v147 : Value).ownBlock) v150 y149) := ⟨h1_⟩
        have n2_ : Aside0 (w50.heap[gb138]? = some (.cells #[.int .i64 ((rd_T46 l1 x20_1).f0), .int .i64 ((rd_T46 l1 x20_1).f1), .slice A137_2 ((rd_T46 l1 x20_1).f2).length c137_2] 46 (0, 0))) := ⟨h2_⟩
        have n3_ : Aside0 (Below w.heap.size w w50) := ⟨h3_⟩
        clear BK138
        clear HB
        clear h0_ h1_ h2_ h3_
        have HO148 := n0_
        have HO151 := n1_
        have BK138 := n2_
        have HB := n3_
        clear n0_ n1_ n2_ n3_
        have hHeld : w50.cell? ⟨gb138, 0, none⟩ = some (.int .i64 ((rd_T46 l1 x20_1).f0)) ∧ w50.cell? ⟨gb138, 1, none⟩ = some (.int .i64 ((rd_T46 l1 x20_1).f1)) ∧ w50.cell? ⟨gb138, 2, none⟩ = some (.slice A137_2 ((rd_T46 l1 x20_1).f2).length c137_2) := hS_
        obtain ⟨Ao52, co52, eo52⟩ := Kd.R_slice HO151.out
        (first | subst eo52 | (injection eo52 with f1_ f2_ f3_; have f4_ := f1_.symm; have f5_ := f3_.symm; clear f1_ f2_ f3_; subst f4_; subst f5_))
        refine norm_ (a' := ?_) ?_ ?_
        rotate_left
        ·
         simp only [putAll, Act.put, Z1, Z2, Z3]
         rfl
        refine one_ (i := 9) (N := some 47) (bv 16 1023) rfl rfl (one_of HT_.out (by kernel_rfl)) (by decide) (fun K hK => ?_)
        refine Kd.R_append_rows_step (Kd.int .i64) (w0 := w) w.heap.size (by rfl) (.tmp 43) (.tmp 46) 29 3 (.int .i64 0) 8 rfl Try.underlying29 info3 rfl (by decide) (by omega) v147 t146 y149 _ _ _ (fun k_ => some k_ ≠ (.slice Ao52 y149.length co52 : Value).ownBlock) (fun _ => False) rfl rfl ?aO ?aR (fun _ _ h => h) (fun _ h => h.elim) ?aF ?aB ?aS ?aL ?_
        (case aR => repeat (first | exact (Kd.R_reads' HO151.out).2.2 | (with_reducible first | refine cA ?_ _ | refine cN ?_ _ | refine cD ?_)))
        (case aB => exact (by repeat (first | (with_reducible first | exact HB.out | apply bA | apply bN | apply bD | refine below_set ?_ GE138.out) | exact HB.out)))
        (case aF => exact (fun k_ hk => Kd.fresh' (Kd.R_lt (by (with_reducible repeat (first | apply rA | apply rN | apply rD)); exact HO151.out)) k_ hk))
        (case aO => exact (by (with_reducible repeat (first | apply rA | apply rN | apply rD)); exact HO148.out))
        (case aS => exact (below_size (by repeat (first | (with_reducible first | exact HB.out | apply bA | apply bN | apply bD | refine below_set ?_ GE138.out) | exact HB.out))))
        (case aL => have := LMc26.out; omega)
        intro v153 w51 ho hb hg hat
        rw [← Ny152.out] at ho
        replace BK138 := Aside0.mk (blk_grown (g := gb138) (o := .cells #[.int .i64 ((rd_T46 l1 x20_1).f0), .int .i64 ((rd_T46 l1 x20_1).f1), .slice A137_2 ((rd_T46 l1 x20_1).f2).length c137_2] 46 (0, 0)) (by (with_reducible repeat (first | refine kN ?_ _ | refine kD ?_ | refine kA ?_ _)); exact BK138.out) hg (Kd.R_ne HO148.out BK138.out (by decide)))
        replace HO151 := Aside0.mk (Kd.R_after (ok := (fun _ => True)) (by (with_reducible repeat (first | apply rA | apply rN | apply rD)); exact Kd.R_mono HO151.out (fun _ hk => ⟨trivial, hk⟩)) hg hat)
        replace HB := Aside0.mk (hb)
        replace HO154 := Aside0.mk (ho)
        clear HO148
        clear ho hb hg hat
        obtain ⟨Ao53, co53, eo53⟩ := Kd.R_slice HO154.out
        (first | subst eo53 | (injection eo53 with f1_ f2_ f3_; have f4_ := f1_.symm; have f5_ := f3_.symm; clear f1_ f2_ f3_; subst f4_; subst f5_))
        refine hK.out _ _ ⟨(blk_cell BK138.out 0).trans rfl, (blk_cell BK138.out 1).trans rfl, (blk_cell BK138.out 2).trans rfl⟩ (fun hHeld => ?_)
        clear hK K
        refine nm_ 47 ?_
        refine one_ (i := 10) (N := some 48) (bv 16 2047) rfl rfl (one_of HT_.out (by kernel_rfl)) (by decide) (fun K hK => ?_)
        refine goes_ Try.func71 (by kernel_rfl) rfl #[.slice A0 l0.length c0, .slice (some ad137) l1.length c1, .slice A46 y142.length c46, .slice Ao53 y152.length co53] (by rfl) rfl rfl (by (try simp only [Y1, Y2, Y3]); first | done | rfl | (simp only [Y4, Y5]; rfl)) ?_
        with_reducible refine (ih kj10 (by have := HK1.out; have := HJ10.out; omega) _ _ l0 _ _ l1 _ _ y142 _ _ y152 t155 false _ ?side1 ?side2 ?side3 ?side4 ?side5 ?side6 ?side7 ?side8 A27.out).mono ?_
        (case side1 => repeat (first | exact (Kd.C_below HR0.out HB.out) | (with_reducible first | refine cA ?_ _ | refine cN ?_ _ | refine cD ?_)))
        (case side2 => exact HC0.out)
        (case side3 => repeat (first | exact (Kd.C_below HR1.out HB.out) | (with_reducible first | refine cA ?_ _ | refine cN ?_ _ | refine cD ?_)))
        (case side4 => exact HC1.out)
        (case side5 => repeat (first | exact (Kd.C_below HR145.out HB.out) | (with_reducible first | refine cA ?_ _ | refine cN ?_ _ | refine cD ?_)))
        (case side6 => exact HC145.out)
        (case side7 => repeat (first | exact (Kd.R_reads' HO154.out).2.2 | (with_reducible first | refine cA ?_ _ | refine cN ?_ _ | refine cD ?_)))
        (case side8 => exact (Kd.R_reads' HO154.out).2.1)
        rintro e w54 ⟨v157, rfl, ho0, hb⟩
        refine ⟨_, rfl, ?_⟩
        have n0_ := Aside0.mk (Kd.R_elder' (by (with_reducible repeat (first | apply rA | apply rN | apply rD)); exact HO151.out) (Kd.R_base ho0) hb)
        have n1_ := Aside0.mk (Kd.R_elder' (by (with_reducible repeat (first | apply rA | apply rN | apply rD)); exact HO154.out) (Kd.R_base ho0) hb)
        have n2_ := Aside0.mk (Kd.R_lower (Kd.R_new' (Kd.R_new' ho0 (Kd.R_lt (by (with_reducible repeat (first | apply rA | apply rN | apply rD)); exact HO151.out))) (Kd.R_lt (by (with_reducible repeat (first | apply rA | apply rN | apply rD)); exact HO154.out))) (below_size (by repeat (first | (with_reducible first | exact HB.out | apply bA | apply bN | apply bD | refine below_set ?_ GE138.out) | exact HB.out))))
        have n3_ := Aside0.mk (blk_below (g := gb138) (o := .cells #[.int .i64 ((rd_T46 l1 x20_1).f0), .int .i64 ((rd_T46 l1 x20_1).f1), .slice A137_2 ((rd_T46 l1 x20_1).f2).length c137_2] 46 (0, 0)) (by (with_reducible repeat (first | refine kN ?_ _ | refine kD ?_ | refine kA ?_ _)); exact BK138.out) hb)
        have n4_ := Aside0.mk (below_step (by repeat (first | (with_reducible first | exact HB.out | apply bA | apply bN | apply bD | refine below_set ?_ GE138.out) | exact HB.out)) hb)
        clear HO151
        clear HO154
        clear BK138
        clear HB
        have HO151 := n0_
        have HO154 := n1_
        have HO158 := n2_
        have BK138 := n3_
        have HB := n4_
        clear n0_ n1_ n2_ n3_ n4_
        (try clear hb)
        (try clear hb2)
        (try clear hk)
        (try clear hi)
        (try clear ho0)
        refine hK.out _ _ ⟨(blk_cell BK138.out 0).trans rfl, (blk_cell BK138.out 1).trans rfl, (blk_cell BK138.out 2).trans rfl⟩ (fun hHeld => ?_)
        clear hK K
        refine nm_ 48 ?_
        refine pv_ 16 11 37 4095 rfl rfl HT_ ?_; refine pv_ 16 12 49 8191 rfl rfl HT_ ?_; refine pv_ 16 13 50 16383 rfl rfl HT_ ?_; refine pv_ 16 14 12 32767 rfl rfl HT_ ?_; refine pv_ 16 15 13 65535 rfl rfl HT_ ?_
        refine done_ (done_of HT_.out (by kernel_rfl)) ?_
        try go_wp2
        go_roundg kj10
        case measure => have := HK1.out; have := HJ10.out; omega
        case rel => exact ⟨(wrap64 (x20_1 + 1)), (by first | rfl | (simp; done) | (simp [*]; done)), H', ⟨by have := HK1.out; have := HJ10.out; omega⟩, ⟨by repeat (first | (with_reducible first | exact HB.out | apply bA | apply bN | apply bD | refine below_set ?_ GE138.out) | exact HB.out)⟩⟩
       subst c28
       have H1 : ((some (([((rd_T46 l1 x20_1).f0)] : List Int) : List Int)).bind fun y159 => (if y159.length + t155.length < 17592186044416 then (some ((y159 ++ t155), true)) else (none))) = some (r1, r2) := by rw [if_pos rfl] at H; exact H
       clear H
       have H := H1
       clear H1
       obtain ⟨y159, hy159⟩ : ∃ y_ : List Int, y_ = (([((rd_T46 l1 x20_1).f0)] : List Int)) := ⟨_, rfl⟩
       replace H : (if y159.length + t155.length < 17592186044416 then (some ((y159 ++ t155), true)) else (none)) = some (r1, r2) := by first | (rw [hy159]; with_reducible exact H) | (have H2_ := (Option.bind_some _ _).symm.trans H; rw [hy159]; with_reducible exact H2_) | (have H2_ := (Option.bind_some _ _).symm.trans H; with_reducible exact H2_) | with_reducible exact H | (rw [hy159]; exact H) | exact H
       have Ny159 := Aside0.mk hy159
       clear hy159
       by_cases c29 : y159.length + t155.length < 17592186044416
       rotate_left
       ·
        rw [if_neg c29] at H
        exact absurd H (by simp)
       rw [if_pos c29] at H
       have LMc29 := Aside0.mk c29
       clear c29
       obtain ⟨y162, hy162⟩ : ∃ y_ : List Int, y_ = (y159 ++ t155) := ⟨_, rfl⟩
       replace H : (some (y162, true)) = some (r1, r2) := by first | (rw [hy162]; with_reducible exact H) | (have H2_ := (Option.bind_some _ _).symm.trans H; rw [hy162]; with_reducible exact H2_) | (have H2_ := (Option.bind_some _ _).symm.trans H; with_reducible exact H2_) | with_reducible exact H | (rw [hy162]; exact H) | exact H
       have Ny162 := Aside0.mk hy162
       clear hy162
       simp only [Option.some.injEq, Prod.mk.injEq] at H
       obtain ⟨rfl, rfl⟩ := H
       try go_wp2
       replace BK138 := Aside0.mk (blk_drew BK138.out)
       replace HB := Aside0.mk (below_drew1 HB.out)
       have q31 : (1 : Int) ≤ ((l2.length : Int) : Int) := od (by assumption)
       obtain ⟨i031, hi031, _, hsz31, _⟩ := info_parts info48
       have hroom31 : l2.length ≤ c2 := HC2.out
       have hC31 : Kd.C k48 _ A2 l2.length l2 := HR2.out
       have hcut31 := cut_from (P := Try.prog) 56 48 .i64 Try.underlying56 hi031 2 hsz31 A2 l2.length c2 1 (by omega) q31
       have hr31 := Kd.C_drop (m := (1 : Int).toNat) (c := c2) hC31 (by omega) hroom31
       obtain ⟨A31, hA31⟩ : ∃ A1, A1 = (if c2 = (1 : Int).toNat then A2 else (A2 : Option Addr).map (·.add ((1 : Int).toNat * 2))) := ⟨_, rfl⟩
       obtain ⟨c31, hc31⟩ : ∃ c_, c_ = c2 - (1 : Int).toNat := ⟨_, rfl⟩
       have hy31 : y142.length = l2.length - (1 : Int).toNat := (by rw [Ny142.out, List.length_drop] <;> omega)
       rw [show (l2).drop (1 : Int).toNat = y142 from Ny142.out.symm] at hr31
       replace hr31 : Kd.C k48 _ A31 y142.length y142 := (by rw [hA31]; exact hr31)
       rw [← hy31, ← hA31, ← hc31] at hcut31
       have HR145 := Aside0.mk hr31
       have HC145 := Aside0.mk (show y142.length ≤ c31 from by rw [hy31, hc31]; exact Nat.sub_le_sub_right hroom31 _)
       clear hr31 hC31 hroom31 hi031 hsz31 hc31
       have KY31 := Aside0.mk hy31
       have KA31 := Aside0.mk hA31
       clear hy31 hA31
       replace q31 := eq_true q31
       refine start_ (n := 16) (S := fun w' => w'.cell? ⟨gb138, 0, none⟩ = some (.int .i64 ((rd_T46 l1 x20_1).f0)) ∧ w'.cell? ⟨gb138, 1, none⟩ = some (.int .i64 ((rd_T46 l1 x20_1).f1)) ∧ w'.cell? ⟨gb138, 2, none⟩ = some (.slice A137_2 ((rd_T46 l1 x20_1).f2).length c137_2)) (ds := []) (bv 16 0) (by kernel_rfl) rfl rfl ⟨(blk_cell BK138.out 0).trans rfl, (blk_cell BK138.out 1).trans rfl, (blk_cell BK138.out 2).trans rfl⟩ (fun hHeld => ?_); refine with_tabW impl_seated.tab7 impl_seated.bits7 (fun HT_ HW_ => ?_)
       generalize wc.drew = w30 at BK138 HB HR145 hHeld ⊢
       refine pv_ 16 0 38 1 rfl rfl HT_ ?_; refine pv_ 16 1 39 3 rfl rfl HT_ ?_; refine pv_ 16 2 40 7 rfl rfl HT_ ?_; refine pv_ 16 3 41 15 rfl rfl HT_ ?_; refine pv_ 16 4 42 31 rfl rfl HT_ ?_; refine pv_ 16 6 44 95 rfl rfl HT_ ?_
       refine tv_ 16 7 45 223 rfl rfl HT_ HW_ hHeld (by rintro w' ⟨s0, s1, s2⟩; go_simp; with_reducible rfl) ?_
       refine join_ (σ := Value × Value) 7 (bv 16 511) (fun s_ => [(43, s_.1), (46, s_.2)]) (fun s_ w' => (w'.cell? ⟨gb138, 0, none⟩ = some (.int .i64 ((rd_T46 l1 x20_1).f0)) ∧ w'.cell? ⟨gb138, 1, none⟩ = some (.int .i64 ((rd_T46 l1 x20_1).f1)) ∧ w'.cell? ⟨gb138, 2, none⟩ = some (.slice A137_2 ((rd_T46 l1 x20_1).f2).length c137_2)) ∧ (Kd.R (Kd.int .i64) 3 w' w.heap.size (fun k_ => some k_ ≠ (s_.2 : Value).ownBlock) s_.1 t146) ∧ (Kd.R (Kd.int .i64) 3 w' w.heap.size (fun k_ => some k_ ≠ (s_.1 : Value).ownBlock) s_.2 y149) ∧ (w'.heap[gb138]? = some (.cells #[.int .i64 ((rd_T46 l1 x20_1).f0), .int .i64 ((rd_T46 l1 x20_1).f1), .slice A137_2 ((rd_T46 l1 x20_1).f2).length c137_2] 46 (0, 0))) ∧ (Below w.heap.size w w')) ?_ ?_
       rotate_left
       ·
        intro hCont
        refine two_ (i := 5) (j := 8) (Ni := some 43) (Nj := some 46) (bv 16 255) (bv 16 479) rfl rfl rfl rfl (two_of HT_.out (by kernel_rfl)) (by decide) (by decide) (fun K hK => ?_) (fun K hK => ?_)
        ·
         skip
         refine goes_ Try.func90 (by kernel_rfl) rfl #[.slice A3 l3.length c3] (by rfl) rfl rfl (by (try simp only [Y1, Y2, Y3]); first | done | rfl | (simp only [Y4, Y5]; rfl)) ?_
         with_reducible refine (slices_Clone_int_int.calls _ _ l3 t146 _ ?side1 ?side2 A25.out).mono ?_
         (case side1 => repeat (first | exact (Kd.C_below HR3.out HB.out) | (with_reducible first | refine cA ?_ _ | refine cN ?_ _ | refine cD ?_)))
         (case side2 => exact HC3.out)
         rintro e w32 ⟨v147, rfl, ho0, hb⟩
         refine ⟨_, rfl, ?_⟩
         replace HO148 := Aside0.mk (Kd.R_lower ho0 (below_size (by repeat (first | (with_reducible first | exact HB.out | apply bA | apply bN | apply bD | refine below_set ?_ GE138.out) | exact HB.out))))
         replace BK138 := Aside0.mk (blk_below (g := gb138) (o := .cells #[.int .i64 ((rd_T46 l1 x20_1).f0), .int .i64 ((rd_T46 l1 x20_1).f1), .slice A137_2 ((rd_T46 l1 x20_1).f2).length c137_2] 46 (0, 0)) (by (with_reducible repeat (first | refine kN ?_ _ | refine kD ?_ | refine kA ?_ _)); exact BK138.out) hb)
         replace HB := Aside0.mk (below_step (by repeat (first | (with_reducible first | exact HB.out | apply bA | apply bN | apply bD | refine below_set ?_ GE138.out) | exact HB.out)) hb)
         (try clear hb)
         (try clear hb2)
         (try clear hk)
         (try clear hi)
         (try clear ho0)
         refine hK.out _ _ ⟨(blk_cell BK138.out 0).trans rfl, (blk_cell BK138.out 1).trans rfl, (blk_cell BK138.out 2).trans rfl⟩ (fun hHeld => ?_)
         clear hK K
         refine nm_ 43 ?_
         refine one_ (i := 8) (N := some 46) (bv 16 511) rfl rfl (one_of HT_.out (by kernel_rfl)) (by decide) (fun K hK => ?_)
         refine Kd.R_lit_step (Kd.int .i64) _ 3 ?hg (N := 46) ?hd (xs := ([((rd_T46 l1 x20_1).f0)] : List Int)) (inner := [.int .i64 ((rd_T46 l1 x20_1).f0)]) (ok := fun _ => True) (okp := fun _ => True) ?hr ?hp (fun _ hk => hk) trivial (Below.refl _ _) (Nat.le_refl _) (by simp) ?_; (case hd => rfl); (case hg => rfl); (case hr => first | (go_simp; done) | (go_simp; rfl)); (case hp => exact (Reps.one (show Kd.M (Kd.int .i64) _ _ _ ((rd_T46 l1 x20_1).f0) [.int .i64 ((rd_T46 l1 x20_1).f0)] from rfl) (Reps.none _ _)))
         intro v150 w33 ho34 hb hg_ hnew_
         clear hg_ hnew_
         (first | rw [← Ny149.out] at ho34 | (simp only [Int.reduceToNat] at ho34; rw [← Ny149.out] at ho34))
         have n0_ := Aside0.mk (Kd.R_elder' (by (with_reducible repeat (first | apply rA | apply rN | apply rD)); exact HO148.out) (Kd.R_base ho34) hb)
         have n1_ := Aside0.mk (Kd.R_lower (Kd.R_new' ho34 (Kd.R_lt (by (with_reducible repeat (first | apply rA | apply rN | apply rD)); exact HO148.out))) (below_size (by repeat (first | (with_reducible first | exact HB.out | apply bA | apply bN | apply bD | refine below_set ?_ GE138.out) | exact HB.out))))
         have n2_ := Aside0.mk (blk_below (g := gb138) (o := .cells #[.int .i64 ((rd_T46 l1 x20_1).f0), .int .i64 ((rd_T46 l1 x20_1).f1), .slice A137_2 ((rd_T46 l1 x20_1).f2).length c137_2] 46 (0, 0)) (by (with_reducible repeat (first | refine kN ?_ _ | refine kD ?_ | refine kA ?_ _)); exact BK138.out) hb)
         have n3_ := Aside0.mk (below_step (by repeat (first | (with_reducible first | exact HB.out | apply bA | apply bN | apply bD | refine below_set ?_ GE138.out) | exact HB.out)) hb)
         clear HO148
         clear BK138
         clear HB
         have HO148 := n0_
         have HO151 := n1_
         have BK138 := n2_
         have HB := n3_
         clear n0_ n1_ n2_ n3_
         clear hb ho34
         refine hK.out _ _ ⟨(blk_cell BK138.out 0).trans rfl, (blk_cell BK138.out 1).trans rfl, (blk_cell BK138.out 2).trans rfl⟩ (fun hHeld => ?_)
         clear hK K
         refine nm_ 46 ?_
         exact norm_ (by simp only [putAll, Act.put, Z1, Z2, Z3]) (hCont (v147, v150) _ ⟨hHeld, (by (with_reducible repeat (first | apply rA | apply rN | apply rD)); exact Kd.R_mono HO148.out (fun _ hk => hk.2)), (by (with_reducible repeat (first | apply rA | apply rN | apply rD)); exact Kd.R_mono HO151.out (fun _ hk => hk.2)), (by (with_reducible repeat (first | refine kN ?_ _ | refine kD ?_ | refine kA ?_ _)); exact BK138.out), (by repeat (first | (with_reducible first | exact HB.out | apply bA | apply bN | apply bD | refine below_set ?_ GE138.out) | exact HB.out))⟩)
        ·
         skip
         refine Kd.R_lit_step (Kd.int .i64) _ 3 ?hg (N := 46) ?hd (xs := ([((rd_T46 l1 x20_1).f0)] : List Int)) (inner := [.int .i64 ((rd_T46 l1 x20_1).f0)]) (ok := fun _ => True) (okp := fun _ => True) ?hr ?hp (fun _ hk => hk) trivial (Below.refl _ _) (Nat.le_refl _) (by simp) ?_; (case hd => rfl); (case hg => rfl); (case hr => first | (go_simp; done) | (go_simp; rfl)); (case hp => exact (Reps.one (show Kd.M (Kd.int .i64) _ _ _ ((rd_T46 l1 x20_1).f0) [.int .i64 ((rd_T46 l1 x20_1).f0)] from rfl) (Reps.none _ _)))
         intro v150 w32 ho33 hb hg_ hnew_
         clear hg_ hnew_
         (first | rw [← Ny149.out] at ho33 | (simp only [Int.reduceToNat] at ho33; rw [← Ny149.out] at ho33))
         replace HO151 := Aside0.mk (Kd.R_lower ho33 (below_size (by repeat (first | (with_reducible first | exact HB.out | apply bA | apply bN | apply bD | refine below_set ?_ GE138.out) | exact HB.out))))
         replace BK138 := Aside0.mk (blk_below (g := gb138) (o := .cells #[.int .i64 ((rd_T46 l1 x20_1).f0), .int .i64 ((rd_T46 l1 x20_1).f1), .slice A137_2 ((rd_T46 l1 x20_1).f2).length c137_2] 46 (0, 0)) (by (with_reducible repeat (first | refine kN ?_ _ | refine kD ?_ | refine kA ?_ _)); exact BK138.out) hb)
         replace HB := Aside0.mk (below_step (by repeat (first | (with_reducible first | exact HB.out | apply bA | apply bN | apply bD | refine below_set ?_ GE138.out) | exact HB.out)) hb)
         clear hb ho33
         refine hK.out _ _ ⟨(blk_cell BK138.out 0).trans rfl, (blk_cell BK138.out 1).trans rfl, (blk_cell BK138.out 2).trans rfl⟩ (fun hHeld => ?_)
         clear hK K
         refine nm_ 46 ?_
         refine one_ (i := 5) (N := some 43) (bv 16 511) rfl rfl (one_of HT_.out (by kernel_rfl)) (by decide) (fun K hK => ?_)
         refine goes_ Try.func90 (by kernel_rfl) rfl #[.slice A3 l3.length c3] (by rfl) rfl rfl (by (try simp only [Y1, Y2, Y3]); first | done | rfl | (simp only [Y4, Y5]; rfl)) ?_
         with_reducible refine (slices_Clone_int_int.calls _ _ l3 t146 _ ?side1 ?side2 A25.out).mono ?_
         (case side1 => repeat (first | exact (Kd.C_below HR3.out HB.out) | (with_reducible first | refine cA ?_ _ | refine cN ?_ _ | refine cD ?_)))
         (case side2 => exact HC3.out)
         rintro e w34 ⟨v147, rfl, ho0, hb⟩
         refine ⟨_, rfl, ?_⟩
         have n0_ := Aside0.mk (Kd.R_elder' (by (with_reducible repeat (first | apply rA | apply rN | apply rD)); exact HO151.out) (Kd.R_base ho0) hb)
         have n1_ := Aside0.mk (Kd.R_lower (Kd.R_new' ho0 (Kd.R_lt (by (with_reducible repeat (first | apply rA | apply rN | apply rD)); exact HO151.out))) (below_size (by repeat (first | (with_reducible first | exact HB.out | apply bA | apply bN | apply bD | refine below_set ?_ GE138.out) | exact HB.out))))
         have n2_ := Aside0.mk (blk_below (g := gb138) (o := .cells #[.int .i64 ((rd_T46 l1 x20_1).f0), .int .i64 ((rd_T46 l1 x20_1).f1), .slice A137_2 ((rd_T46 l1 x20_1).f2).length c137_2] 46 (0, 0)) (by (with_reducible repeat (first | refine kN ?_ _ | refine kD ?_ | refine kA ?_ _)); exact BK138.out) hb)
         have n3_ := Aside0.mk (below_step (by repeat (first | (with_reducible first | exact HB.out | apply bA | apply bN | apply bD | refine below_set ?_ GE138.out) | exact HB.out)) hb)
         clear HO151
         clear BK138
         clear HB
         have HO151 := n0_
         have HO148 := n1_
         have BK138 := n2_
         have HB := n3_
         clear n0_ n1_ n2_ n3_
         (try clear hb)
         (try clear hb2)
         (try clear hk)
         (try clear hi)
         (try clear ho0)
         refine hK.out _ _ ⟨(blk_cell BK138.out 0).trans rfl, (blk_cell BK138.out 1).trans rfl, (blk_cell BK138.out 2).trans rfl⟩ (fun hHeld => ?_)
         clear hK K
         refine nm_ 43 ?_
         exact norm_ (by simp only [putAll, Act.put, Z1, Z2, Z3]) (hCont (v147, v150) _ ⟨hHeld, (by (with_reducible repeat (first | apply rA | apply rN | apply rD)); exact Kd.R_mono HO148.out (fun _ hk => hk.2)), (by (with_reducible repeat (first | apply rA | apply rN | apply rD)); exact Kd.R_mono HO151.out (fun _ hk => hk.2)), (by (with_reducible repeat (first | refine kN ?_ _ | refine kD ?_ | refine kA ?_ _)); exact BK138.out), (by repeat (first | (with_reducible first | exact HB.out | apply bA | apply bN | apply bD | refine below_set ?_ GE138.out) | exact HB.out))⟩)
       rintro ⟨v147, v150⟩ w35 ⟨hS_, h0_, h1_, h2_, h3_⟩
       have n0_ : Aside0 (Kd.R (Kd.int .i64) 3 w35 w.heap.size (fun k_ => some k_ ≠ (v150 : Value).ownBlock) v147 t146) := ⟨h0_⟩
       have n1_ : Aside0 (Kd.R (Kd.int .i64) 3 w35 w.heap.size (fun k_ => some k_ ≠ (v147 : Value).ownBlock) v150 y149) := ⟨h1_⟩
       have n2_ : Aside0 (w35.heap[gb138]? = some (.cells #[.int .i64 ((rd_T46 l1 x20_1).f0), .int .i64 ((rd_T46 l1 x20_1).f1), .slice A137_2 ((rd_T46 l1 x20_1).f2).length c137_2] 46 (0, 0))) := ⟨h2_⟩
       have n3_ : Aside0 (Below w.heap.size w w35) := ⟨h3_⟩
       clear BK138
       clear HB
       clear h0_ h1_ h2_ h3_
       have HO148 := n0_
       have HO151 := n1_
       have BK138 := n2_
       have HB := n3_
       clear n0_ n1_ n2_ n3_
       have hHeld : w35.cell? ⟨gb138, 0, none⟩ = some (.int .i64 ((rd_T46 l1 x20_1).f0)) ∧ w35.cell? ⟨gb138, 1, none⟩ = some (.int .i64 ((rd_T46 l1 x20_1).f1)) ∧ w35.cell? ⟨gb138, 2, none⟩ = some (.slice A137_2 ((rd_T46 l1 x20_1).f2).length c137_2) := hS_
       obtain ⟨Ao37, co37, eo37⟩ := Kd.R_slice HO151.out
       (first | subst eo37 | (injection eo37 with f1_ f2_ f3_; have f4_ := f1_.symm; have f5_ := f3_.symm; clear f1_ f2_ f3_; subst f4_; subst f5_))
       refine norm_ (a' := ?_) ?_ ?_
       rotate_left
       ·
        simp only [putAll, Act.put, Z1, Z2, Z3]
        rfl
       refine one_ (i := 9) (N := some 47) (bv 16 1023) rfl rfl (one_of HT_.out (by kernel_rfl)) (by decide) (fun K hK => ?_)
       refine Kd.R_append_rows_step (Kd.int .i64) (w0 := w) w.heap.size (by rfl) (.tmp 43) (.tmp 46) 29 3 (.int .i64 0) 8 rfl Try.underlying29 info3 rfl (by decide) (by omega) v147 t146 y149 _ _ _ (fun k_ => some k_ ≠ (.slice Ao37 y149.length co37 : Value).ownBlock) (fun _ => False) rfl rfl ?aO ?aR (fun _ _ h => h) (fun _ h => h.elim) ?aF ?aB ?aS ?aL ?_
       (case aR => repeat (first | exact (Kd.R_reads' HO151.out).2.2 | (with_reducible first | refine cA ?_ _ | refine cN ?_ _ | refine cD ?_)))
       (case aB => exact (by repeat (first | (with_reducible first | exact HB.out | apply bA | apply bN | apply bD | refine below_set ?_ GE138.out) | exact HB.out)))
       (case aF => exact (fun k_ hk => Kd.fresh' (Kd.R_lt (by (with_reducible repeat (first | apply rA | apply rN | apply rD)); exact HO151.out)) k_ hk))
       (case aO => exact (by (with_reducible repeat (first | apply rA | apply rN | apply rD)); exact HO148.out))
       (case aS => exact (below_size (by repeat (first | (with_reducible first | exact HB.out | apply bA | apply bN | apply bD | refine below_set ?_ GE138.out) | exact HB.out))))
       (case aL => have := LMc26.out; omega)
       intro v153 w36 ho hb hg hat
       rw [← Ny152.out] at ho
       replace BK138 := Aside0.mk (blk_grown (g := gb138) (o := .cells #[.int .i64 ((rd_T46 l1 x20_1).f0), .int .i64 ((rd_T46 l1 x20_1).f1), .slice A137_2 ((rd_T46 l1 x20_1).f2).length c137_2] 46 (0, 0)) (by (with_reducible repeat (first | refine kN ?_ _ | refine kD ?_ | refine kA ?_ _)); exact BK138.out) hg (Kd.R_ne HO148.out BK138.out (by decide)))
       replace HO151 := Aside0.mk (Kd.R_after (ok := (fun _ => True)) (by (with_reducible repeat (first | apply rA | apply rN | apply rD)); exact Kd.R_mono HO151.out (fun _ hk => ⟨trivial, hk⟩)) hg hat)
       replace HB := Aside0.mk (hb)
       replace HO154 := Aside0.mk (ho)
       clear HO148
       clear ho hb hg hat
       obtain ⟨Ao38, co38, eo38⟩ := Kd.R_slice HO154.out
       (first | subst eo38 | (injection eo38 with f1_ f2_ f3_; have f4_ := f1_.symm; have f5_ := f3_.symm; clear f1_ f2_ f3_; subst f4_; subst f5_))
       refine hK.out _ _ ⟨(blk_cell BK138.out 0).trans rfl, (blk_cell BK138.out 1).trans rfl, (blk_cell BK138.out 2).trans rfl⟩ (fun hHeld => ?_)
       clear hK K
       refine nm_ 47 ?_
       refine one_ (i := 10) (N := some 48) (bv 16 2047) rfl rfl (one_of HT_.out (by kernel_rfl)) (by decide) (fun K hK => ?_)
       refine goes_ Try.func71 (by kernel_rfl) rfl #[.slice A0 l0.length c0, .slice (some ad137) l1.length c1, .slice A31 y142.length c31, .slice Ao38 y152.length co38] (by rfl) rfl rfl (by (try simp only [Y1, Y2, Y3]); first | done | rfl | (simp only [Y4, Y5]; rfl)) ?_
       with_reducible refine (ih kj10 (by have := HK1.out; have := HJ10.out; omega) _ _ l0 _ _ l1 _ _ y142 _ _ y152 t155 true _ ?side1 ?side2 ?side3 ?side4 ?side5 ?side6 ?side7 ?side8 A27.out).mono ?_
       (case side1 => repeat (first | exact (Kd.C_below HR0.out HB.out) | (with_reducible first | refine cA ?_ _ | refine cN ?_ _ | refine cD ?_)))
       (case side2 => exact HC0.out)
       (case side3 => repeat (first | exact (Kd.C_below HR1.out HB.out) | (with_reducible first | refine cA ?_ _ | refine cN ?_ _ | refine cD ?_)))
       (case side4 => exact HC1.out)
       (case side5 => repeat (first | exact (Kd.C_below HR145.out HB.out) | (with_reducible first | refine cA ?_ _ | refine cN ?_ _ | refine cD ?_)))
       (case side6 => exact HC145.out)
       (case side7 => repeat (first | exact (Kd.R_reads' HO154.out).2.2 | (with_reducible first | refine cA ?_ _ | refine cN ?_ _ | refine cD ?_)))
       (case side8 => exact (Kd.R_reads' HO154.out).2.1)
       rintro e w39 ⟨v157, rfl, ho0, hb⟩
       refine ⟨_, rfl, ?_⟩
       have n0_ := Aside0.mk (Kd.R_elder' (by (with_reducible repeat (first | apply rA | apply rN | apply rD)); exact HO151.out) (Kd.R_base ho0) hb)
       have n1_ := Aside0.mk (Kd.R_elder' (by (with_reducible repeat (first | apply rA | apply rN | apply rD)); exact HO154.out) (Kd.R_base ho0) hb)
       have n2_ := Aside0.mk (Kd.R_lower (Kd.R_new' (Kd.R_new' ho0 (Kd.R_lt (by (with_reducible repeat (first | apply rA | apply rN | apply rD)); exact HO151.out))) (Kd.R_lt (by (with_reducible repeat (first | apply rA | apply rN | apply rD)); exact HO154.out))) (below_size (by repeat (first | (with_reducible first | exact HB.out | apply bA | apply bN | apply bD | refine below_set ?_ GE138.out) | exact HB.out))))
       have n3_ := Aside0.mk (blk_below (g := gb138) (o := .cells #[.int .i64 ((rd_T46 l1 x20_1).f0), .int .i64 ((rd_T46 l1 x20_1).f1), .slice A137_2 ((rd_T46 l1 x20_1).f2).length c137_2] 46 (0, 0)) (by (with_reducible repeat (first | refine kN ?_ _ | refine kD ?_ | refine kA ?_ _)); exact BK138.out) hb)
       have n4_ := Aside0.mk (below_step (by repeat (first | (with_reducible first | exact HB.out | apply bA | apply bN | apply bD | refine below_set ?_ GE138.out) | exact HB.out)) hb)
       clear HO151
       clear HO154
       clear BK138
       clear HB
       have HO151 := n0_
       have HO154 := n1_
       have HO158 := n2_
       have BK138 := n3_
       have HB := n4_
       clear n0_ n1_ n2_ n3_ n4_
       (try clear hb)
       (try clear hb2)
       (try clear hk)
       (try clear hi)
       (try clear ho0)
       refine hK.out _ _ ⟨(blk_cell BK138.out 0).trans rfl, (blk_cell BK138.out 1).trans rfl, (blk_cell BK138.out 2).trans rfl⟩ (fun hHeld => ?_)
       clear hK K
       refine nm_ 48 ?_
       refine pv_ 16 11 37 4095 rfl rfl HT_ ?_; refine pv_ 16 12 49 8191 rfl rfl HT_ ?_; refine pv_ 16 13 50 16383 rfl rfl HT_ ?_; refine pv_ 16 14 12 32767 rfl rfl HT_ ?_; refine pv_ 16 15 13 65535 rfl rfl HT_ ?_
       refine done_ (done_of HT_.out (by kernel_rfl)) ?_
       have hcz40_0 : w39.cell? ⟨gb138, 0, none⟩ = some (.int .i64 ((rd_T46 l1 x20_1).f0)) := (blk_cell BK138.out 0).trans rfl
       have hcz40_1 : w39.cell? ⟨gb138, 1, none⟩ = some (.int .i64 ((rd_T46 l1 x20_1).f1)) := (blk_cell BK138.out 1).trans rfl
       have hcz40_2 : w39.cell? ⟨gb138, 2, none⟩ = some (.slice A137_2 ((rd_T46 l1 x20_1).f2).length c137_2) := (blk_cell BK138.out 2).trans rfl
       have hfz40_0 := blk_frozen BK138.out 0
       have hfz40_1 := blk_frozen BK138.out 1
       have hfz40_2 := blk_frozen BK138.out 2
       try go_wp2_with (first | ((with_reducible refine gate_dst (N := 54) rfl ?_); refine Kd.R_lit (Kd.int .i64) _ 3 ?hg (N := 54) ?hd (xs := ([((rd_T46 l1 x20_1).f0)] : List Int)) (inner := [.int .i64 ((rd_T46 l1 x20_1).f0)]) (ok := fun _ => True) (okp := fun _ => True) ?hr ?hp (fun _ hk => hk) trivial (Below.refl _ _) (Nat.le_refl _) (by simp) ?_; (case hd => rfl); (case hg => rfl); (case hr => first | (go_simp; done) | (go_simp; rfl)); (case hp => exact (Reps.one (show Kd.M (Kd.int .i64) _ _ _ ((rd_T46 l1 x20_1).f0) [.int .i64 ((rd_T46 l1 x20_1).f0)] from rfl) (Reps.none _ _))); intro v160 w41 ho42 hb hg_ hnew_; clear hg_ hnew_; (first | rw [← Ny159.out] at ho42 | (simp only [Int.reduceToNat] at ho42; rw [← Ny159.out] at ho42)); have n0_ := Aside0.mk (Kd.R_elder' (by (with_reducible repeat (first | apply rA | apply rN | apply rD)); exact HO151.out) (Kd.R_base ho42) hb); have n1_ := Aside0.mk (Kd.R_elder' (by (with_reducible repeat (first | apply rA | apply rN | apply rD)); exact HO154.out) (Kd.R_base ho42) hb); have n2_ := Aside0.mk (Kd.R_elder' (by (with_reducible repeat (first | apply rA | apply rN | apply rD)); exact HO158.out) (Kd.R_base ho42) hb); have n3_ := Aside0.mk (Kd.R_lower (Kd.R_new' (Kd.R_new' (Kd.R_new' ho42 (Kd.R_lt (by (with_reducible repeat (first | apply rA | apply rN | apply rD)); exact HO151.out))) (Kd.R_lt (by (with_reducible repeat (first | apply rA | apply rN | apply rD)); exact HO154.out))) (Kd.R_lt (by (with_reducible repeat (first | apply rA | apply rN | apply rD)); exact HO158.out))) (below_size (by repeat (first | (with_reducible first | exact HB.out | apply bA | apply bN | apply bD | refine below_set ?_ GE138.out) | exact HB.out)))); have n4_ := Aside0.mk (blk_below (g := gb138) (o := .cells #[.int .i64 ((rd_T46 l1 x20_1).f0), .int .i64 ((rd_T46 l1 x20_1).f1), .slice A137_2 ((rd_T46 l1 x20_1).f2).length c137_2] 46 (0, 0)) (by (with_reducible repeat (first | refine kN ?_ _ | refine kD ?_ | refine kA ?_ _)); exact BK138.out) hb); have n5_ := Aside0.mk (below_step (by repeat (first | (with_reducible first | exact HB.out | apply bA | apply bN | apply bD | refine below_set ?_ GE138.out) | exact HB.out)) hb); clear HO151; clear HO154; clear HO158; clear BK138; clear HB; have HO151 := n0_; have HO154 := n1_; have HO158 := n2_; have HO161 := n3_; have BK138 := n4_; have HB := n5_; clear n0_ n1_ n2_ n3_ n4_ n5_; clear hb ho42; obtain ⟨Ao44, co44, eo44⟩ := Kd.R_slice HO158.out; subst eo44) | ((with_reducible refine gate_builtin (b := .append) (xs := #[.tmp 54, .tmp 55]) rfl ?_); at_builtin; refine Kd.R_append_rows (Kd.int .i64) (w0 := w) w.heap.size rfl (.tmp 54) (.tmp 55) 29 3 (.int .i64 0) 8 rfl Try.underlying29 info3 rfl (by decide) (by omega) v160 y159 t155 _ _ _ (fun k_ => some k_ ≠ (.slice Ao37 y149.length co37 : Value).ownBlock ∧ some k_ ≠ (.slice Ao38 y152.length co38 : Value).ownBlock ∧ some k_ ≠ (.slice Ao44 t155.length co44 : Value).ownBlock) (fun _ => False) rfl rfl ?aO ?aR (fun _ _ h => h) (fun _ h => h.elim) ?aF ?aB ?aS ?aL ?_; (case aR => repeat (first | exact (Kd.R_reads' HO158.out).2.2 | (with_reducible first | refine cA ?_ _ | refine cN ?_ _ | refine cD ?_))); (case aB => exact (by repeat (first | (with_reducible first | exact HB.out | apply bA | apply bN | apply bD | refine below_set ?_ GE138.out) | exact HB.out))); (case aF => exact (fun k_ hk => ⟨Kd.fresh' (Kd.R_lt (by (with_reducible repeat (first | apply rA | apply rN | apply rD)); exact HO151.out)) k_ hk, Kd.fresh' (Kd.R_lt (by (with_reducible repeat (first | apply rA | apply rN | apply rD)); exact HO154.out)) k_ hk, Kd.fresh' (Kd.R_lt (by (with_reducible repeat (first | apply rA | apply rN | apply rD)); exact HO158.out)) k_ hk⟩)); (case aO => exact (by (with_reducible repeat (first | apply rA | apply rN | apply rD)); exact Kd.R_mono HO161.out (fun _ hk => ⟨hk.1.1.2, ⟨hk.1.2, hk.2⟩⟩))); (case aS => exact (below_size (by repeat (first | (with_reducible first | exact HB.out | apply bA | apply bN | apply bD | refine below_set ?_ GE138.out) | exact HB.out)))); (case aL => have := LMc29.out; omega); intro v163 w43 ho hb hg hat; rw [← Ny162.out] at ho; replace BK138 := Aside0.mk (blk_grown (g := gb138) (o := .cells #[.int .i64 ((rd_T46 l1 x20_1).f0), .int .i64 ((rd_T46 l1 x20_1).f1), .slice A137_2 ((rd_T46 l1 x20_1).f2).length c137_2] 46 (0, 0)) (by (with_reducible repeat (first | refine kN ?_ _ | refine kD ?_ | refine kA ?_ _)); exact BK138.out) hg (Kd.R_ne HO161.out BK138.out (by decide))); replace HO151 := Aside0.mk (Kd.R_after (ok := (fun k_ => some k_ ≠ (.slice Ao38 y152.length co38 : Value).ownBlock ∧ some k_ ≠ (.slice Ao44 t155.length co44 : Value).ownBlock)) (by (with_reducible repeat (first | apply rA | apply rN | apply rD)); exact Kd.R_mono HO151.out (fun _ hk => ⟨⟨hk.1.1.2, hk.1.2⟩, hk.2⟩)) hg hat); replace HO154 := Aside0.mk (Kd.R_after (ok := (fun k_ => some k_ ≠ (.slice Ao37 y149.length co37 : Value).ownBlock ∧ some k_ ≠ (.slice Ao44 t155.length co44 : Value).ownBlock)) (by (with_reducible repeat (first | apply rA | apply rN | apply rD)); exact HO154.out) hg hat); replace HO158 := Aside0.mk (Kd.R_after (ok := (fun k_ => some k_ ≠ (.slice Ao37 y149.length co37 : Value).ownBlock ∧ some k_ ≠ (.slice Ao38 y152.length co38 : Value).ownBlock)) (by (with_reducible repeat (first | apply rA | apply rN | apply rD)); exact Kd.R_mono HO158.out (fun _ hk => ⟨⟨hk.1.1.2, hk.1.2⟩, hk.2⟩)) hg hat); replace HB := Aside0.mk (hb); replace HO164 := Aside0.mk (ho); clear HO161; clear ho hb hg hat))
       go_ret2
       exact ⟨_, by first | rfl | (simp [*, errW_none, errW_some] <;> rfl), by (with_reducible repeat (first | apply rA | apply rN | apply rD)); exact Kd.R_mono HO164.out (fun _ hk => trivial), by repeat (first | (with_reducible first | exact HB.out | apply bA | apply bN | apply bD | refine below_set ?_ GE138.out) | exact HB.out)⟩
      subst c23
      have H1 : (impl_seated.l0 kj10 l0 l1 l2 l3 l1 (l1.length : Int) (wrap64 (x20_1 + 1))) = some (r1, r2) := by rw [if_pos rfl] at H; exact H
      clear H
      have H := H1
      clear H1
      have H' := Aside0.mk H
      clear H
      go_wp2
      go_roundg kj10
      case measure => have := HK1.out; have := HJ10.out; omega
      case rel => exact ⟨(wrap64 (x20_1 + 1)), (by first | rfl | (simp; done) | (simp [*]; done)), H', ⟨by have := HK1.out; have := HJ10.out; omega⟩, ⟨by repeat (first | (with_reducible first | exact HB.out | apply bA | apply bN | apply bD | refine below_set ?_ GE138.out) | exact HB.out)⟩⟩
 rw [if_pos c5] at H
 have c5b0 : ((l2.length : Int) == 0) = true := beq_iff_eq.mpr c5
 have c5b1 : ((l2.length : Int) != 0) = false := bne_eq_false_iff_eq.mpr c5
 clear c5
 obtain ⟨y131, hy131⟩ : ∃ y_ : List Int, y_ = (([] : List Int)) := ⟨_, rfl⟩
 replace H : (some (y131, true)) = some (r1, r2) := by first | (rw [hy131]; with_reducible exact H) | (have H2_ := (Option.bind_some _ _).symm.trans H; rw [hy131]; with_reducible exact H2_) | (have H2_ := (Option.bind_some _ _).symm.trans H; with_reducible exact H2_) | with_reducible exact H | (rw [hy131]; exact H) | exact H
 have Ny131 := Aside0.mk hy131
 clear hy131
 simp only [Option.some.injEq, Prod.mk.injEq] at H
 obtain ⟨rfl, rfl⟩ := H
 go_enter Try.func71, Try.ntmps71
 go_wp2_with (first | ((with_reducible refine gate_dst (N := 17) rfl ?_); refine Kd.R_lit (Kd.int .i64) _ 3 ?hg (N := 17) ?hd (xs := ([] : List Int)) (inner := []) (ok := fun _ => True) (okp := fun _ => True) ?hr ?hp (fun _ hk => hk) trivial (Below.refl _ _) (Nat.le_refl _) (by simp) ?_; (case hd => rfl); (case hg => rfl); (case hr => first | (go_simp; done) | (go_simp; rfl)); (case hp => exact (Reps.none _ _)); intro v132 w6 ho7 hb hg_ hnew_; clear hg_ hnew_; (first | rw [← Ny131.out] at ho7 | (simp only [Int.reduceToNat] at ho7; rw [← Ny131.out] at ho7)); replace HO133 := Aside0.mk (Kd.R_lower ho7 (below_size (by repeat (first | (with_reducible first | exact HB.out | apply bA | apply bN | apply bD) | exact HB.out)))); replace HB := Aside0.mk (below_step (by repeat (first | (with_reducible first | exact HB.out | apply bA | apply bN | apply bD) | exact HB.out)) hb); clear hb ho7))
 go_ret2
 exact ⟨_, by first | rfl | (simp [*, errW_none, errW_some] <;> rfl), by (with_reducible repeat (first | apply rA | apply rN | apply rD)); exact HO133.out, by repeat (first | (with_reducible first | exact HB.out | apply bA | apply bN | apply bD) | exact HB.out)⟩
def impl_SeatJudges.f (k : Nat) (l0 : List (S78)) (l1 : List (S46)) (l2 : List (S48)) : Option (List Int × Bool) := (impl_AreJudges.f k l1).bind fun t165 => (if t165 = true then ((impl_AreTeams.f k l0).bind fun t166 => (if t166 = true then (if (l2.length : Int) > (l1.length : Int) then (some ((([] : List Int)), false)) else ((impl_seated.f k l0 l1 l2 ([] : List Int)).bind fun bt170 => (some (bt170.1, bt170.2)))) else (some ((([] : List Int)), false)))) else (some ((([] : List Int)), false)))
set_option maxHeartbeats 8000000 in
set_option maxRecDepth 100000 in
theorem impl_SeatJudges.calls (k : Nat) (A0 : Option Addr) (c0 : Nat) (l0 : List (S78)) (A1 : Option Addr) (c1 : Nat) (l1 : List (S46)) (A2 : Option Addr) (c2 : Nat) (l2 : List (S48)) (r1 : List Int) (r2 : Bool) (w : World) (hr0 : Kd.C k78 w A0 l0.length l0) (hc0 : l0.length ≤ c0) (hr1 : Kd.C k46 w A1 l1.length l1) (hc1 : l1.length ≤ c1) (hr2 : Kd.C k48 w A2 l2.length l2) (hc2 : l2.length ≤ c2) (h : impl_SeatJudges.f k l0 l1 l2 = some (r1, r2)) :
  Calls Try.prog 37 #[.slice A0 l0.length c0, .slice A1 l1.length c1, .slice A2 l2.length c2] w fun e w' => ∃ v0_ : Value, e = .returned (.tuple #[v0_, .bool r2]) ∧ Kd.R (Kd.int .i64) 3 w' w.heap.size (fun _ => True) v0_ r1 ∧ Below w.heap.size w w' := by
 have HR0 := Aside0.mk hr0
 have HC0 := Aside0.mk hc0
 clear hr0 hc0
 have HR1 := Aside0.mk hr1
 have HC1 := Aside0.mk hc1
 clear hr1 hc1
 have HR2 := Aside0.mk hr2
 have HC2 := Aside0.mk hc2
 clear hr2 hc2
 have HB := Aside0.mk (Below.refl w.heap.size w)
 have H : ((impl_AreJudges.f k l1).bind fun t165 => (if t165 = true then ((impl_AreTeams.f k l0).bind fun t166 => (if t166 = true then (if (l2.length : Int) > (l1.length : Int) then (some ((([] : List Int)), false)) else ((impl_seated.f k l0 l1 l2 ([] : List Int)).bind fun bt170 => (some (bt170.1, bt170.2)))) else (some ((([] : List Int)), false)))) else (some ((([] : List Int)), false)))) = some (r1, r2) := h
 clear h
 replace H := Option.bind_eq_some_iff.mp H
 obtain ⟨t165, A40, H⟩ := H
 replace H : (if t165 = true then ((impl_AreTeams.f k l0).bind fun t166 => (if t166 = true then (if (l2.length : Int) > (l1.length : Int) then (some ((([] : List Int)), false)) else ((impl_seated.f k l0 l1 l2 ([] : List Int)).bind fun bt170 => (some (bt170.1, bt170.2)))) else (some ((([] : List Int)), false)))) else (some ((([] : List Int)), false))) = some (r1, r2) := H
 have A4 := Aside0.mk A40
 clear A40
 by_cases c5 : t165 = true
 ·
  subst c5
  have H1 : ((impl_AreTeams.f k l0).bind fun t166 => (if t166 = true then (if (l2.length : Int) > (l1.length : Int) then (some ((([] : List Int)), false)) else ((impl_seated.f k l0 l1 l2 ([] : List Int)).bind fun bt170 => (some (bt170.1, bt170.2)))) else (some ((([] : List Int)), false)))) = some (r1, r2) := by rw [if_pos rfl] at H; exact H
  clear H
  have H := H1
  clear H1
  replace H := Option.bind_eq_some_iff.mp H
  obtain ⟨t166, A60, H⟩ := H
  replace H : (if t166 = true then (if (l2.length : Int) > (l1.length : Int) then (some ((([] : List Int)), false)) else ((impl_seated.f k l0 l1 l2 ([] : List Int)).bind fun bt170 => (some (bt170.1, bt170.2)))) else (some ((([] : List Int)), false))) = some (r1, r2) := H
  have A6 := Aside0.mk A60
  clear A60
  by_cases c7 : t166 = true
  ·
   subst c7
   have H1 : (if (l2.length : Int) > (l1.length : Int) then (some ((([] : List Int)), false)) else ((impl_seated.f k l0 l1 l2 ([] : List Int)).bind fun bt170 => (some (bt170.1, bt170.2)))) = some (r1, r2) := by rw [if_pos rfl] at H; exact H
   clear H
   have H := H1
   clear H1
   by_cases c8 : (l2.length : Int) > (l1.length : Int)
   ·
    rw [if_pos c8] at H
    have c8b0 : decide ((l1.length : Int) < (l2.length : Int)) = true := decide_eq_true c8
    have c8b1 : decide (l1.length < l2.length) = true := decide_eq_true (Int.ofNat_lt.mp c8)
    clear c8
    obtain ⟨y167, hy167⟩ : ∃ y_ : List Int, y_ = (([] : List Int)) := ⟨_, rfl⟩
    replace H : (some (y167, false)) = some (r1, r2) := by first | (rw [hy167]; with_reducible exact H) | (have H2_ := (Option.bind_some _ _).symm.trans H; rw [hy167]; with_reducible exact H2_) | (have H2_ := (Option.bind_some _ _).symm.trans H; with_reducible exact H2_) | with_reducible exact H | (rw [hy167]; exact H) | exact H
    have Ny167 := Aside0.mk hy167
    clear hy167
    simp only [Option.some.injEq, Prod.mk.injEq] at H
    obtain ⟨rfl, rfl⟩ := H
    go_enter Try.func37, Try.ntmps37
    go_wp2_with (first | ((with_reducible refine gate_callee (f := 13) rfl ?_); refine goesL_ (some 9) rfl rfl Try.func13 (by kernel_rfl) rfl #[.slice A1 l1.length c1] rfl (by (try simp only [Y1, Y2, Y3]); first | done | rfl | (simp only [Y4, Y5]; rfl)) ?_; (with_reducible refine (impl_AreJudges.calls k _ _ l1 true _ ?side1 ?side2 A4.out).mono ?_); (case side1 => repeat (first | exact HR1.out | (with_reducible first | refine cA ?_ _ | refine cN ?_ _ | refine cD ?_))); (case side2 => exact HC1.out); rintro e w9 ⟨rfl, hb⟩; refine ⟨_, rfl, ?_⟩; replace HB := Aside0.mk (below_step (by repeat (first | (with_reducible first | exact HB.out | apply bA | apply bN | apply bD) | exact HB.out)) hb); (try clear hb); (try clear hb2); (try clear hk); (try clear hi)) | (go_at_call 42; (with_reducible refine (impl_AreTeams.calls k _ _ l0 true _ ?side1 ?side2 A6.out).mono ?_); (case side1 => repeat (first | exact (Kd.C_below HR0.out HB.out) | (with_reducible first | refine cA ?_ _ | refine cN ?_ _ | refine cD ?_))); (case side2 => exact HC0.out); rintro e w10 ⟨rfl, hb⟩; replace HB := Aside0.mk (below_step (by repeat (first | (with_reducible first | exact HB.out | apply bA | apply bN | apply bD) | exact HB.out)) hb); (try clear hb); (try clear hb2); (try clear hk); (try clear hi)) | ((with_reducible refine gate_dst (N := 23) rfl ?_); (try (refine gate_guard (by rfl) ?_; dsimp only)); refine Kd.R_lit (Kd.int .i64) _ 3 ?hg (N := 23) ?hd (xs := ([] : List Int)) (inner := []) (ok := fun _ => True) (okp := fun _ => True) ?hr ?hp (fun _ hk => hk) trivial (Below.refl _ _) (Nat.le_refl _) (by simp) ?_; (case hd => rfl); (case hg => rfl); (case hr => first | (go_simp; done) | (go_simp; rfl)); (case hp => exact (Reps.none _ _)); intro v168 w11 ho12 hb hg_ hnew_; clear hg_ hnew_; (first | rw [← Ny167.out] at ho12 | (simp only [Int.reduceToNat] at ho12; rw [← Ny167.out] at ho12)); replace HO169 := Aside0.mk (Kd.R_lower ho12 (below_size (by repeat (first | (with_reducible first | exact HB.out | apply bA | apply bN | apply bD) | exact HB.out)))); replace HB := Aside0.mk (below_step (by repeat (first | (with_reducible first | exact HB.out | apply bA | apply bN | apply bD) | exact HB.out)) hb); clear hb ho12))
    go_ret2
    exact ⟨_, by first | rfl | (simp [*, errW_none, errW_some] <;> rfl), by (with_reducible repeat (first | apply rA | apply rN | apply rD)); exact HO169.out, by repeat (first | (with_reducible first | exact HB.out | apply bA | apply bN | apply bD) | exact HB.out)⟩
   ·
    rw [if_neg c8] at H
    have c8b0 : decide ((l1.length : Int) < (l2.length : Int)) = false := decide_eq_false c8
    have c8b1 : decide (l1.length < l2.length) = false := decide_eq_false (fun h => c8 (Int.ofNat_lt.mpr h))
    clear c8
    replace H := Option.bind_eq_some_iff.mp H
    obtain ⟨⟨t170, t171⟩, A130, H⟩ := H
    replace H : (some (t170, t171)) = some (r1, r2) := H
    have A13 := Aside0.mk A130
    clear A130
    simp only [Option.some.injEq, Prod.mk.injEq] at H
    obtain ⟨rfl, rfl⟩ := H
    go_enter Try.func37, Try.ntmps37
    go_wp2_with (first | ((with_reducible refine gate_callee (f := 13) rfl ?_); refine goesL_ (some 9) rfl rfl Try.func13 (by kernel_rfl) rfl #[.slice A1 l1.length c1] rfl (by (try simp only [Y1, Y2, Y3]); first | done | rfl | (simp only [Y4, Y5]; rfl)) ?_; (with_reducible refine (impl_AreJudges.calls k _ _ l1 true _ ?side1 ?side2 A4.out).mono ?_); (case side1 => repeat (first | exact HR1.out | (with_reducible first | refine cA ?_ _ | refine cN ?_ _ | refine cD ?_))); (case side2 => exact HC1.out); rintro e w14 ⟨rfl, hb⟩; refine ⟨_, rfl, ?_⟩; replace HB := Aside0.mk (below_step (by repeat (first | (with_reducible first | exact HB.out | apply bA | apply bN | apply bD) | exact HB.out)) hb); (try clear hb); (try clear hb2); (try clear hk); (try clear hi)) | (go_at_call 42; (with_reducible refine (impl_AreTeams.calls k _ _ l0 true _ ?side1 ?side2 A6.out).mono ?_); (case side1 => repeat (first | exact (Kd.C_below HR0.out HB.out) | (with_reducible first | refine cA ?_ _ | refine cN ?_ _ | refine cD ?_))); (case side2 => exact HC0.out); rintro e w15 ⟨rfl, hb⟩; replace HB := Aside0.mk (below_step (by repeat (first | (with_reducible first | exact HB.out | apply bA | apply bN | apply bD) | exact HB.out)) hb); (try clear hb); (try clear hb2); (try clear hk); (try clear hi)) | ((with_reducible refine gate_callee (f := 71) rfl ?_); refine goesL_ (some 27) rfl rfl Try.func71 (by kernel_rfl) rfl #[.slice A0 l0.length c0, .slice A1 l1.length c1, .slice A2 l2.length c2, .slice none 0 0] rfl (by (try simp only [Y1, Y2, Y3]); first | done | rfl | (simp only [Y4, Y5]; rfl)) ?_; (refine (impl_seated.calls k _ _ l0 _ _ l1 _ _ l2 _ _ ([] : List Int) t170 t171 _ ?side1 ?side2 ?side3 ?side4 ?side5 ?side6 ?side7 ?side8 A13.out).mono ?_); (case side1 => repeat (first | exact (Kd.C_below HR0.out HB.out) | (with_reducible first | refine cA ?_ _ | refine cN ?_ _ | refine cD ?_))); (case side2 => exact HC0.out); (case side3 => repeat (first | exact (Kd.C_below HR1.out HB.out) | (with_reducible first | refine cA ?_ _ | refine cN ?_ _ | refine cD ?_))); (case side4 => exact HC1.out); (case side5 => repeat (first | exact (Kd.C_below HR2.out HB.out) | (with_reducible first | refine cA ?_ _ | refine cN ?_ _ | refine cD ?_))); (case side6 => exact HC2.out); (case side7 => exact Kd.C_nil _ _); (case side8 => exact Nat.le_refl _); rintro e w16 ⟨v172, rfl, ho0, hb⟩; refine ⟨_, rfl, ?_⟩; replace HO173 := Aside0.mk (Kd.R_lower ho0 (below_size (by repeat (first | (with_reducible first | exact HB.out | apply bA | apply bN | apply bD) | exact HB.out)))); replace HB := Aside0.mk (below_step (by repeat (first | (with_reducible first | exact HB.out | apply bA | apply bN | apply bD) | exact HB.out)) hb); (try clear hb); (try clear hb2); (try clear hk); (try clear hi); (try clear ho0)))
    go_ret2
    exact ⟨_, by first | rfl | (simp [*, errW_none, errW_some] <;> rfl), by (with_reducible repeat (first | apply rA | apply rN | apply rD)); exact HO173.out, by repeat (first | (with_reducible first | exact HB.out | apply bA | apply bN | apply bD) | exact HB.out)⟩
  ·
   replace c7 := Bool.eq_false_iff.mpr c7
   subst c7
   have H1 : (some ((([] : List Int)), false)) = some (r1, r2) := by rw [if_neg (show ¬ (false = true) by decide)] at H; exact H
   clear H
   have H := H1
   clear H1
   obtain ⟨y174, hy174⟩ : ∃ y_ : List Int, y_ = (([] : List Int)) := ⟨_, rfl⟩
   replace H : (some (y174, false)) = some (r1, r2) := by first | (rw [hy174]; with_reducible exact H) | (have H2_ := (Option.bind_some _ _).symm.trans H; rw [hy174]; with_reducible exact H2_) | (have H2_ := (Option.bind_some _ _).symm.trans H; with_reducible exact H2_) | with_reducible exact H | (rw [hy174]; exact H) | exact H
   have Ny174 := Aside0.mk hy174
   clear hy174
   simp only [Option.some.injEq, Prod.mk.injEq] at H
   obtain ⟨rfl, rfl⟩ := H
   go_enter Try.func37, Try.ntmps37
   go_wp2_with (first | ((with_reducible refine gate_callee (f := 13) rfl ?_); refine goesL_ (some 9) rfl rfl Try.func13 (by kernel_rfl) rfl #[.slice A1 l1.length c1] rfl (by (try simp only [Y1, Y2, Y3]); first | done | rfl | (simp only [Y4, Y5]; rfl)) ?_; (with_reducible refine (impl_AreJudges.calls k _ _ l1 true _ ?side1 ?side2 A4.out).mono ?_); (case side1 => repeat (first | exact HR1.out | (with_reducible first | refine cA ?_ _ | refine cN ?_ _ | refine cD ?_))); (case side2 => exact HC1.out); rintro e w17 ⟨rfl, hb⟩; refine ⟨_, rfl, ?_⟩; replace HB := Aside0.mk (below_step (by repeat (first | (with_reducible first | exact HB.out | apply bA | apply bN | apply bD) | exact HB.out)) hb); (try clear hb); (try clear hb2); (try clear hk); (try clear hi)) | (go_at_call 42; (with_reducible refine (impl_AreTeams.calls k _ _ l0 false _ ?side1 ?side2 A6.out).mono ?_); (case side1 => repeat (first | exact (Kd.C_below HR0.out HB.out) | (with_reducible first | refine cA ?_ _ | refine cN ?_ _ | refine cD ?_))); (case side2 => exact HC0.out); rintro e w18 ⟨rfl, hb⟩; replace HB := Aside0.mk (below_step (by repeat (first | (with_reducible first | exact HB.out | apply bA | apply bN | apply bD) | exact HB.out)) hb); (try clear hb); (try clear hb2); (try clear hk); (try clear hi)) | ((with_reducible refine gate_dst (N := 23) rfl ?_); (try (refine gate_guard (by rfl) ?_; dsimp only)); refine Kd.R_lit (Kd.int .i64) _ 3 ?hg (N := 23) ?hd (xs := ([] : List Int)) (inner := []) (ok := fun _ => True) (okp := fun _ => True) ?hr ?hp (fun _ hk => hk) trivial (Below.refl _ _) (Nat.le_refl _) (by simp) ?_; (case hd => rfl); (case hg => rfl); (case hr => first | (go_simp; done) | (go_simp; rfl)); (case hp => exact (Reps.none _ _)); intro v175 w19 ho20 hb hg_ hnew_; clear hg_ hnew_; (first | rw [← Ny174.out] at ho20 | (simp only [Int.reduceToNat] at ho20; rw [← Ny174.out] at ho20)); replace HO176 := Aside0.mk (Kd.R_lower ho20 (below_size (by repeat (first | (with_reducible first | exact HB.out | apply bA | apply bN | apply bD) | exact HB.out)))); replace HB := Aside0.mk (below_step (by repeat (first | (with_reducible first | exact HB.out | apply bA | apply bN | apply bD) | exact HB.out)) hb); clear hb ho20))
   go_ret2
   exact ⟨_, by first | rfl | (simp [*, errW_none, errW_some] <;> rfl), by (with_reducible repeat (first | apply rA | apply rN | apply rD)); exact HO176.out, by repeat (first | (with_reducible first | exact HB.out | apply bA | apply bN | apply bD) | exact HB.out)⟩
 ·
  replace c5 := Bool.eq_false_iff.mpr c5
  subst c5
  have H1 : (some ((([] : List Int)), false)) = some (r1, r2) := by rw [if_neg (show ¬ (false = true) by decide)] at H; exact H
  clear H
  have H := H1
  clear H1
  obtain ⟨y177, hy177⟩ : ∃ y_ : List Int, y_ = (([] : List Int)) := ⟨_, rfl⟩
  replace H : (some (y177, false)) = some (r1, r2) := by first | (rw [hy177]; with_reducible exact H) | (have H2_ := (Option.bind_some _ _).symm.trans H; rw [hy177]; with_reducible exact H2_) | (have H2_ := (Option.bind_some _ _).symm.trans H; with_reducible exact H2_) | with_reducible exact H | (rw [hy177]; exact H) | exact H
  have Ny177 := Aside0.mk hy177
  clear hy177
  simp only [Option.some.injEq, Prod.mk.injEq] at H
  obtain ⟨rfl, rfl⟩ := H
  go_enter Try.func37, Try.ntmps37
  go_wp2_with (first | ((with_reducible refine gate_callee (f := 13) rfl ?_); refine goesL_ (some 9) rfl rfl Try.func13 (by kernel_rfl) rfl #[.slice A1 l1.length c1] rfl (by (try simp only [Y1, Y2, Y3]); first | done | rfl | (simp only [Y4, Y5]; rfl)) ?_; (with_reducible refine (impl_AreJudges.calls k _ _ l1 false _ ?side1 ?side2 A4.out).mono ?_); (case side1 => repeat (first | exact HR1.out | (with_reducible first | refine cA ?_ _ | refine cN ?_ _ | refine cD ?_))); (case side2 => exact HC1.out); rintro e w21 ⟨rfl, hb⟩; refine ⟨_, rfl, ?_⟩; replace HB := Aside0.mk (below_step (by repeat (first | (with_reducible first | exact HB.out | apply bA | apply bN | apply bD) | exact HB.out)) hb); (try clear hb); (try clear hb2); (try clear hk); (try clear hi)) | ((with_reducible refine gate_dst (N := 23) rfl ?_); (try (refine gate_guard (by rfl) ?_; dsimp only)); refine Kd.R_lit (Kd.int .i64) _ 3 ?hg (N := 23) ?hd (xs := ([] : List Int)) (inner := []) (ok := fun _ => True) (okp := fun _ => True) ?hr ?hp (fun _ hk => hk) trivial (Below.refl _ _) (Nat.le_refl _) (by simp) ?_; (case hd => rfl); (case hg => rfl); (case hr => first | (go_simp; done) | (go_simp; rfl)); (case hp => exact (Reps.none _ _)); intro v178 w22 ho23 hb hg_ hnew_; clear hg_ hnew_; (first | rw [← Ny177.out] at ho23 | (simp only [Int.reduceToNat] at ho23; rw [← Ny177.out] at ho23)); replace HO179 := Aside0.mk (Kd.R_lower ho23 (below_size (by repeat (first | (with_reducible first | exact HB.out | apply bA | apply bN | apply bD) | exact HB.out)))); replace HB := Aside0.mk (below_step (by repeat (first | (with_reducible first | exact HB.out | apply bA | apply bN | apply bD) | exact HB.out)) hb); clear hb ho23))
  go_ret2
  exact ⟨_, by first | rfl | (simp [*, errW_none, errW_some] <;> rfl), by (with_reducible repeat (first | apply rA | apply rN | apply rD)); exact HO179.out, by repeat (first | (with_reducible first | exact HB.out | apply bA | apply bN | apply bD) | exact HB.out)⟩
def laws_big.f (l0 : List Int) : Option (Bool) := some (decide ((l0.length : Int) > 1048576))
set_option maxHeartbeats 8000000 in
set_option maxRecDepth 100000 in
theorem laws_big.calls (A0 : Option Addr) (c0 : Nat) (l0 : List Int) (r : Bool) (w : World) (hr0 : Kd.C (Kd.int .u8) w A0 l0.length l0) (hc0 : l0.length ≤ c0) (h : laws_big.f l0 = some r) :
  Calls Try.prog 40 #[.slice A0 l0.length c0] w fun e w' => e = .returned (.bool r) ∧ Drawn0 w w' := by
 have HR0 := Aside0.mk hr0
 have HC0 := Aside0.mk hc0
 clear hr0 hc0
 have H : (some (decide ((l0.length : Int) > 1048576))) = some r := h
 clear h
 obtain rfl := Option.some.inj H
 go_enter Try.func40, Try.ntmps40
 go_wp2
 go_ret
 exact ⟨by first | rfl | (simp; done) | (simp [*]; done), by repeat (first | exact Drawn0.refl _ | apply Drawn0.step)⟩
def IsS105 (w0 W : World) (g : Nat) (f0 : List Int) (f1 : Int) (f2 : Int) : Prop := ∃ A0 c0, W.heap[g]? = some (.cells #[.slice A0 f0.length c0, .int .i64 f1, .int .i64 f2] 105 (0, 0)) ∧ w0.heap.size ≤ g ∧ Kd.C (Kd.int .u8) w0 A0 f0.length f0
theorem IsS105.grown {w0 W : World} {g : Nat} {f0 : List Int} {f1 : Int} {f2 : Int} {W1 : World} {row : Option Nat} (h : IsS105 w0 W g f0 f1 f2) (hw : W.grownBy W1 row) (hne : some g ≠ row) : IsS105 w0 W1 g f0 f1 f2 := by
  obtain ⟨A0, c0, hb, hg, hr0⟩ := h
  exact ⟨A0, c0, blk_grown hb hw hne, hg, hr0⟩
theorem IsS105.fresh {w0 W : World} {g : Nat} {f0 : List Int} {f1 : Int} {f2 : Int} (h : IsS105 w0 W g f0 f1 f2) : ∀ k, W.heap.size ≤ k → k ≠ g := by
  obtain ⟨A0, c0, hb, hg, hr0⟩ := h
  exact Kd.freshB hb
theorem IsS105.kept {w0 W : World} {g : Nat} {f0 : List Int} {f1 : Int} {f2 : Int} {W1 : World} {S : Nat → Prop} (h : IsS105 w0 W g f0 f1 f2) (hk : Kept W W1 S) (hne : ¬ S g) : IsS105 w0 W1 g f0 f1 f2 := by
  obtain ⟨A0, c0, hb, hg, hr0⟩ := h
  exact ⟨A0, c0, blk_kept hb hk hne, hg, hr0⟩
theorem IsS105.below {w0 W : World} {g : Nat} {f0 : List Int} {f1 : Int} {f2 : Int} {W1 : World} (h : IsS105 w0 W g f0 f1 f2) (hw : Below W.heap.size W W1) : IsS105 w0 W1 g f0 f1 f2 := h.grown (grown_of_below hw none) (by simp)
theorem IsS105.alloc {w0 W : World} {g : Nat} {f0 : List Int} {f1 : Int} {f2 : Int} (h : IsS105 w0 W g f0 f1 f2) (o : Obj) : IsS105 w0 (W.alloc o) g f0 f1 f2 := h.below (below_alloc (Below.refl _ _) o)
theorem IsS105.drewN {w0 W : World} {g : Nat} {f0 : List Int} {f1 : Int} {f2 : Int} (h : IsS105 w0 W g f0 f1 f2) (m : Nat) : IsS105 w0 (W.drewN m) g f0 f1 f2 := h
theorem IsS105.drew {w0 W : World} {g : Nat} {f0 : List Int} {f1 : Int} {f2 : Int} (h : IsS105 w0 W g f0 f1 f2) : IsS105 w0 W.drew g f0 f1 f2 := h
theorem IsS105.at_ {w0 W : World} {g : Nat} {f0 : List Int} {f1 : Int} {f2 : Int} {w' : World} {m : Nat} (hq : W.drewN m = w') (h : IsS105 w0 W g f0 f1 f2) : IsS105 w0 w' g f0 f1 f2 := by subst hq; exact IsS105.drewN h m
theorem IsS105.apart {w0 W : World} {g : Nat} {f0 : List Int} {f1 : Int} {f2 : Int} {α : Type} {d : Kd α} {e : Nat} {base : Nat} {ok : Nat → Prop} {v : Value} {xs : List α} (h : IsS105 w0 W g f0 f1 f2) (ho : d.R e W base ok v xs) (ht : ∀ q, q ∈ e :: d.E → q ≠ 105) : d.R e W base (fun k => ok k ∧ k ≠ g) v xs := by
  obtain ⟨A0, c0, hb, hg, hr0⟩ := h
  exact Kd.R_types ho hb ht
theorem IsS105.own_ne {w0 W : World} {g : Nat} {f0 : List Int} {f1 : Int} {f2 : Int} {α : Type} {d : Kd α} {e : Nat} {base : Nat} {ok : Nat → Prop} {v : Value} {xs : List α} (h : IsS105 w0 W g f0 f1 f2) (ho : d.R e W base ok v xs) (ht : e ≠ 105) : some g ≠ v.ownBlock := by
  obtain ⟨A0, c0, hb, hg, hr0⟩ := h
  exact Kd.R_ne ho hb ht
theorem IsS105.apartS {w0 W : World} {g : Nat} {f0 : List Int} {f1 : Int} {f2 : Int} {α : Type} {d : Kd α} {e : Nat} {base : Nat} {ok : Nat → Prop} {v : Value} {xs : List α} (h : IsS105 w0 W g f0 f1 f2) (ho : d.S e W base ok v xs) (ht : ∀ q, q ∈ e :: d.E → q ≠ 105) : d.S e W base (fun k => ok k ∧ k ≠ g) v xs := by
  obtain ⟨A0, c0, hb, hg, hr0⟩ := h
  exact Kd.S_types ho hb ht
theorem IsS105.own_neS {w0 W : World} {g : Nat} {f0 : List Int} {f1 : Int} {f2 : Int} {α : Type} {d : Kd α} {e : Nat} {base : Nat} {ok : Nat → Prop} {v : Value} {xs : List α} (h : IsS105 w0 W g f0 f1 f2) (ho : d.S e W base ok v xs) (ht : e ≠ 105) : some g ≠ v.ownBlock := by
  obtain ⟨A0, c0, hb, hg, hr0⟩ := h
  exact Kd.S_ne ho hb ht
theorem IsS105.lt {w0 W : World} {g : Nat} {f0 : List Int} {f1 : Int} {f2 : Int} (h : IsS105 w0 W g f0 f1 f2) : g < W.heap.size := by
  obtain ⟨A0, c0, hb, hg, hr0⟩ := h
  exact blk_lt hb
theorem IsS105.ge {w0 W : World} {g : Nat} {f0 : List Int} {f1 : Int} {f2 : Int} (h : IsS105 w0 W g f0 f1 f2) : w0.heap.size ≤ g := by
  obtain ⟨A0, c0, hb, hg, hr0⟩ := h
  exact hg
theorem IsS105.far {w0 W : World} {g : Nat} {f0 : List Int} {f1 : Int} {f2 : Int} {p : Addr} (h : IsS105 w0 W g f0 f1 f2) (hne : g ≠ p.block) (u : Value) : IsS105 w0 (W.setCell p u) g f0 f1 f2 := by
  obtain ⟨A0, c0, hb, hg, hr0⟩ := h
  exact ⟨A0, c0, blk_far hb hne u, hg, hr0⟩
theorem cellS105_0 {W : World} {g : Nat} {A0 : Option Addr} {c0 : Nat} {f0 : List Int} {f1 : Int} {f2 : Int} (h : W.heap[g]? = some (.cells #[.slice A0 f0.length c0, .int .i64 f1, .int .i64 f2] 105 (0, 0))) : W.cell? ⟨g, 0, none⟩ = some (.slice A0 f0.length c0) := (blk_cell h 0).trans rfl
theorem cellS105_1 {W : World} {g : Nat} {A0 : Option Addr} {c0 : Nat} {f0 : List Int} {f1 : Int} {f2 : Int} (h : W.heap[g]? = some (.cells #[.slice A0 f0.length c0, .int .i64 f1, .int .i64 f2] 105 (0, 0))) : W.cell? ⟨g, 1, none⟩ = some (.int .i64 f1) := (blk_cell h 1).trans rfl
theorem IsS105.set_1 {w0 W : World} {g : Nat} {f0 : List Int} {f1 : Int} {f2 : Int} (h : IsS105 w0 W g f0 f1 f2) (x : Int) : IsS105 w0 (W.setCell ⟨g, 1, none⟩ (.int .i64 x)) g f0 x f2 := by
  obtain ⟨A0, c0, hb, hg, hr0⟩ := h
  exact ⟨A0, c0, by simpa using blk_set hb 1 (.int .i64 x), hg, hr0⟩
theorem cellS105_2 {W : World} {g : Nat} {A0 : Option Addr} {c0 : Nat} {f0 : List Int} {f1 : Int} {f2 : Int} (h : W.heap[g]? = some (.cells #[.slice A0 f0.length c0, .int .i64 f1, .int .i64 f2] 105 (0, 0))) : W.cell? ⟨g, 2, none⟩ = some (.int .i64 f2) := (blk_cell h 2).trans rfl
theorem IsS105.set_2 {w0 W : World} {g : Nat} {f0 : List Int} {f1 : Int} {f2 : Int} (h : IsS105 w0 W g f0 f1 f2) (x : Int) : IsS105 w0 (W.setCell ⟨g, 2, none⟩ (.int .i64 x)) g f0 f1 x := by
  obtain ⟨A0, c0, hb, hg, hr0⟩ := h
  exact ⟨A0, c0, by simpa using blk_set hb 2 (.int .i64 x), hg, hr0⟩
def spec_l1New.l0 : Nat → List Int → Int → Int → Option (List Int × Int × Int)
  | 0, _, _, _ => none
  | k + 1, x0, x3, x4 => if x4 < (x0.length : Int) then (if x4 < 4000 then (if 0 ≤ x4 then (spec_l1New.l0 k x0 (Go.bits .and .i64 (wrap64 ((wrap64 ((wrap64 (x3 * 137)) + (wrap64 (rd x0 x4)))) + 11)) 1073741823) (wrap64 (x4 + 1))) else (none)) else (some (x0, 0, x3))) else (some (x0, 0, x3))
def spec_l1New.f (k : Nat) (l0 : List Int) : Option (List Int × Int × Int) := spec_l1New.l0 k l0 (wrap64 (193017 + (l0.length : Int))) 0
set_option maxHeartbeats 8000000 in
set_option maxRecDepth 100000 in
theorem spec_l1New.calls (k : Nat) (A0 : Option Addr) (c0 : Nat) (l0 : List Int) (r1 : List Int) (r2 : Int) (r3 : Int) (w0 w : World) (hB : Below w0.heap.size w0 w) (hr0 : Kd.C (Kd.int .u8) w0 A0 l0.length l0) (hc0 : l0.length ≤ c0) (h : spec_l1New.f k l0 = some (r1, r2, r3)) :
  Calls Try.prog 72 #[.slice A0 l0.length c0] w fun e w' => ∃ g_ : Nat, e = .returned (.pointer (some ⟨g_, 0, none⟩)) ∧ IsS105 w0 w' g_ r1 r2 r3 ∧ Below w0.heap.size w0 w' ∧ Below w.heap.size w w' := by
 have hu105 := Try.underlying105
 have HR0 := Aside0.mk hr0
 have HC0 := Aside0.mk hc0
 clear hr0 hc0
 have HBW := Aside0.mk (Below.refl w.heap.size w)
 have HW0 := Aside0.mk hB.size
 have HB := Aside0.mk hB
 clear hB
 have H : (spec_l1New.l0 k l0 (wrap64 (193017 + (l0.length : Int))) 0) = some (r1, r2, r3) := h
 clear h
 have H' := Aside0.mk H
 clear H
 go_enter Try.func72, Try.ntmps72
 go_wp2
 go_loopg [3, 4] k (fun kq v3 v4 w' => ∃ (x3_1 : Int) (x4_1 : Int), v3 = .int .i64 x3_1 ∧ v4 = .int .i64 x4_1 ∧ Aside0 (spec_l1New.l0 kq l0 x3_1 x4_1 = some (r1, r2, r3)) ∧ Aside0 (kq ≤ k) ∧ Aside0 (Below w0.heap.size w0 w') ∧ Aside0 (Below w.heap.size w w'))
 case atStart => exact ⟨(wrap64 (193017 + (l0.length : Int))), (0), (by first | rfl | (simp; done) | (simp [*]; done)), (by first | rfl | (simp; done) | (simp [*]; done)), H', ⟨Nat.le_refl _⟩, ⟨by repeat (first | (with_reducible first | exact HB.out | apply below_alloc | apply pw_below_drewN | apply below_drew1) | exact HB.out)⟩, ⟨by repeat (first | (with_reducible first | exact HBW.out | apply below_alloc | apply pw_below_drewN | apply below_drew1) | exact HBW.out)⟩⟩
 case round =>
  clear H'
  obtain ⟨x3_1, x4_1, rfl, rfl, HA, HK1, HB, HBW⟩ := hrel
  cases gk with
  | zero => exact absurd HA.out (by simp [spec_l1New.l0])
  | succ k1 =>
   have H := HA.out
   clear HA
   simp only [spec_l1New.l0] at H
   by_cases c2 : x4_1 < (l0.length : Int)
   ·
    rw [if_pos c2] at H
    have c2b0 : decide (x4_1 < (l0.length : Int)) = true := decide_eq_true c2
    clear c2
    by_cases c3 : x4_1 < 4000
    ·
     rw [if_pos c3] at H
     have c3b0 : decide (x4_1 < 4000) = true := decide_eq_true c3
     clear c3
     by_cases c4 : 0 ≤ x4_1
     ·
      rw [if_pos c4] at H
      have c4b0 : decide (0 ≤ x4_1) = true := decide_eq_true c4
      clear c4
      have H' := Aside0.mk H
      clear H
      have p180 : 0 ≤ (x4_1 : Int) := of_decide_eq_true (by first | (with_reducible assumption) | assumption)
      have q180 : x4_1 < (l0.length : Int) := of_decide_eq_true (by first | (with_reducible assumption) | assumption)
      obtain ⟨ad180, e180, hx180_0⟩ := Kd.at_int HR0.out x4_1 p180 q180
      cases e180
      replace hx180_0 := pw_cell_below HB.out hx180_0
      replace p180 := eq_true p180
      replace q180 := eq_true q180
      go_wp2
      go_roundg k1
      case measure => have := HK1.out; omega
      case rel => exact ⟨(Go.bits .and .i64 (wrap64 ((wrap64 ((wrap64 (x3_1 * 137)) + (wrap64 (rd l0 x4_1)))) + 11)) 1073741823), (wrap64 (x4_1 + 1)), (by first | rfl | (simp; done) | (simp [*]; done)), (by first | rfl | (simp; done) | (simp [*]; done)), H', ⟨by have := HK1.out; omega⟩, ⟨by repeat (first | (with_reducible first | exact HB.out | apply below_alloc | apply pw_below_drewN | apply below_drew1) | exact HB.out)⟩, ⟨by repeat (first | (with_reducible first | exact HBW.out | apply below_alloc | apply pw_below_drewN | apply below_drew1) | exact HBW.out)⟩⟩
     ·
      rw [if_neg c4] at H
      exact absurd H (by simp)
    ·
     rw [if_neg c3] at H
     have c3b0 : decide (x4_1 < 4000) = false := decide_eq_false c3
     clear c3
     simp only [Option.some.injEq, Prod.mk.injEq] at H
     obtain ⟨rfl, rfl, rfl⟩ := H
     go_wp2_with (first | ((with_reducible refine gate_dst (N := 31) rfl ?_); refine box_event ?hg (N := 31) ?hd (cs := #[.slice A0 l0.length c0, .int .i64 0, .int .i64 x3_1]) (t := 105) ?hr ?_; (case hd => rfl); (case hg => rfl); (case hr => first | (go_simp; done) | (go_simp; rfl)); intro gb181 hg w5 hbox hb; have n0_ := Aside0.mk (below_step HBW.out hb); have n1_ := Aside0.mk (below_step (by repeat (first | (with_reducible first | exact HB.out | apply below_alloc | apply pw_below_drewN | apply below_drew1) | exact HB.out)) hb); have n2_ := Aside0.mk (hbox); have n3_ := Aside0.mk ((by rw [hg]; exact (below_size (by repeat (first | (with_reducible first | exact HBW.out | apply below_alloc | apply pw_below_drewN | apply below_drew1) | exact HBW.out))) : w.heap.size ≤ gb181)); have n4_ := Aside0.mk ((Nat.le_trans HW0.out (by rw [hg]; exact (below_size (by repeat (first | (with_reducible first | exact HBW.out | apply below_alloc | apply pw_below_drewN | apply below_drew1) | exact HBW.out))) : w.heap.size ≤ gb181) : w0.heap.size ≤ gb181)); clear HBW; clear HB; have HBW := n0_; have HB := n1_; have BK181 := n2_; have GW181 := n3_; have GE181 := n4_; clear n0_ n1_ n2_ n3_ n4_; clear hb hbox hg))
     all_goals (go_ret; exact ⟨_, rfl, (show IsS105 w0 _ gb181 l0 0 x3_1 from ⟨_, _, by (with_reducible repeat (first | refine blk_drewN ?_ _ | refine blk_drew ?_ | refine blk_alloc ?_ _)); exact BK181.out, GE181.out, HR0.out⟩), by repeat (first | (with_reducible first | exact HB.out | apply below_alloc | apply pw_below_drewN | apply below_drew1 | refine below_set ?_ GE181.out) | exact HB.out), by repeat (first | (with_reducible first | exact HBW.out | apply below_alloc | apply pw_below_drewN | apply below_drew1 | refine below_set ?_ GW181.out) | exact HBW.out)⟩)
   ·
    rw [if_neg c2] at H
    have c2b0 : decide (x4_1 < (l0.length : Int)) = false := decide_eq_false c2
    clear c2
    simp only [Option.some.injEq, Prod.mk.injEq] at H
    obtain ⟨rfl, rfl, rfl⟩ := H
    go_wp2_with (first | ((with_reducible refine gate_dst (N := 31) rfl ?_); refine box_event ?hg (N := 31) ?hd (cs := #[.slice A0 l0.length c0, .int .i64 0, .int .i64 x3_1]) (t := 105) ?hr ?_; (case hd => rfl); (case hg => rfl); (case hr => first | (go_simp; done) | (go_simp; rfl)); intro gb182 hg w6 hbox hb; have n0_ := Aside0.mk (below_step HBW.out hb); have n1_ := Aside0.mk (below_step (by repeat (first | (with_reducible first | exact HB.out | apply below_alloc | apply pw_below_drewN | apply below_drew1) | exact HB.out)) hb); have n2_ := Aside0.mk (hbox); have n3_ := Aside0.mk ((by rw [hg]; exact (below_size (by repeat (first | (with_reducible first | exact HBW.out | apply below_alloc | apply pw_below_drewN | apply below_drew1) | exact HBW.out))) : w.heap.size ≤ gb182)); have n4_ := Aside0.mk ((Nat.le_trans HW0.out (by rw [hg]; exact (below_size (by repeat (first | (with_reducible first | exact HBW.out | apply below_alloc | apply pw_below_drewN | apply below_drew1) | exact HBW.out))) : w.heap.size ≤ gb182) : w0.heap.size ≤ gb182)); clear HBW; clear HB; have HBW := n0_; have HB := n1_; have BK182 := n2_; have GW182 := n3_; have GE182 := n4_; clear n0_ n1_ n2_ n3_ n4_; clear hb hbox hg))
    all_goals (go_ret; exact ⟨_, rfl, (show IsS105 w0 _ gb182 l0 0 x3_1 from ⟨_, _, by (with_reducible repeat (first | refine blk_drewN ?_ _ | refine blk_drew ?_ | refine blk_alloc ?_ _)); exact BK182.out, GE182.out, HR0.out⟩), by repeat (first | (with_reducible first | exact HB.out | apply below_alloc | apply pw_below_drewN | apply below_drew1 | refine below_set ?_ GE182.out) | exact HB.out), by repeat (first | (with_reducible first | exact HBW.out | apply below_alloc | apply pw_below_drewN | apply below_drew1 | refine below_set ?_ GW182.out) | exact HBW.out)⟩)
end Go.Proofs.Ytdlebbmmanjffaa.A
end
