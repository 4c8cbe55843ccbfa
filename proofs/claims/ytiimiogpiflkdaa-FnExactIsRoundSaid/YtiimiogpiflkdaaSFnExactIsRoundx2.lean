/- What the row FnExactIsRound rests on, put together: A16, A21, A22, A30. No condition. -/
import Derived.Test.YtiimiogpiflkdaaSFnExactIsRoundx0
import Derived.Test.YtiimiogpiflkdaaSFnExactIsRoundx1
section
namespace Go.Proofs.Ytiimiogpiflkdaa.A
open Go.RowKit Go.Proofs.YtiimiogpiflkdaaW.PrintWords Go.Proofs.YtiimiogpiflkdaaW.PrintLast Go.Proofs.YtiimiogpiflkdaaW.PrintMore
attribute [local go_sem] max2_int min2_int max_two min_two max_three min_three max_four min_four   -- for this text's walks alone
set_option linter.unusedVariables false
set_option linter.unusedSimpArgs false
mutual
def spec_AreTeams.l0 : Nat → List (S61) → Int → Option (Bool)
  | 0, _, _ => none
  | k + 1, x0, x3 => if x3 < (x0.length : Int) then (if 0 ≤ x3 then ((spec_l1In.f ((rd_T61 x0 x3).f0) 1 99).bind fun t154 => (if t154 = true then ((spec_l1In.f ((rd_T61 x0 x3).f1) 1 99).bind fun t155 => (if t155 = true then ((spec_l1In.f ((rd_T61 x0 x3).f2) 0 (((rd_T61 x0 x3).f5).length : Int)).bind fun t156 => (if t156 = true then ((spec_l1In.f ((rd_T61 x0 x3).f4) 0 (((rd_T61 x0 x3).f5).length : Int)).bind fun t157 => (if t157 = true then ((spec_l1In.f ((rd_T61 x0 x3).f3) 0 100000).bind fun t158 => (if t158 = true then (if (((rd_T61 x0 x3).f5).length : Int) > 20 then (spec_AreTeams.j1 k x0 x3 true ((rd_T61 x0 x3).f0) ((rd_T61 x0 x3).f1) ((rd_T61 x0 x3).f2) ((rd_T61 x0 x3).f3) ((rd_T61 x0 x3).f4) ((rd_T61 x0 x3).f5)) else (if x3 > 0 then (if 0 ≤ (wrap64 (x3 - 1)) then (if (wrap64 (x3 - 1)) < (x0.length : Int) then (spec_AreTeams.j1 k x0 x3 (decide (((rd_T61 x0 (wrap64 (x3 - 1))).f0) ≥ ((rd_T61 x0 x3).f0))) ((rd_T61 x0 x3).f0) ((rd_T61 x0 x3).f1) ((rd_T61 x0 x3).f2) ((rd_T61 x0 x3).f3) ((rd_T61 x0 x3).f4) ((rd_T61 x0 x3).f5)) else (none)) else (none)) else (spec_AreTeams.j1 k x0 x3 false ((rd_T61 x0 x3).f0) ((rd_T61 x0 x3).f1) ((rd_T61 x0 x3).f2) ((rd_T61 x0 x3).f3) ((rd_T61 x0 x3).f4) ((rd_T61 x0 x3).f5)))) else (spec_AreTeams.j1 k x0 x3 true ((rd_T61 x0 x3).f0) ((rd_T61 x0 x3).f1) ((rd_T61 x0 x3).f2) ((rd_T61 x0 x3).f3) ((rd_T61 x0 x3).f4) ((rd_T61 x0 x3).f5)))) else (spec_AreTeams.j1 k x0 x3 true ((rd_T61 x0 x3).f0) ((rd_T61 x0 x3).f1) ((rd_T61 x0 x3).f2) ((rd_T61 x0 x3).f3) ((rd_T61 x0 x3).f4) ((rd_T61 x0 x3).f5)))) else (spec_AreTeams.j1 k x0 x3 true ((rd_T61 x0 x3).f0) ((rd_T61 x0 x3).f1) ((rd_T61 x0 x3).f2) ((rd_T61 x0 x3).f3) ((rd_T61 x0 x3).f4) ((rd_T61 x0 x3).f5)))) else (spec_AreTeams.j1 k x0 x3 true ((rd_T61 x0 x3).f0) ((rd_T61 x0 x3).f1) ((rd_T61 x0 x3).f2) ((rd_T61 x0 x3).f3) ((rd_T61 x0 x3).f4) ((rd_T61 x0 x3).f5)))) else (spec_AreTeams.j1 k x0 x3 true ((rd_T61 x0 x3).f0) ((rd_T61 x0 x3).f1) ((rd_T61 x0 x3).f2) ((rd_T61 x0 x3).f3) ((rd_T61 x0 x3).f4) ((rd_T61 x0 x3).f5)))) else (none)) else (some (decide ((x0.length : Int) ≤ 10)))
def spec_AreTeams.j1 : Nat → List (S61) → Int → Bool → Int → Int → Int → Int → Int → List Int → Option (Bool)
  | 0, _, _, _, _, _, _, _, _, _ => none
  | k + 1, x0, x3, x71, x154000, x154001, x154002, x154003, x154004, x154005 => if x71 = true then (some false) else (spec_AreTeams.l1 k x0 x3 0 x154000 x154001 x154002 x154003 x154004 x154005)
def spec_AreTeams.l1 : Nat → List (S61) → Int → Int → Int → Int → Int → Int → Int → List Int → Option (Bool)
  | 0, _, _, _, _, _, _, _, _, _ => none
  | k + 1, x0, x3, x5, x154000, x154001, x154002, x154003, x154004, x154005 => if x5 < (x154005.length : Int) then (if 0 ≤ x5 then ((spec_FindTeam.f k x0 (rd x154005 x5)).bind fun t161 => (if t161 < 0 then (some false) else (if t161 = x3 then (some false) else (if 0 ≤ t161 then (if t161 < (x0.length : Int) then ((spec_l19Count.f k ((rd_T61 x0 t161).f5) x154000).bind fun t163 => ((spec_l19Count.f k x154005 ((rd_T61 x0 t161).f0)).bind fun t165 => (if t163 = t165 then (spec_AreTeams.l1 k x0 x3 (wrap64 (x5 + 1)) x154000 x154001 x154002 x154003 x154004 x154005) else (some false)))) else (none)) else (none))))) else (none)) else (spec_AreTeams.l0 k x0 (wrap64 (x3 + 1)))
end
def spec_AreTeams.f (k : Nat) (l0 : List (S61)) : Option (Bool) := spec_AreTeams.l0 k l0 0
def spec_AreTeams.T5 : Bool × List (List Nat × List Nat) := (true, [([], []), ([0], [0]), ([1], [1]), ([2], [2]), ([3, 2], [3]), ([4], [4]), ([5, 4], [4, 5]), ([6, 4, 4], [4, 6]), ([7, 4], [4, 7]), ([4, 8], [4, 8]), ([9, 7], [9]), ([10], [10]), ([11, 10], [10, 11]), ([10], [10]), ([13, 10], [10, 13]), ([14, 10], [10, 14]), ([12, 15, 10, 10], [10, 12, 15]), ([16, 10], [10, 16]), ([10, 17], [10, 17]), ([18, 16], [18]), ([19], [19]), ([20, 19], [19, 20]), ([19], [19]), ([22, 19], [19, 22]), ([23, 19], [19, 23]), ([21, 24, 19, 19], [19, 21, 24]), ([25, 19], [19, 25]), ([19, 26], [19, 26]), ([27, 25], [27]), ([28], [28]), ([29, 28], [28, 29]), ([30, 28, 28], [28, 30]), ([31, 28], [28, 31]), ([28, 32], [28, 32]), ([33, 31], [33]), ([34], [34]), ([35, 34], [34, 35]), ([36, 34], [34, 36]), ([37, 34], [34, 37]), ([34, 38], [34, 38]), ([39, 34], [39]), ([40], [40]), ([41, 40], [40, 41]), ([42, 40, 40], [40, 42]), ([43], [43]), ([43], [43]), ([45, 43], [43, 45]), ([44, 46, 43], [43, 44, 46]), ([47, 43], [43, 47]), ([48, 43], [43, 48]), ([43], [43]), ([50, 43], [43, 50]), ([49, 51, 43], [43, 49, 51]), ([43, 52, 40], [40, 43, 52]), ([40, 53], [40, 53])])
def spec_AreTeams.B5 : List Nat := [0, 1, 3, 7, 15, 31, 63, 127, 255, 511, 1023, 2047, 4095, 2047, 10239, 26623, 65535, 131071, 262143, 524287, 1048575, 2097151, 1048575, 5242879, 13631487, 33554431, 67108863, 134217727, 268435455, 536870911, 1073741823, 2147483647, 4294967295, 8589934591, 17179869183, 34359738367, 68719476735, 137438953471, 274877906943, 549755813887, 1099511627775, 2199023255551, 4398046511103, 8796093022207, 17592186044415, 17592186044415, 52776558133247, 140737488355327, 281474976710655, 562949953421311, 17592186044415, 1143492092887039, 4503599627370495, 9007199254740991, 18014398509481983]
theorem spec_AreTeams.tab5 : rtab .any (opsOf Try.f20 5) = spec_AreTeams.T5 := by kernel_rfl
theorem spec_AreTeams.bits5 : waitsOk spec_AreTeams.T5.2 spec_AreTeams.B5 = true := by kernel_rfl
def spec_AreTeams.T11 : Bool × List (List Nat × List Nat) := (true, [([], []), ([0], [0]), ([1], [1]), ([2], [2]), ([2], [2]), ([3, 4, 2], [2, 3, 4]), ([2, 5], [2, 5]), ([6, 2], [6]), ([7], [7]), ([7], [7]), ([8, 9, 7], [7, 8, 9]), ([10, 7], [7, 10]), ([11, 7], [7, 11]), ([7], [7]), ([13, 7], [7, 13]), ([12, 14, 7, 7], [7, 12, 14]), ([7], [7]), ([16, 7], [7, 16]), ([7], [7]), ([7], [7]), ([18, 19, 7], [7, 18, 19]), ([20, 7], [7, 20]), ([21, 7], [7, 21]), ([17, 22, 15, 7], [7, 17, 22]), ([15, 23, 7], [7, 15, 23]), ([7, 24], [7, 24])])
def spec_AreTeams.B11 : List Nat := [0, 1, 3, 7, 7, 31, 63, 127, 255, 255, 1023, 2047, 4095, 255, 8447, 32767, 255, 65791, 255, 255, 786687, 1835263, 3932415, 8388607, 16777215, 33554431]
theorem spec_AreTeams.tab11 : rtab .any (opsOf Try.f20 11) = spec_AreTeams.T11 := by kernel_rfl
theorem spec_AreTeams.bits11 : waitsOk spec_AreTeams.T11.2 spec_AreTeams.B11 = true := by kernel_rfl
set_option maxHeartbeats 8000000 in
set_option maxRecDepth 100000 in
theorem spec_AreTeams.calls (k : Nat) (A0 : Option Addr) (c0 : Nat) (l0 : List (S61)) (r : Bool) (w : World) (hr0 : Kd.C k61 w A0 l0.length l0) (hc0 : l0.length ≤ c0) (h : spec_AreTeams.f k l0 = some r) :
  Calls Try.prog 20 #[.slice A0 l0.length c0] w fun e w' => e = .returned (.bool r) ∧ Below w.heap.size w w' := by
 have hu61 := Try.underlying61
 have HR0 := Aside0.mk hr0
 have HC0 := Aside0.mk hc0
 clear hr0 hc0
 have HB := Aside0.mk (Below.refl w.heap.size w)
 have H : (spec_AreTeams.l0 k l0 0) = some r := h
 clear h
 have H' := Aside0.mk H
 clear H
 go_enter Try.func20, Try.ntmps20
 go_wp2
 go_loopg [3] k (fun kq v3 w' => ∃ (x3_1 : Int), v3 = .int .i64 x3_1 ∧ Aside0 (spec_AreTeams.l0 kq l0 x3_1 = some r) ∧ Aside0 (kq ≤ k) ∧ Aside0 (Below w.heap.size w w'))
 case atStart => exact ⟨(0), (by first | rfl | (simp; done) | (simp [*]; done)), H', ⟨Nat.le_refl _⟩, ⟨by repeat (first | (with_reducible first | exact HB.out | apply below_alloc | apply pw_below_drewN | apply below_drew1) | exact HB.out)⟩⟩
 case round =>
  clear H'
  obtain ⟨x3_1, rfl, HA, HK1, HB⟩ := hrel
  cases gk with
  | zero => exact absurd HA.out (by simp [spec_AreTeams.l0])
  | succ k1 =>
   have H := HA.out
   clear HA
   simp only [spec_AreTeams.l0] at H
   by_cases c2 : x3_1 < (l0.length : Int)
   rotate_left
   ·
    rw [if_neg c2] at H
    have c2b0 : decide (x3_1 < (l0.length : Int)) = false := decide_eq_false c2
    clear c2
    obtain rfl := Option.some.inj H
    go_wp2
    go_ret
    exact ⟨by first | rfl | (simp [errW_none, errW_some] <;> rfl) | (simp [*, errW_none, errW_some] <;> rfl), by repeat (first | (with_reducible first | exact HB.out | apply below_alloc | apply pw_below_drewN | apply below_drew1) | exact HB.out)⟩

   rw [if_pos c2] at H
   have c2b0 : decide (x3_1 < (l0.length : Int)) = true := decide_eq_true c2
   clear c2
   by_cases c3 : 0 ≤ x3_1
   rotate_left
   ·
    rw [if_neg c3] at H
    exact absurd H (by simp)
   rw [if_pos c3] at H
   have c3b0 : decide (0 ≤ x3_1) = true := decide_eq_true c3
   clear c3
   have HC4 := Aside0.mk H
   clear H
   have p152 : 0 ≤ (x3_1 : Int) := of_decide_eq_true (by first | (with_reducible assumption) | assumption)
   have q152 : x3_1 < (l0.length : Int) := of_decide_eq_true (by first | (with_reducible assumption) | assumption)
   obtain ⟨ad152, A152_5, c152_5, e152, hx152_0, hx152_1, hx152_2, hx152_3, hx152_4, hx152_5, hl152_5, hi152_5⟩ := at_T61 HR0.out x3_1 p152 q152
   cases e152
   replace hx152_0 := (HB.out.cell (World.block_lt_of_cell? w _ hx152_0)).trans hx152_0
   replace hx152_1 := (HB.out.cell (World.block_lt_of_cell? w _ hx152_1)).trans hx152_1
   replace hx152_2 := (HB.out.cell (World.block_lt_of_cell? w _ hx152_2)).trans hx152_2
   replace hx152_3 := (HB.out.cell (World.block_lt_of_cell? w _ hx152_3)).trans hx152_3
   replace hx152_4 := (HB.out.cell (World.block_lt_of_cell? w _ hx152_4)).trans hx152_4
   replace hx152_5 := (HB.out.cell (World.block_lt_of_cell? w _ hx152_5)).trans hx152_5
   have HR152_5 := Aside0.mk hi152_5
   have HC152_5 := Aside0.mk hl152_5
   clear hi152_5 hl152_5
   replace p152 := eq_true p152
   replace q152 := eq_true q152
   go_upto_region 5 with (first | ((with_reducible refine gate_dst (N := 4) rfl ?_); (try (refine gate_guard (by rfl) ?_; dsimp only)); refine box_event ?hg (N := 4) ?hd (cs := #[.int .i64 0, .int .i64 0, .int .i64 0, .int .i64 0, .int .i64 0, .slice none 0 0]) (t := 61) ?hr ?_; (case hd => rfl); (case hg => rfl); (case hr => first | (go_simp; done) | (go_simp; rfl)); intro gb153 hg w5 hbox hb; have n0_ := Aside0.mk (below_step (by repeat (first | (with_reducible first | exact HB.out | apply below_alloc | apply pw_below_drewN | apply below_drew1) | exact HB.out)) hb); have n1_ := Aside0.mk (hbox); have n2_ := Aside0.mk ((by rw [hg]; exact (below_size (by repeat (first | (with_reducible first | exact HB.out | apply below_alloc | apply pw_below_drewN | apply below_drew1) | exact HB.out))) : w.heap.size ≤ gb153)); have n3_ := Aside0.mk ((by rw [hg]; exact (below_size (by repeat (first | (with_reducible first | exact HB.out | apply below_alloc | apply pw_below_drewN | apply below_drew1) | exact HB.out))) : w.heap.size ≤ gb153)); clear HB; have HB := n0_; have BK153 := n1_; have GW153 := n2_; have GE153 := n3_; clear n0_ n1_ n2_ n3_; clear hb hbox hg; have hcz6_0 : w5.cell? ⟨gb153, 0, none⟩ = some (.int .i64 0) := (blk_cell BK153.out 0).trans rfl; have hcz6_1 : w5.cell? ⟨gb153, 1, none⟩ = some (.int .i64 0) := (blk_cell BK153.out 1).trans rfl; have hcz6_2 : w5.cell? ⟨gb153, 2, none⟩ = some (.int .i64 0) := (blk_cell BK153.out 2).trans rfl; have hcz6_3 : w5.cell? ⟨gb153, 3, none⟩ = some (.int .i64 0) := (blk_cell BK153.out 3).trans rfl; have hcz6_4 : w5.cell? ⟨gb153, 4, none⟩ = some (.int .i64 0) := (blk_cell BK153.out 4).trans rfl; have hcz6_5 : w5.cell? ⟨gb153, 5, none⟩ = some (.slice none 0 0) := (blk_cell BK153.out 5).trans rfl; have hfz6_0 := blk_frozen BK153.out 0; have hfz6_1 := blk_frozen BK153.out 1; have hfz6_2 := blk_frozen BK153.out 2; have hfz6_3 := blk_frozen BK153.out 3; have hfz6_4 := blk_frozen BK153.out 4; have hfz6_5 := blk_frozen BK153.out 5))
   (try simp only [Act.put, Z1, Z2, Z3])
   go_cut [71] (fun v71 wc => ∃ (kq : Nat) (x71_3 : Bool), v71 = .bool x71_3 ∧ Aside0 (spec_AreTeams.j1 kq l0 x3_1 x71_3 ((rd_T61 l0 x3_1).f0) ((rd_T61 l0 x3_1).f1) ((rd_T61 l0 x3_1).f2) ((rd_T61 l0 x3_1).f3) ((rd_T61 l0 x3_1).f4) ((rd_T61 l0 x3_1).f5) = some r) ∧ Aside0 (kq ≤ k1) ∧ Aside0 (wc.heap[gb153]? = some (.cells #[.int .i64 ((rd_T61 l0 x3_1).f0), .int .i64 ((rd_T61 l0 x3_1).f1), .int .i64 ((rd_T61 l0 x3_1).f2), .int .i64 ((rd_T61 l0 x3_1).f3), .int .i64 ((rd_T61 l0 x3_1).f4), (.slice A152_5 ((rd_T61 l0 x3_1).f5).length c152_5)] 61 (0, 0))) ∧ Aside0 (Below w.heap.size w wc))
   case first =>
    have H := HC4.out
    clear HC4
    replace H := Option.bind_eq_some_iff.mp H
    obtain ⟨t154, A70, H⟩ := H
    replace H : (if t154 = true then ((spec_l1In.f ((rd_T61 l0 x3_1).f1) 1 99).bind fun t155 => (if t155 = true then ((spec_l1In.f ((rd_T61 l0 x3_1).f2) 0 (((rd_T61 l0 x3_1).f5).length : Int)).bind fun t156 => (if t156 = true then ((spec_l1In.f ((rd_T61 l0 x3_1).f4) 0 (((rd_T61 l0 x3_1).f5).length : Int)).bind fun t157 => (if t157 = true then ((spec_l1In.f ((rd_T61 l0 x3_1).f3) 0 100000).bind fun t158 => (if t158 = true then (if (((rd_T61 l0 x3_1).f5).length : Int) > 20 then (spec_AreTeams.j1 k1 l0 x3_1 true ((rd_T61 l0 x3_1).f0) ((rd_T61 l0 x3_1).f1) ((rd_T61 l0 x3_1).f2) ((rd_T61 l0 x3_1).f3) ((rd_T61 l0 x3_1).f4) ((rd_T61 l0 x3_1).f5)) else (if x3_1 > 0 then (if 0 ≤ (wrap64 (x3_1 - 1)) then (if (wrap64 (x3_1 - 1)) < (l0.length : Int) then (spec_AreTeams.j1 k1 l0 x3_1 (decide (((rd_T61 l0 (wrap64 (x3_1 - 1))).f0) ≥ ((rd_T61 l0 x3_1).f0))) ((rd_T61 l0 x3_1).f0) ((rd_T61 l0 x3_1).f1) ((rd_T61 l0 x3_1).f2) ((rd_T61 l0 x3_1).f3) ((rd_T61 l0 x3_1).f4) ((rd_T61 l0 x3_1).f5)) else (none)) else (none)) else (spec_AreTeams.j1 k1 l0 x3_1 false ((rd_T61 l0 x3_1).f0) ((rd_T61 l0 x3_1).f1) ((rd_T61 l0 x3_1).f2) ((rd_T61 l0 x3_1).f3) ((rd_T61 l0 x3_1).f4) ((rd_T61 l0 x3_1).f5)))) else (spec_AreTeams.j1 k1 l0 x3_1 true ((rd_T61 l0 x3_1).f0) ((rd_T61 l0 x3_1).f1) ((rd_T61 l0 x3_1).f2) ((rd_T61 l0 x3_1).f3) ((rd_T61 l0 x3_1).f4) ((rd_T61 l0 x3_1).f5)))) else (spec_AreTeams.j1 k1 l0 x3_1 true ((rd_T61 l0 x3_1).f0) ((rd_T61 l0 x3_1).f1) ((rd_T61 l0 x3_1).f2) ((rd_T61 l0 x3_1).f3) ((rd_T61 l0 x3_1).f4) ((rd_T61 l0 x3_1).f5)))) else (spec_AreTeams.j1 k1 l0 x3_1 true ((rd_T61 l0 x3_1).f0) ((rd_T61 l0 x3_1).f1) ((rd_T61 l0 x3_1).f2) ((rd_T61 l0 x3_1).f3) ((rd_T61 l0 x3_1).f4) ((rd_T61 l0 x3_1).f5)))) else (spec_AreTeams.j1 k1 l0 x3_1 true ((rd_T61 l0 x3_1).f0) ((rd_T61 l0 x3_1).f1) ((rd_T61 l0 x3_1).f2) ((rd_T61 l0 x3_1).f3) ((rd_T61 l0 x3_1).f4) ((rd_T61 l0 x3_1).f5)))) else (spec_AreTeams.j1 k1 l0 x3_1 true ((rd_T61 l0 x3_1).f0) ((rd_T61 l0 x3_1).f1) ((rd_T61 l0 x3_1).f2) ((rd_T61 l0 x3_1).f3) ((rd_T61 l0 x3_1).f4) ((rd_T61 l0 x3_1).f5))) = some r := H
    have A7 := Aside0.mk A70
    clear A70
    by_cases c8 : t154 = true
    rotate_left
    ·
     replace c8 := Bool.eq_false_iff.mpr c8
     subst c8
     have H1 : (spec_AreTeams.j1 k1 l0 x3_1 true ((rd_T61 l0 x3_1).f0) ((rd_T61 l0 x3_1).f1) ((rd_T61 l0 x3_1).f2) ((rd_T61 l0 x3_1).f3) ((rd_T61 l0 x3_1).f4) ((rd_T61 l0 x3_1).f5)) = some r := by rw [if_neg (show ¬ (false = true) by decide)] at H; exact H
     clear H
     have H := H1
     clear H1
     have H' := Aside0.mk H
     clear H
     try go_wp2
     have n0_ : Aside0 (((((((w5.setCell ⟨gb153, 0, none⟩ (.int .i64 ((rd_T61 l0 x3_1).f0))).setCell ⟨gb153, 1, none⟩ (.int .i64 ((rd_T61 l0 x3_1).f1))).setCell ⟨gb153, 2, none⟩ (.int .i64 ((rd_T61 l0 x3_1).f2))).setCell ⟨gb153, 3, none⟩ (.int .i64 ((rd_T61 l0 x3_1).f3))).setCell ⟨gb153, 4, none⟩ (.int .i64 ((rd_T61 l0 x3_1).f4))).setCell ⟨gb153, 5, none⟩ (.slice A152_5 ((rd_T61 l0 x3_1).f5).length c152_5)).heap[gb153]? = some (.cells #[.int .i64 ((rd_T61 l0 x3_1).f0), .int .i64 ((rd_T61 l0 x3_1).f1), .int .i64 ((rd_T61 l0 x3_1).f2), .int .i64 ((rd_T61 l0 x3_1).f3), .int .i64 ((rd_T61 l0 x3_1).f4), .slice A152_5 ((rd_T61 l0 x3_1).f5).length c152_5] 61 (0, 0))) := ⟨by (with_reducible repeat (first | refine blk_drewN ?_ _ | refine blk_drew ?_ | refine blk_alloc ?_ _)); refine blk_put (cs := #[.int .i64 ((rd_T61 l0 x3_1).f0), .int .i64 ((rd_T61 l0 x3_1).f1), .int .i64 ((rd_T61 l0 x3_1).f2), .int .i64 ((rd_T61 l0 x3_1).f3), .int .i64 ((rd_T61 l0 x3_1).f4), .slice none 0 0]) ?_ 5 _ rfl; (with_reducible repeat (first | refine blk_drewN ?_ _ | refine blk_drew ?_ | refine blk_alloc ?_ _)); refine blk_put (cs := #[.int .i64 ((rd_T61 l0 x3_1).f0), .int .i64 ((rd_T61 l0 x3_1).f1), .int .i64 ((rd_T61 l0 x3_1).f2), .int .i64 ((rd_T61 l0 x3_1).f3), .int .i64 0, .slice none 0 0]) ?_ 4 _ rfl; (with_reducible repeat (first | refine blk_drewN ?_ _ | refine blk_drew ?_ | refine blk_alloc ?_ _)); refine blk_put (cs := #[.int .i64 ((rd_T61 l0 x3_1).f0), .int .i64 ((rd_T61 l0 x3_1).f1), .int .i64 ((rd_T61 l0 x3_1).f2), .int .i64 0, .int .i64 0, .slice none 0 0]) ?_ 3 _ rfl; (with_reducible repeat (first | refine blk_drewN ?_ _ | refine blk_drew ?_ | refine blk_alloc ?_ _)); refine blk_put (cs := #[.int .i64 ((rd_T61 l0 x3_1).f0), .int .i64 ((rd_T61 l0 x3_1).f1), .int .i64 0, .int .i64 0, .int .i64 0, .slice none 0 0]) ?_ 2 _ rfl; (with_reducible repeat (first | refine blk_drewN ?_ _ | refine blk_drew ?_ | refine blk_alloc ?_ _)); refine blk_put (cs := #[.int .i64 ((rd_T61 l0 x3_1).f0), .int .i64 0, .int .i64 0, .int .i64 0, .int .i64 0, .slice none 0 0]) ?_ 1 _ rfl; (with_reducible repeat (first | refine blk_drewN ?_ _ | refine blk_drew ?_ | refine blk_alloc ?_ _)); refine blk_put (cs := #[.int .i64 0, .int .i64 0, .int .i64 0, .int .i64 0, .int .i64 0, .slice none 0 0]) ?_ 0 _ rfl; (with_reducible repeat (first | refine blk_drewN ?_ _ | refine blk_drew ?_ | refine blk_alloc ?_ _)); exact BK153.out⟩
     have n1_ : Aside0 (Below w.heap.size w ((((((w5.setCell ⟨gb153, 0, none⟩ (.int .i64 ((rd_T61 l0 x3_1).f0))).setCell ⟨gb153, 1, none⟩ (.int .i64 ((rd_T61 l0 x3_1).f1))).setCell ⟨gb153, 2, none⟩ (.int .i64 ((rd_T61 l0 x3_1).f2))).setCell ⟨gb153, 3, none⟩ (.int .i64 ((rd_T61 l0 x3_1).f3))).setCell ⟨gb153, 4, none⟩ (.int .i64 ((rd_T61 l0 x3_1).f4))).setCell ⟨gb153, 5, none⟩ (.slice A152_5 ((rd_T61 l0 x3_1).f5).length c152_5))) := ⟨by repeat (first | (with_reducible first | exact HB.out | apply below_alloc | apply pw_below_drewN | apply below_drew1 | refine below_set ?_ GE153.out) | exact HB.out)⟩
     (try clear BK153)
     (try clear HB)
     generalize ((((((w5.setCell ⟨gb153, 0, none⟩ (.int .i64 ((rd_T61 l0 x3_1).f0))).setCell ⟨gb153, 1, none⟩ (.int .i64 ((rd_T61 l0 x3_1).f1))).setCell ⟨gb153, 2, none⟩ (.int .i64 ((rd_T61 l0 x3_1).f2))).setCell ⟨gb153, 3, none⟩ (.int .i64 ((rd_T61 l0 x3_1).f3))).setCell ⟨gb153, 4, none⟩ (.int .i64 ((rd_T61 l0 x3_1).f4))).setCell ⟨gb153, 5, none⟩ (.slice A152_5 ((rd_T61 l0 x3_1).f5).length c152_5)) = w36 at n0_ n1_ ⊢
     have BK153 := n0_
     have HB := n1_
     clear n0_ n1_
     have n0_ := Aside0.mk (blk_drew BK153.out)
     have n1_ := Aside0.mk (below_drew1 HB.out)
     clear BK153
     clear HB
     have BK153 := n0_
     have HB := n1_
     clear n0_ n1_
     refine start_ (n := 55) (S := fun w' => w'.cell? ⟨gb153, 0, none⟩ = some (.int .i64 ((rd_T61 l0 x3_1).f0)) ∧ w'.cell? ⟨gb153, 1, none⟩ = some (.int .i64 ((rd_T61 l0 x3_1).f1)) ∧ w'.cell? ⟨gb153, 2, none⟩ = some (.int .i64 ((rd_T61 l0 x3_1).f2)) ∧ w'.cell? ⟨gb153, 3, none⟩ = some (.int .i64 ((rd_T61 l0 x3_1).f3)) ∧ w'.cell? ⟨gb153, 4, none⟩ = some (.int .i64 ((rd_T61 l0 x3_1).f4)) ∧ w'.cell? ⟨gb153, 5, none⟩ = some (.slice A152_5 ((rd_T61 l0 x3_1).f5).length c152_5)) (ds := []) (bv 55 0) (by kernel_rfl) rfl rfl ⟨(blk_cell BK153.out 0).trans rfl, (blk_cell BK153.out 1).trans rfl, (blk_cell BK153.out 2).trans rfl, (blk_cell BK153.out 3).trans rfl, (blk_cell BK153.out 4).trans rfl, (blk_cell BK153.out 5).trans rfl⟩ (fun hHeld => ?_); refine with_tabW spec_AreTeams.tab5 spec_AreTeams.bits5 (fun HT_ HW_ => ?_)
     generalize w36.drew = w37 at BK153 HB hHeld ⊢
     refine pv_ 55 0 17 1 rfl rfl HT_ ?_
     refine tv_ 55 1 18 3 rfl rfl HT_ HW_ hHeld (by rintro w' ⟨s0, s1, s2, s3, s4, s5⟩; go_simp; with_reducible rfl) ?_
     refine one_ (i := 2) (N := some 19) (bv 55 7) rfl rfl (one_of HT_.out (by kernel_rfl)) (by decide) (fun K hK => ?_)
     refine goes_ Try.func59 (by kernel_rfl) rfl #[.int .i64 ((rd_T61 l0 x3_1).f0), .int .i64 1, .int .i64 99] (by rfl) rfl rfl (by (try simp only [List.map_toArray, List.map_cons, List.map_nil]); first | done | rfl | (simp only [List.length_drop, List.length_take]; rfl)) ?_
     with_reducible refine (spec_l1In.calls ((rd_T61 l0 x3_1).f0) 1 99 false _ A7.out).mono ?_
     rintro e w' ⟨rfl, ⟨nd, rfl⟩⟩
     refine ⟨_, rfl, ?_⟩
     refine hK.out _ _ ⟨(blk_cell BK153.out 0).trans rfl, (blk_cell BK153.out 1).trans rfl, (blk_cell BK153.out 2).trans rfl, (blk_cell BK153.out 3).trans rfl, (blk_cell BK153.out 4).trans rfl, (blk_cell BK153.out 5).trans rfl⟩ (fun hHeld => ?_)
     clear hK K
     refine nm_ 19 ?_
     refine pv_ 55 3 20 15 rfl rfl HT_ ?_; refine pv_ 55 4 21 31 rfl rfl HT_ ?_; refine pu_ 55 5 22 63 rfl rfl HT_ ?_; refine pu_ 55 6 23 127 rfl rfl HT_ ?_; refine pu_ 55 7 24 255 rfl rfl HT_ ?_; refine pu_ 55 8 25 511 rfl rfl HT_ ?_; refine pv_ 55 9 26 1023 rfl rfl HT_ ?_; refine pv_ 55 10 27 2047 rfl rfl HT_ ?_; refine pu_ 55 11 28 4095 rfl rfl HT_ ?_; refine pu_ 55 12 29 8191 rfl rfl HT_ ?_; refine pu_ 55 13 30 16383 rfl rfl HT_ ?_; refine pu_ 55 14 31 32767 rfl rfl HT_ ?_; refine pu_ 55 15 32 65535 rfl rfl HT_ ?_; refine pu_ 55 16 33 131071 rfl rfl HT_ ?_; refine pu_ 55 17 34 262143 rfl rfl HT_ ?_; refine pv_ 55 18 35 524287 rfl rfl HT_ ?_; refine pv_ 55 19 36 1048575 rfl rfl HT_ ?_; refine pu_ 55 20 37 2097151 rfl rfl HT_ ?_; refine pu_ 55 21 38 4194303 rfl rfl HT_ ?_; refine pu_ 55 22 39 8388607 rfl rfl HT_ ?_; refine pu_ 55 23 40 16777215 rfl rfl HT_ ?_; refine pu_ 55 24 41 33554431 rfl rfl HT_ ?_
     refine pu_ 55 25 42 67108863 rfl rfl HT_ ?_; refine pu_ 55 26 43 134217727 rfl rfl HT_ ?_; refine pv_ 55 27 44 268435455 rfl rfl HT_ ?_; refine pv_ 55 28 45 536870911 rfl rfl HT_ ?_; refine pu_ 55 29 46 1073741823 rfl rfl HT_ ?_; refine pu_ 55 30 47 2147483647 rfl rfl HT_ ?_; refine pu_ 55 31 48 4294967295 rfl rfl HT_ ?_; refine pu_ 55 32 49 8589934591 rfl rfl HT_ ?_; refine pv_ 55 33 50 17179869183 rfl rfl HT_ ?_; refine pv_ 55 34 51 34359738367 rfl rfl HT_ ?_; refine pu_ 55 35 52 68719476735 rfl rfl HT_ ?_; refine pu_ 55 36 53 137438953471 rfl rfl HT_ ?_; refine pu_ 55 37 54 274877906943 rfl rfl HT_ ?_; refine pu_ 55 38 55 549755813887 rfl rfl HT_ ?_; refine pv_ 55 39 56 1099511627775 rfl rfl HT_ ?_; refine pv_ 55 40 57 2199023255551 rfl rfl HT_ ?_; refine pu_ 55 41 58 4398046511103 rfl rfl HT_ ?_; refine pu_ 55 42 59 8796093022207 rfl rfl HT_ ?_; refine pu_ 55 43 60 17592186044415 rfl rfl HT_ ?_
     refine pu_ 55 44 61 35184372088831 rfl rfl HT_ ?_; refine pu_ 55 45 62 70368744177663 rfl rfl HT_ ?_; refine pu_ 55 46 63 140737488355327 rfl rfl HT_ ?_; refine pu_ 55 47 64 281474976710655 rfl rfl HT_ ?_; refine pu_ 55 48 65 562949953421311 rfl rfl HT_ ?_; refine pu_ 55 49 66 1125899906842623 rfl rfl HT_ ?_; refine pu_ 55 50 67 2251799813685247 rfl rfl HT_ ?_; refine pu_ 55 51 68 4503599627370495 rfl rfl HT_ ?_; refine pu_ 55 52 69 9007199254740991 rfl rfl HT_ ?_; refine pu_ 55 53 70 18014398509481983 rfl rfl HT_ ?_; refine pv_ 55 54 71 36028797018963967 rfl rfl HT_ ?_
     refine done_ (done_of HT_.out (by kernel_rfl)) ?_
     try go_wp2
     go_meet
     case rel => exact ⟨_, (true), (by first | rfl | (simp; done) | (simp [*]; done)), H', ⟨by have := HK1.out; first | omega | exact Nat.le_refl _⟩, ⟨by (with_reducible repeat (first | refine blk_drewN ?_ _ | refine blk_drew ?_ | refine blk_alloc ?_ _)); exact BK153.out⟩, ⟨by repeat (first | (with_reducible first | exact HB.out | apply below_alloc | apply pw_below_drewN | apply below_drew1 | refine below_set ?_ GE153.out) | exact HB.out)⟩⟩
    subst c8
    have H1 : ((spec_l1In.f ((rd_T61 l0 x3_1).f1) 1 99).bind fun t155 => (if t155 = true then ((spec_l1In.f ((rd_T61 l0 x3_1).f2) 0 (((rd_T61 l0 x3_1).f5).length : Int)).bind fun t156 => (if t156 = true then ((spec_l1In.f ((rd_T61 l0 x3_1).f4) 0 (((rd_T61 l0 x3_1).f5).length : Int)).bind fun t157 => (if t157 = true then ((spec_l1In.f ((rd_T61 l0 x3_1).f3) 0 100000).bind fun t158 => (if t158 = true then (if (((rd_T61 l0 x3_1).f5).length : Int) > 20 then (spec_AreTeams.j1 k1 l0 x3_1 true ((rd_T61 l0 x3_1).f0) ((rd_T61 l0 x3_1).f1) ((rd_T61 l0 x3_1).f2) ((rd_T61 l0 x3_1).f3) ((rd_T61 l0 x3_1).f4) ((rd_T61 l0 x3_1).f5)) else (if x3_1 > 0 then (if 0 ≤ (wrap64 (x3_1 - 1)) then (if (wrap64 (x3_1 - 1)) < (l0.length : Int) then (spec_AreTeams.j1 k1 l0 x3_1 (decide (((rd_T61 l0 (wrap64 (x3_1 - 1))).f0) ≥ ((rd_T61 l0 x3_1).f0))) ((rd_T61 l0 x3_1).f0) ((rd_T61 l0 x3_1).f1) ((rd_T61 l0 x3_1).f2) ((rd_T61 l0 x3_1).f3) ((rd_T61 l0 x3_1).f4) ((rd_T61 l0 x3_1).f5)) else (none)) else (none)) else (spec_AreTeams.j1 k1 l0 x3_1 false ((rd_T61 l0 x3_1).f0) ((rd_T61 l0 x3_1).f1) ((rd_T61 l0 x3_1).f2) ((rd_T61 l0 x3_1).f3) ((rd_T61 l0 x3_1).f4) ((rd_T61 l0 x3_1).f5)))) else (spec_AreTeams.j1 k1 l0 x3_1 true ((rd_T61 l0 x3_1).f0) ((rd_T61 l0 x3_1).f1) ((rd_T61 l0 x3_1).f2) ((rd_T61 l0 x3_1).f3) ((rd_T61 l0 x3_1).f4) ((rd_T61 l0 x3_1).f5)))) else (spec_AreTeams.j1 k1 l0 x3_1 true ((rd_T61 l0 x3_1).f0) ((rd_T61 l0 x3_1).f1) ((rd_T61 l0 x3_1).f2) ((rd_T61 l0 x3_1).f3) ((rd_T61 l0 x3_1).f4) ((rd_T61 l0 x3_1).f5)))) else (spec_AreTeams.j1 k1 l0 x3_1 true ((rd_T61 l0 x3_1).f0) ((rd_T61 l0 x3_1).f1) ((rd_T61 l0 x3_1).f2) ((rd_T61 l0 x3_1).f3) ((rd_T61 l0 x3_1).f4) ((rd_T61 l0 x3_1).f5)))) else (spec_AreTeams.j1 k1 l0 x3_1 true ((rd_T61 l0 x3_1).f0) ((rd_T61 l0 x3_1).f1) ((rd_T61 l0 x3_1).f2) ((rd_T61 l0 x3_1).f3) ((rd_T61 l0 x3_1).f4) ((rd_T61 l0 x3_1).f5)))) = some r := by rw [if_pos rfl] at H; exact H
    clear H
    have H := H1
    clear H1
    replace H := Option.bind_eq_some_iff.mp H
    obtain ⟨t155, A90, H⟩ := H
    replace H : (if t155 = true then ((spec_l1In.f ((rd_T61 l0 x3_1).f2) 0 (((rd_T61 l0 x3_1).f5).length : Int)).bind fun t156 => (if t156 = true then ((spec_l1In.f ((rd_T61 l0 x3_1).f4) 0 (((rd_T61 l0 x3_1).f5).length : Int)).bind fun t157 => (if t157 = true then ((spec_l1In.f ((rd_T61 l0 x3_1).f3) 0 100000).bind fun t158 => (if t158 = true then (if (((rd_T61 l0 x3_1).f5).length : Int) > 20 then (spec_AreTeams.j1 k1 l0 x3_1 true ((rd_T61 l0 x3_1).f0) ((rd_T61 l0 x3_1).f1) ((rd_T61 l0 x3_1).f2) ((rd_T61 l0 x3_1).f3) ((rd_T61 l0 x3_1).f4) ((rd_T61 l0 x3_1).f5)) else (if x3_1 > 0 then (if 0 ≤ (wrap64 (x3_1 - 1)) then (if (wrap64 (x3_1 - 1)) < (l0.length : Int) then (spec_AreTeams.j1 k1 l0 x3_1 (decide (((rd_T61 l0 (wrap64 (x3_1 - 1))).f0) ≥ ((rd_T61 l0 x3_1).f0))) ((rd_T61 l0 x3_1).f0) ((rd_T61 l0 x3_1).f1) ((rd_T61 l0 x3_1).f2) ((rd_T61 l0 x3_1).f3) ((rd_T61 l0 x3_1).f4) ((rd_T61 l0 x3_1).f5)) else (none)) else (none)) else (spec_AreTeams.j1 k1 l0 x3_1 false ((rd_T61 l0 x3_1).f0) ((rd_T61 l0 x3_1).f1) ((rd_T61 l0 x3_1).f2) ((rd_T61 l0 x3_1).f3) ((rd_T61 l0 x3_1).f4) ((rd_T61 l0 x3_1).f5)))) else (spec_AreTeams.j1 k1 l0 x3_1 true ((rd_T61 l0 x3_1).f0) ((rd_T61 l0 x3_1).f1) ((rd_T61 l0 x3_1).f2) ((rd_T61 l0 x3_1).f3) ((rd_T61 l0 x3_1).f4) ((rd_T61 l0 x3_1).f5)))) else (spec_AreTeams.j1 k1 l0 x3_1 true ((rd_T61 l0 x3_1).f0) ((rd_T61 l0 x3_1).f1) ((rd_T61 l0 x3_1).f2) ((rd_T61 l0 x3_1).f3) ((rd_T61 l0 x3_1).f4) ((rd_T61 l0 x3_1).f5)))) else (spec_AreTeams.j1 k1 l0 x3_1 true ((rd_T61 l0 x3_1).f0) ((rd_T61 l0 x3_1).f1) ((rd_T61 l0 x3_1).f2) ((rd_T61 l0 x3_1).f3) ((rd_T61 l0 x3_1).f4) ((rd_T61 l0 x3_1).f5)))) else (spec_AreTeams.j1 k1 l0 x3_1 true ((rd_T61 l0 x3_1).f0) ((rd_T61 l0 x3_1).f1) ((rd_T61 l0 x3_1).f2) ((rd_T61 l0 x3_1).f3) ((rd_T61 l0 x3_1).f4) ((rd_T61 l0 x3_1).f5))) = some r := H
    have A9 := Aside0.mk A90
    clear A90
    by_cases c10 : t155 = true
    rotate_left
    ·
     replace c10 := Bool.eq_false_iff.mpr c10
     subst c10
     have H1 : (spec_AreTeams.j1 k1 l0 x3_1 true ((rd_T61 l0 x3_1).f0) ((rd_T61 l0 x3_1).f1) ((rd_T61 l0 x3_1).f2) ((rd_T61 l0 x3_1).f3) ((rd_T61 l0 x3_1).f4) ((rd_T61 l0 x3_1).f5)) = some r := by rw [if_neg (show ¬ (false = true) by decide)] at H; exact H
     clear H
     have H := H1
     clear H1
     have H' := Aside0.mk H
     clear H
     try go_wp2
     have n0_ : Aside0 (((((((w5.setCell ⟨gb153, 0, none⟩ (.int .i64 ((rd_T61 l0 x3_1).f0))).setCell ⟨gb153, 1, none⟩ (.int .i64 ((rd_T61 l0 x3_1).f1))).setCell ⟨gb153, 2, none⟩ (.int .i64 ((rd_T61 l0 x3_1).f2))).setCell ⟨gb153, 3, none⟩ (.int .i64 ((rd_T61 l0 x3_1).f3))).setCell ⟨gb153, 4, none⟩ (.int .i64 ((rd_T61 l0 x3_1).f4))).setCell ⟨gb153, 5, none⟩ (.slice A152_5 ((rd_T61 l0 x3_1).f5).length c152_5)).heap[gb153]? = some (.cells #[.int .i64 ((rd_T61 l0 x3_1).f0), .int .i64 ((rd_T61 l0 x3_1).f1), .int .i64 ((rd_T61 l0 x3_1).f2), .int .i64 ((rd_T61 l0 x3_1).f3), .int .i64 ((rd_T61 l0 x3_1).f4), .slice A152_5 ((rd_T61 l0 x3_1).f5).length c152_5] 61 (0, 0))) := ⟨by (with_reducible repeat (first | refine blk_drewN ?_ _ | refine blk_drew ?_ | refine blk_alloc ?_ _)); refine blk_put (cs := #[.int .i64 ((rd_T61 l0 x3_1).f0), .int .i64 ((rd_T61 l0 x3_1).f1), .int .i64 ((rd_T61 l0 x3_1).f2), .int .i64 ((rd_T61 l0 x3_1).f3), .int .i64 ((rd_T61 l0 x3_1).f4), .slice none 0 0]) ?_ 5 _ rfl; (with_reducible repeat (first | refine blk_drewN ?_ _ | refine blk_drew ?_ | refine blk_alloc ?_ _)); refine blk_put (cs := #[.int .i64 ((rd_T61 l0 x3_1).f0), .int .i64 ((rd_T61 l0 x3_1).f1), .int .i64 ((rd_T61 l0 x3_1).f2), .int .i64 ((rd_T61 l0 x3_1).f3), .int .i64 0, .slice none 0 0]) ?_ 4 _ rfl; (with_reducible repeat (first | refine blk_drewN ?_ _ | refine blk_drew ?_ | refine blk_alloc ?_ _)); refine blk_put (cs := #[.int .i64 ((rd_T61 l0 x3_1).f0), .int .i64 ((rd_T61 l0 x3_1).f1), .int .i64 ((rd_T61 l0 x3_1).f2), .int .i64 0, .int .i64 0, .slice none 0 0]) ?_ 3 _ rfl; (with_reducible repeat (first | refine blk_drewN ?_ _ | refine blk_drew ?_ | refine blk_alloc ?_ _)); refine blk_put (cs := #[.int .i64 ((rd_T61 l0 x3_1).f0), .int .i64 ((rd_T61 l0 x3_1).f1), .int .i64 0, .int .i64 0, .int .i64 0, .slice none 0 0]) ?_ 2 _ rfl; (with_reducible repeat (first | refine blk_drewN ?_ _ | refine blk_drew ?_ | refine blk_alloc ?_ _)); refine blk_put (cs := #[.int .i64 ((rd_T61 l0 x3_1).f0), .int .i64 0, .int .i64 0, .int .i64 0, .int .i64 0, .slice none 0 0]) ?_ 1 _ rfl; (with_reducible repeat (first | refine blk_drewN ?_ _ | refine blk_drew ?_ | refine blk_alloc ?_ _)); refine blk_put (cs := #[.int .i64 0, .int .i64 0, .int .i64 0, .int .i64 0, .int .i64 0, .slice none 0 0]) ?_ 0 _ rfl; (with_reducible repeat (first | refine blk_drewN ?_ _ | refine blk_drew ?_ | refine blk_alloc ?_ _)); exact BK153.out⟩
     have n1_ : Aside0 (Below w.heap.size w ((((((w5.setCell ⟨gb153, 0, none⟩ (.int .i64 ((rd_T61 l0 x3_1).f0))).setCell ⟨gb153, 1, none⟩ (.int .i64 ((rd_T61 l0 x3_1).f1))).setCell ⟨gb153, 2, none⟩ (.int .i64 ((rd_T61 l0 x3_1).f2))).setCell ⟨gb153, 3, none⟩ (.int .i64 ((rd_T61 l0 x3_1).f3))).setCell ⟨gb153, 4, none⟩ (.int .i64 ((rd_T61 l0 x3_1).f4))).setCell ⟨gb153, 5, none⟩ (.slice A152_5 ((rd_T61 l0 x3_1).f5).length c152_5))) := ⟨by repeat (first | (with_reducible first | exact HB.out | apply below_alloc | apply pw_below_drewN | apply below_drew1 | refine below_set ?_ GE153.out) | exact HB.out)⟩
     (try clear BK153)
     (try clear HB)
     generalize ((((((w5.setCell ⟨gb153, 0, none⟩ (.int .i64 ((rd_T61 l0 x3_1).f0))).setCell ⟨gb153, 1, none⟩ (.int .i64 ((rd_T61 l0 x3_1).f1))).setCell ⟨gb153, 2, none⟩ (.int .i64 ((rd_T61 l0 x3_1).f2))).setCell ⟨gb153, 3, none⟩ (.int .i64 ((rd_T61 l0 x3_1).f3))).setCell ⟨gb153, 4, none⟩ (.int .i64 ((rd_T61 l0 x3_1).f4))).setCell ⟨gb153, 5, none⟩ (.slice A152_5 ((rd_T61 l0 x3_1).f5).length c152_5)) = w34 at n0_ n1_ ⊢
     have BK153 := n0_
     have HB := n1_
     clear n0_ n1_
     have n0_ := Aside0.mk (blk_drew BK153.out)
     have n1_ := Aside0.mk (below_drew1 HB.out)
     clear BK153
     clear HB
     have BK153 := n0_
     have HB := n1_
     clear n0_ n1_
     refine start_ (n := 55) (S := fun w' => w'.cell? ⟨gb153, 0, none⟩ = some (.int .i64 ((rd_T61 l0 x3_1).f0)) ∧ w'.cell? ⟨gb153, 1, none⟩ = some (.int .i64 ((rd_T61 l0 x3_1).f1)) ∧ w'.cell? ⟨gb153, 2, none⟩ = some (.int .i64 ((rd_T61 l0 x3_1).f2)) ∧ w'.cell? ⟨gb153, 3, none⟩ = some (.int .i64 ((rd_T61 l0 x3_1).f3)) ∧ w'.cell? ⟨gb153, 4, none⟩ = some (.int .i64 ((rd_T61 l0 x3_1).f4)) ∧ w'.cell? ⟨gb153, 5, none⟩ = some (.slice A152_5 ((rd_T61 l0 x3_1).f5).length c152_5)) (ds := []) (bv 55 0) (by kernel_rfl) rfl rfl ⟨(blk_cell BK153.out 0).trans rfl, (blk_cell BK153.out 1).trans rfl, (blk_cell BK153.out 2).trans rfl, (blk_cell BK153.out 3).trans rfl, (blk_cell BK153.out 4).trans rfl, (blk_cell BK153.out 5).trans rfl⟩ (fun hHeld => ?_); refine with_tabW spec_AreTeams.tab5 spec_AreTeams.bits5 (fun HT_ HW_ => ?_)
     generalize w34.drew = w35 at BK153 HB hHeld ⊢
     refine pv_ 55 0 17 1 rfl rfl HT_ ?_
     refine tv_ 55 1 18 3 rfl rfl HT_ HW_ hHeld (by rintro w' ⟨s0, s1, s2, s3, s4, s5⟩; go_simp; with_reducible rfl) ?_
     refine one_ (i := 2) (N := some 19) (bv 55 7) rfl rfl (one_of HT_.out (by kernel_rfl)) (by decide) (fun K hK => ?_)
     refine goes_ Try.func59 (by kernel_rfl) rfl #[.int .i64 ((rd_T61 l0 x3_1).f0), .int .i64 1, .int .i64 99] (by rfl) rfl rfl (by (try simp only [List.map_toArray, List.map_cons, List.map_nil]); first | done | rfl | (simp only [List.length_drop, List.length_take]; rfl)) ?_
     with_reducible refine (spec_l1In.calls ((rd_T61 l0 x3_1).f0) 1 99 true _ A7.out).mono ?_
     rintro e w' ⟨rfl, ⟨nd, rfl⟩⟩
     refine ⟨_, rfl, ?_⟩
     refine hK.out _ _ ⟨(blk_cell BK153.out 0).trans rfl, (blk_cell BK153.out 1).trans rfl, (blk_cell BK153.out 2).trans rfl, (blk_cell BK153.out 3).trans rfl, (blk_cell BK153.out 4).trans rfl, (blk_cell BK153.out 5).trans rfl⟩ (fun hHeld => ?_)
     clear hK K
     refine nm_ 19 ?_
     refine pv_ 55 3 20 15 rfl rfl HT_ ?_; refine pv_ 55 4 21 31 rfl rfl HT_ ?_; refine pv_ 55 5 22 63 rfl rfl HT_ ?_
     refine tv_ 55 6 23 127 rfl rfl HT_ HW_ hHeld (by rintro w' ⟨s0, s1, s2, s3, s4, s5⟩; go_simp; with_reducible rfl) ?_
     refine one_ (i := 7) (N := some 24) (bv 55 255) rfl rfl (one_of HT_.out (by kernel_rfl)) (by decide) (fun K hK => ?_)
     refine goes_ Try.func59 (by kernel_rfl) rfl #[.int .i64 ((rd_T61 l0 x3_1).f1), .int .i64 1, .int .i64 99] (by rfl) rfl rfl (by (try simp only [List.map_toArray, List.map_cons, List.map_nil]); first | done | rfl | (simp only [List.length_drop, List.length_take]; rfl)) ?_
     with_reducible refine (spec_l1In.calls ((rd_T61 l0 x3_1).f1) 1 99 false _ A9.out).mono ?_
     rintro e w' ⟨rfl, ⟨nd, rfl⟩⟩
     refine ⟨_, rfl, ?_⟩
     refine hK.out _ _ ⟨(blk_cell BK153.out 0).trans rfl, (blk_cell BK153.out 1).trans rfl, (blk_cell BK153.out 2).trans rfl, (blk_cell BK153.out 3).trans rfl, (blk_cell BK153.out 4).trans rfl, (blk_cell BK153.out 5).trans rfl⟩ (fun hHeld => ?_)
     clear hK K
     refine nm_ 24 ?_
     refine pv_ 55 8 25 511 rfl rfl HT_ ?_; refine pv_ 55 9 26 1023 rfl rfl HT_ ?_; refine pv_ 55 10 27 2047 rfl rfl HT_ ?_; refine pu_ 55 11 28 4095 rfl rfl HT_ ?_; refine pu_ 55 12 29 8191 rfl rfl HT_ ?_; refine pu_ 55 13 30 16383 rfl rfl HT_ ?_; refine pu_ 55 14 31 32767 rfl rfl HT_ ?_; refine pu_ 55 15 32 65535 rfl rfl HT_ ?_; refine pu_ 55 16 33 131071 rfl rfl HT_ ?_; refine pu_ 55 17 34 262143 rfl rfl HT_ ?_; refine pv_ 55 18 35 524287 rfl rfl HT_ ?_; refine pv_ 55 19 36 1048575 rfl rfl HT_ ?_; refine pu_ 55 20 37 2097151 rfl rfl HT_ ?_; refine pu_ 55 21 38 4194303 rfl rfl HT_ ?_; refine pu_ 55 22 39 8388607 rfl rfl HT_ ?_; refine pu_ 55 23 40 16777215 rfl rfl HT_ ?_; refine pu_ 55 24 41 33554431 rfl rfl HT_ ?_; refine pu_ 55 25 42 67108863 rfl rfl HT_ ?_; refine pu_ 55 26 43 134217727 rfl rfl HT_ ?_; refine pv_ 55 27 44 268435455 rfl rfl HT_ ?_; refine pv_ 55 28 45 536870911 rfl rfl HT_ ?_
     refine pu_ 55 29 46 1073741823 rfl rfl HT_ ?_; refine pu_ 55 30 47 2147483647 rfl rfl HT_ ?_; refine pu_ 55 31 48 4294967295 rfl rfl HT_ ?_; refine pu_ 55 32 49 8589934591 rfl rfl HT_ ?_; refine pv_ 55 33 50 17179869183 rfl rfl HT_ ?_; refine pv_ 55 34 51 34359738367 rfl rfl HT_ ?_; refine pu_ 55 35 52 68719476735 rfl rfl HT_ ?_; refine pu_ 55 36 53 137438953471 rfl rfl HT_ ?_; refine pu_ 55 37 54 274877906943 rfl rfl HT_ ?_; refine pu_ 55 38 55 549755813887 rfl rfl HT_ ?_; refine pv_ 55 39 56 1099511627775 rfl rfl HT_ ?_; refine pv_ 55 40 57 2199023255551 rfl rfl HT_ ?_; refine pu_ 55 41 58 4398046511103 rfl rfl HT_ ?_; refine pu_ 55 42 59 8796093022207 rfl rfl HT_ ?_; refine pu_ 55 43 60 17592186044415 rfl rfl HT_ ?_; refine pu_ 55 44 61 35184372088831 rfl rfl HT_ ?_; refine pu_ 55 45 62 70368744177663 rfl rfl HT_ ?_; refine pu_ 55 46 63 140737488355327 rfl rfl HT_ ?_; refine pu_ 55 47 64 281474976710655 rfl rfl HT_ ?_
     refine pu_ 55 48 65 562949953421311 rfl rfl HT_ ?_; refine pu_ 55 49 66 1125899906842623 rfl rfl HT_ ?_; refine pu_ 55 50 67 2251799813685247 rfl rfl HT_ ?_; refine pu_ 55 51 68 4503599627370495 rfl rfl HT_ ?_; refine pu_ 55 52 69 9007199254740991 rfl rfl HT_ ?_; refine pu_ 55 53 70 18014398509481983 rfl rfl HT_ ?_; refine pv_ 55 54 71 36028797018963967 rfl rfl HT_ ?_
     refine done_ (done_of HT_.out (by kernel_rfl)) ?_
     try go_wp2
     go_meet
     case rel => exact ⟨_, (true), (by first | rfl | (simp; done) | (simp [*]; done)), H', ⟨by have := HK1.out; first | omega | exact Nat.le_refl _⟩, ⟨by (with_reducible repeat (first | refine blk_drewN ?_ _ | refine blk_drew ?_ | refine blk_alloc ?_ _)); exact BK153.out⟩, ⟨by repeat (first | (with_reducible first | exact HB.out | apply below_alloc | apply pw_below_drewN | apply below_drew1 | refine below_set ?_ GE153.out) | exact HB.out)⟩⟩
    subst c10
    have H1 : ((spec_l1In.f ((rd_T61 l0 x3_1).f2) 0 (((rd_T61 l0 x3_1).f5).length : Int)).bind fun t156 => (if t156 = true then ((spec_l1In.f ((rd_T61 l0 x3_1).f4) 0 (((rd_T61 l0 x3_1).f5).length : Int)).bind fun t157 => (if t157 = true then ((spec_l1In.f ((rd_T61 l0 x3_1).f3) 0 100000).bind fun t158 => (if t158 = true then (if (((rd_T61 l0 x3_1).f5).length : Int) > 20 then (spec_AreTeams.j1 k1 l0 x3_1 true ((rd_T61 l0 x3_1).f0) ((rd_T61 l0 x3_1).f1) ((rd_T61 l0 x3_1).f2) ((rd_T61 l0 x3_1).f3) ((rd_T61 l0 x3_1).f4) ((rd_T61 l0 x3_1).f5)) else (if x3_1 > 0 then (if 0 ≤ (wrap64 (x3_1 - 1)) then (if (wrap64 (x3_1 - 1)) < (l0.length : Int) then (spec_AreTeams.j1 k1 l0 x3_1 (decide (((rd_T61 l0 (wrap64 (x3_1 - 1))).f0) ≥ ((rd_T61 l0 x3_1).f0))) ((rd_T61 l0 x3_1).f0) ((rd_T61 l0 x3_1).f1) ((rd_T61 l0 x3_1).f2) ((rd_T61 l0 x3_1).f3) ((rd_T61 l0 x3_1).f4) ((rd_T61 l0 x3_1).f5)) else (none)) else (none)) else (spec_AreTeams.j1 k1 l0 x3_1 false ((rd_T61 l0 x3_1).f0) ((rd_T61 l0 x3_1).f1) ((rd_T61 l0 x3_1).f2) ((rd_T61 l0 x3_1).f3) ((rd_T61 l0 x3_1).f4) ((rd_T61 l0 x3_1).f5)))) else (spec_AreTeams.j1 k1 l0 x3_1 true ((rd_T61 l0 x3_1).f0) ((rd_T61 l0 x3_1).f1) ((rd_T61 l0 x3_1).f2) ((rd_T61 l0 x3_1).f3) ((rd_T61 l0 x3_1).f4) ((rd_T61 l0 x3_1).f5)))) else (spec_AreTeams.j1 k1 l0 x3_1 true ((rd_T61 l0 x3_1).f0) ((rd_T61 l0 x3_1).f1) ((rd_T61 l0 x3_1).f2) ((rd_T61 l0 x3_1).f3) ((rd_T61 l0 x3_1).f4) ((rd_T61 l0 x3_1).f5)))) else (spec_AreTeams.j1 k1 l0 x3_1 true ((rd_T61 l0 x3_1).f0) ((rd_T61 l0 x3_1).f1) ((rd_T61 l0 x3_1).f2) ((rd_T61 l0 x3_1).f3) ((rd_T61 l0 x3_1).f4) ((rd_T61 l0 x3_1).f5)))) = some r := by rw [if_pos rfl] at H; exact H
    clear H
    have H := H1
    clear H1
    replace H := Option.bind_eq_some_iff.mp H
    obtain ⟨t156, A110, H⟩ := H
    replace H : (if t156 = true then ((spec_l1In.f ((rd_T61 l0 x3_1).f4) 0 (((rd_T61 l0 x3_1).f5).length : Int)).bind fun t157 => (if t157 = true then ((spec_l1In.f ((rd_T61 l0 x3_1).f3) 0 100000).bind fun t158 => (if t158 = true then (if (((rd_T61 l0 x3_1).f5).length : Int) > 20 then (spec_AreTeams.j1 k1 l0 x3_1 true ((rd_T61 l0 x3_1).f0) ((rd_T61 l0 x3_1).f1) ((rd_T61 l0 x3_1).f2) ((rd_T61 l0 x3_1).f3) ((rd_T61 l0 x3_1).f4) ((rd_T61 l0 x3_1).f5)) else (if x3_1 > 0 then (if 0 ≤ (wrap64 (x3_1 - 1)) then (if (wrap64 (x3_1 - 1)) < (l0.length : Int) then (spec_AreTeams.j1 k1 l0 x3_1 (decide (((rd_T61 l0 (wrap64 (x3_1 - 1))).f0) ≥ ((rd_T61 l0 x3_1).f0))) ((rd_T61 l0 x3_1).f0) ((rd_T61 l0 x3_1).f1) ((rd_T61 l0 x3_1).f2) ((rd_T61 l0 x3_1).f3) ((rd_T61 l0 x3_1).f4) ((rd_T61 l0 x3_1).f5)) else (none)) else (none)) else (spec_AreTeams.j1 k1 l0 x3_1 false ((rd_T61 l0 x3_1).f0) ((rd_T61 l0 x3_1).f1) ((rd_T61 l0 x3_1).f2) ((rd_T61 l0 x3_1).f3) ((rd_T61 l0 x3_1).f4) ((rd_T61 l0 x3_1).f5)))) else (spec_AreTeams.j1 k1 l0 x3_1 true ((rd_T61 l0 x3_1).f0) ((rd_T61 l0 x3_1).f1) ((rd_T61 l0 x3_1).f2) ((rd_T61 l0 x3_1).f3) ((rd_T61 l0 x3_1).f4) ((rd_T61 l0 x3_1).f5)))) else (spec_AreTeams.j1 k1 l0 x3_1 true ((rd_T61 l0 x3_1).f0) ((rd_T61 l0 x3_1).f1) ((rd_T61 l0 x3_1).f2) ((rd_T61 l0 x3_1).f3) ((rd_T61 l0 x3_1).f4) ((rd_T61 l0 x3_1).f5)))) else (spec_AreTeams.j1 k1 l0 x3_1 true ((rd_T61 l0 x3_1).f0) ((rd_T61 l0 x3_1).f1) ((rd_T61 l0 x3_1).f2) ((rd_T61 l0 x3_1).f3) ((rd_T61 l0 x3_1).f4) ((rd_T61 l0 x3_1).f5))) = some r := H
    have A11 := Aside0.mk A110
    clear A110
    by_cases c12 : t156 = true
    rotate_left
    ·
     replace c12 := Bool.eq_false_iff.mpr c12
     subst c12
     have H1 : (spec_AreTeams.j1 k1 l0 x3_1 true ((rd_T61 l0 x3_1).f0) ((rd_T61 l0 x3_1).f1) ((rd_T61 l0 x3_1).f2) ((rd_T61 l0 x3_1).f3) ((rd_T61 l0 x3_1).f4) ((rd_T61 l0 x3_1).f5)) = some r := by rw [if_neg (show ¬ (false = true) by decide)] at H; exact H
     clear H
     have H := H1
     clear H1
     have H' := Aside0.mk H
     clear H
     try go_wp2
     have n0_ : Aside0 (((((((w5.setCell ⟨gb153, 0, none⟩ (.int .i64 ((rd_T61 l0 x3_1).f0))).setCell ⟨gb153, 1, none⟩ (.int .i64 ((rd_T61 l0 x3_1).f1))).setCell ⟨gb153, 2, none⟩ (.int .i64 ((rd_T61 l0 x3_1).f2))).setCell ⟨gb153, 3, none⟩ (.int .i64 ((rd_T61 l0 x3_1).f3))).setCell ⟨gb153, 4, none⟩ (.int .i64 ((rd_T61 l0 x3_1).f4))).setCell ⟨gb153, 5, none⟩ (.slice A152_5 ((rd_T61 l0 x3_1).f5).length c152_5)).heap[gb153]? = some (.cells #[.int .i64 ((rd_T61 l0 x3_1).f0), .int .i64 ((rd_T61 l0 x3_1).f1), .int .i64 ((rd_T61 l0 x3_1).f2), .int .i64 ((rd_T61 l0 x3_1).f3), .int .i64 ((rd_T61 l0 x3_1).f4), .slice A152_5 ((rd_T61 l0 x3_1).f5).length c152_5] 61 (0, 0))) := ⟨by (with_reducible repeat (first | refine blk_drewN ?_ _ | refine blk_drew ?_ | refine blk_alloc ?_ _)); refine blk_put (cs := #[.int .i64 ((rd_T61 l0 x3_1).f0), .int .i64 ((rd_T61 l0 x3_1).f1), .int .i64 ((rd_T61 l0 x3_1).f2), .int .i64 ((rd_T61 l0 x3_1).f3), .int .i64 ((rd_T61 l0 x3_1).f4), .slice none 0 0]) ?_ 5 _ rfl; (with_reducible repeat (first | refine blk_drewN ?_ _ | refine blk_drew ?_ | refine blk_alloc ?_ _)); refine blk_put (cs := #[.int .i64 ((rd_T61 l0 x3_1).f0), .int .i64 ((rd_T61 l0 x3_1).f1), .int .i64 ((rd_T61 l0 x3_1).f2), .int .i64 ((rd_T61 l0 x3_1).f3), .int .i64 0, .slice none 0 0]) ?_ 4 _ rfl; (with_reducible repeat (first | refine blk_drewN ?_ _ | refine blk_drew ?_ | refine blk_alloc ?_ _)); refine blk_put (cs := #[.int .i64 ((rd_T61 l0 x3_1).f0), .int .i64 ((rd_T61 l0 x3_1).f1), .int .i64 ((rd_T61 l0 x3_1).f2), .int .i64 0, .int .i64 0, .slice none 0 0]) ?_ 3 _ rfl; (with_reducible repeat (first | refine blk_drewN ?_ _ | refine blk_drew ?_ | refine blk_alloc ?_ _)); refine blk_put (cs := #[.int .i64 ((rd_T61 l0 x3_1).f0), .int .i64 ((rd_T61 l0 x3_1).f1), .int .i64 0, .int .i64 0, .int .i64 0, .slice none 0 0]) ?_ 2 _ rfl; (with_reducible repeat (first | refine blk_drewN ?_ _ | refine blk_drew ?_ | refine blk_alloc ?_ _)); refine blk_put (cs := #[.int .i64 ((rd_T61 l0 x3_1).f0), .int .i64 0, .int .i64 0, .int .i64 0, .int .i64 0, .slice none 0 0]) ?_ 1 _ rfl; (with_reducible repeat (first | refine blk_drewN ?_ _ | refine blk_drew ?_ | refine blk_alloc ?_ _)); refine blk_put (cs := #[.int .i64 0, .int .i64 0, .int .i64 0, .int .i64 0, .int .i64 0, .slice none 0 0]) ?_ 0 _ rfl; (with_reducible repeat (first | refine blk_drewN ?_ _ | refine blk_drew ?_ | refine blk_alloc ?_ _)); exact BK153.out⟩
     have n1_ : Aside0 (Below w.heap.size w ((((((w5.setCell ⟨gb153, 0, none⟩ (.int .i64 ((rd_T61 l0 x3_1).f0))).setCell ⟨gb153, 1, none⟩ (.int .i64 ((rd_T61 l0 x3_1).f1))).setCell ⟨gb153, 2, none⟩ (.int .i64 ((rd_T61 l0 x3_1).f2))).setCell ⟨gb153, 3, none⟩ (.int .i64 ((rd_T61 l0 x3_1).f3))).setCell ⟨gb153, 4, none⟩ (.int .i64 ((rd_T61 l0 x3_1).f4))).setCell ⟨gb153, 5, none⟩ (.slice A152_5 ((rd_T61 l0 x3_1).f5).length c152_5))) := ⟨by repeat (first | (with_reducible first | exact HB.out | apply below_alloc | apply pw_below_drewN | apply below_drew1 | refine below_set ?_ GE153.out) | exact HB.out)⟩
     (try clear BK153)
     (try clear HB)
     generalize ((((((w5.setCell ⟨gb153, 0, none⟩ (.int .i64 ((rd_T61 l0 x3_1).f0))).setCell ⟨gb153, 1, none⟩ (.int .i64 ((rd_T61 l0 x3_1).f1))).setCell ⟨gb153, 2, none⟩ (.int .i64 ((rd_T61 l0 x3_1).f2))).setCell ⟨gb153, 3, none⟩ (.int .i64 ((rd_T61 l0 x3_1).f3))).setCell ⟨gb153, 4, none⟩ (.int .i64 ((rd_T61 l0 x3_1).f4))).setCell ⟨gb153, 5, none⟩ (.slice A152_5 ((rd_T61 l0 x3_1).f5).length c152_5)) = w32 at n0_ n1_ ⊢
     have BK153 := n0_
     have HB := n1_
     clear n0_ n1_
     have n0_ := Aside0.mk (blk_drew BK153.out)
     have n1_ := Aside0.mk (below_drew1 HB.out)
     clear BK153
     clear HB
     have BK153 := n0_
     have HB := n1_
     clear n0_ n1_
     refine start_ (n := 55) (S := fun w' => w'.cell? ⟨gb153, 0, none⟩ = some (.int .i64 ((rd_T61 l0 x3_1).f0)) ∧ w'.cell? ⟨gb153, 1, none⟩ = some (.int .i64 ((rd_T61 l0 x3_1).f1)) ∧ w'.cell? ⟨gb153, 2, none⟩ = some (.int .i64 ((rd_T61 l0 x3_1).f2)) ∧ w'.cell? ⟨gb153, 3, none⟩ = some (.int .i64 ((rd_T61 l0 x3_1).f3)) ∧ w'.cell? ⟨gb153, 4, none⟩ = some (.int .i64 ((rd_T61 l0 x3_1).f4)) ∧ w'.cell? ⟨gb153, 5, none⟩ = some (.slice A152_5 ((rd_T61 l0 x3_1).f5).length c152_5)) (ds := []) (bv 55 0) (by kernel_rfl) rfl rfl ⟨(blk_cell BK153.out 0).trans rfl, (blk_cell BK153.out 1).trans rfl, (blk_cell BK153.out 2).trans rfl, (blk_cell BK153.out 3).trans rfl, (blk_cell BK153.out 4).trans rfl, (blk_cell BK153.out 5).trans rfl⟩ (fun hHeld => ?_); refine with_tabW spec_AreTeams.tab5 spec_AreTeams.bits5 (fun HT_ HW_ => ?_)
     generalize w32.drew = w33 at BK153 HB hHeld ⊢
     refine pv_ 55 0 17 1 rfl rfl HT_ ?_
     refine tv_ 55 1 18 3 rfl rfl HT_ HW_ hHeld (by rintro w' ⟨s0, s1, s2, s3, s4, s5⟩; go_simp; with_reducible rfl) ?_
     refine one_ (i := 2) (N := some 19) (bv 55 7) rfl rfl (one_of HT_.out (by kernel_rfl)) (by decide) (fun K hK => ?_)
     refine goes_ Try.func59 (by kernel_rfl) rfl #[.int .i64 ((rd_T61 l0 x3_1).f0), .int .i64 1, .int .i64 99] (by rfl) rfl rfl (by (try simp only [List.map_toArray, List.map_cons, List.map_nil]); first | done | rfl | (simp only [List.length_drop, List.length_take]; rfl)) ?_
     with_reducible refine (spec_l1In.calls ((rd_T61 l0 x3_1).f0) 1 99 true _ A7.out).mono ?_
     rintro e w' ⟨rfl, ⟨nd, rfl⟩⟩
     refine ⟨_, rfl, ?_⟩
     refine hK.out _ _ ⟨(blk_cell BK153.out 0).trans rfl, (blk_cell BK153.out 1).trans rfl, (blk_cell BK153.out 2).trans rfl, (blk_cell BK153.out 3).trans rfl, (blk_cell BK153.out 4).trans rfl, (blk_cell BK153.out 5).trans rfl⟩ (fun hHeld => ?_)
     clear hK K
     refine nm_ 19 ?_
     refine pv_ 55 3 20 15 rfl rfl HT_ ?_; refine pv_ 55 4 21 31 rfl rfl HT_ ?_; refine pv_ 55 5 22 63 rfl rfl HT_ ?_
     refine tv_ 55 6 23 127 rfl rfl HT_ HW_ hHeld (by rintro w' ⟨s0, s1, s2, s3, s4, s5⟩; go_simp; with_reducible rfl) ?_
     refine one_ (i := 7) (N := some 24) (bv 55 255) rfl rfl (one_of HT_.out (by kernel_rfl)) (by decide) (fun K hK => ?_)
     refine goes_ Try.func59 (by kernel_rfl) rfl #[.int .i64 ((rd_T61 l0 x3_1).f1), .int .i64 1, .int .i64 99] (by rfl) rfl rfl (by (try simp only [List.map_toArray, List.map_cons, List.map_nil]); first | done | rfl | (simp only [List.length_drop, List.length_take]; rfl)) ?_
     with_reducible refine (spec_l1In.calls ((rd_T61 l0 x3_1).f1) 1 99 true _ A9.out).mono ?_
     rintro e w' ⟨rfl, ⟨nd, rfl⟩⟩
     refine ⟨_, rfl, ?_⟩
     refine hK.out _ _ ⟨(blk_cell BK153.out 0).trans rfl, (blk_cell BK153.out 1).trans rfl, (blk_cell BK153.out 2).trans rfl, (blk_cell BK153.out 3).trans rfl, (blk_cell BK153.out 4).trans rfl, (blk_cell BK153.out 5).trans rfl⟩ (fun hHeld => ?_)
     clear hK K
     refine nm_ 24 ?_
     refine pv_ 55 8 25 511 rfl rfl HT_ ?_; refine pv_ 55 9 26 1023 rfl rfl HT_ ?_; refine pv_ 55 10 27 2047 rfl rfl HT_ ?_; refine pv_ 55 11 28 4095 rfl rfl HT_ ?_; refine pv_ 55 13 30 12287 rfl rfl HT_ ?_
     refine tv_ 55 12 29 16383 rfl rfl HT_ HW_ hHeld (by rintro w' ⟨s0, s1, s2, s3, s4, s5⟩; go_simp; with_reducible rfl) ?_
     refine tv_ 55 14 31 32767 rfl rfl HT_ HW_ hHeld (by rintro w' ⟨s0, s1, s2, s3, s4, s5⟩; go_simp; with_reducible rfl) ?_
     refine pv_ 55 15 32 65535 rfl rfl HT_ ?_
     refine one_ (i := 16) (N := some 33) (bv 55 131071) rfl rfl (one_of HT_.out (by kernel_rfl)) (by decide) (fun K hK => ?_)
     refine goes_ Try.func59 (by kernel_rfl) rfl #[.int .i64 ((rd_T61 l0 x3_1).f2), .int .i64 0, .int .i64 (((rd_T61 l0 x3_1).f5).length : Int)] (by rfl) rfl rfl (by (try simp only [List.map_toArray, List.map_cons, List.map_nil]); first | done | rfl | (simp only [List.length_drop, List.length_take]; rfl)) ?_
     with_reducible refine (spec_l1In.calls ((rd_T61 l0 x3_1).f2) 0 (((rd_T61 l0 x3_1).f5).length : Int) false _ A11.out).mono ?_
     rintro e w' ⟨rfl, ⟨nd, rfl⟩⟩
     refine ⟨_, rfl, ?_⟩
     refine hK.out _ _ ⟨(blk_cell BK153.out 0).trans rfl, (blk_cell BK153.out 1).trans rfl, (blk_cell BK153.out 2).trans rfl, (blk_cell BK153.out 3).trans rfl, (blk_cell BK153.out 4).trans rfl, (blk_cell BK153.out 5).trans rfl⟩ (fun hHeld => ?_)
     clear hK K
     refine nm_ 33 ?_
     refine pv_ 55 17 34 262143 rfl rfl HT_ ?_; refine pv_ 55 18 35 524287 rfl rfl HT_ ?_; refine pv_ 55 19 36 1048575 rfl rfl HT_ ?_; refine pu_ 55 20 37 2097151 rfl rfl HT_ ?_; refine pu_ 55 21 38 4194303 rfl rfl HT_ ?_; refine pu_ 55 22 39 8388607 rfl rfl HT_ ?_; refine pu_ 55 23 40 16777215 rfl rfl HT_ ?_; refine pu_ 55 24 41 33554431 rfl rfl HT_ ?_; refine pu_ 55 25 42 67108863 rfl rfl HT_ ?_; refine pu_ 55 26 43 134217727 rfl rfl HT_ ?_; refine pv_ 55 27 44 268435455 rfl rfl HT_ ?_; refine pv_ 55 28 45 536870911 rfl rfl HT_ ?_; refine pu_ 55 29 46 1073741823 rfl rfl HT_ ?_; refine pu_ 55 30 47 2147483647 rfl rfl HT_ ?_; refine pu_ 55 31 48 4294967295 rfl rfl HT_ ?_; refine pu_ 55 32 49 8589934591 rfl rfl HT_ ?_; refine pv_ 55 33 50 17179869183 rfl rfl HT_ ?_; refine pv_ 55 34 51 34359738367 rfl rfl HT_ ?_; refine pu_ 55 35 52 68719476735 rfl rfl HT_ ?_; refine pu_ 55 36 53 137438953471 rfl rfl HT_ ?_
     refine pu_ 55 37 54 274877906943 rfl rfl HT_ ?_; refine pu_ 55 38 55 549755813887 rfl rfl HT_ ?_; refine pv_ 55 39 56 1099511627775 rfl rfl HT_ ?_; refine pv_ 55 40 57 2199023255551 rfl rfl HT_ ?_; refine pu_ 55 41 58 4398046511103 rfl rfl HT_ ?_; refine pu_ 55 42 59 8796093022207 rfl rfl HT_ ?_; refine pu_ 55 43 60 17592186044415 rfl rfl HT_ ?_; refine pu_ 55 44 61 35184372088831 rfl rfl HT_ ?_; refine pu_ 55 45 62 70368744177663 rfl rfl HT_ ?_; refine pu_ 55 46 63 140737488355327 rfl rfl HT_ ?_; refine pu_ 55 47 64 281474976710655 rfl rfl HT_ ?_; refine pu_ 55 48 65 562949953421311 rfl rfl HT_ ?_; refine pu_ 55 49 66 1125899906842623 rfl rfl HT_ ?_; refine pu_ 55 50 67 2251799813685247 rfl rfl HT_ ?_; refine pu_ 55 51 68 4503599627370495 rfl rfl HT_ ?_; refine pu_ 55 52 69 9007199254740991 rfl rfl HT_ ?_; refine pu_ 55 53 70 18014398509481983 rfl rfl HT_ ?_; refine pv_ 55 54 71 36028797018963967 rfl rfl HT_ ?_
     refine done_ (done_of HT_.out (by kernel_rfl)) ?_
     try go_wp2
     go_meet
     case rel => exact ⟨_, (true), (by first | rfl | (simp; done) | (simp [*]; done)), H', ⟨by have := HK1.out; first | omega | exact Nat.le_refl _⟩, ⟨by (with_reducible repeat (first | refine blk_drewN ?_ _ | refine blk_drew ?_ | refine blk_alloc ?_ _)); exact BK153.out⟩, ⟨by repeat (first | (with_reducible first | exact HB.out | apply below_alloc | apply pw_below_drewN | apply below_drew1 | refine below_set ?_ GE153.out) | exact HB.out)⟩⟩
    subst c12
    have H1 : ((spec_l1In.f ((rd_T61 l0 x3_1).f4) 0 (((rd_T61 l0 x3_1).f5).length : Int)).bind fun t157 => (if t157 = true then ((spec_l1In.f ((rd_T61 l0 x3_1).f3) 0 100000).bind fun t158 => (if t158 = true then (if (((rd_T61 l0 x3_1).f5).length : Int) > 20 then (spec_AreTeams.j1 k1 l0 x3_1 true ((rd_T61 l0 x3_1).f0) ((rd_T61 l0 x3_1).f1) ((rd_T61 l0 x3_1).f2) ((rd_T61 l0 x3_1).f3) ((rd_T61 l0 x3_1).f4) ((rd_T61 l0 x3_1).f5)) else (if x3_1 > 0 then (if 0 ≤ (wrap64 (x3_1 - 1)) then (if (wrap64 (x3_1 - 1)) < (l0.length : Int) then (spec_AreTeams.j1 k1 l0 x3_1 (decide (((rd_T61 l0 (wrap64 (x3_1 - 1))).f0) ≥ ((rd_T61 l0 x3_1).f0))) ((rd_T61 l0 x3_1).f0) ((rd_T61 l0 x3_1).f1) ((rd_T61 l0 x3_1).f2) ((rd_T61 l0 x3_1).f3) ((rd_T61 l0 x3_1).f4) ((rd_T61 l0 x3_1).f5)) else (none)) else (none)) else (spec_AreTeams.j1 k1 l0 x3_1 false ((rd_T61 l0 x3_1).f0) ((rd_T61 l0 x3_1).f1) ((rd_T61 l0 x3_1).f2) ((rd_T61 l0 x3_1).f3) ((rd_T61 l0 x3_1).f4) ((rd_T61 l0 x3_1).f5)))) else (spec_AreTeams.j1 k1 l0 x3_1 true ((rd_T61 l0 x3_1).f0) ((rd_T61 l0 x3_1).f1) ((rd_T61 l0 x3_1).f2) ((rd_T61 l0 x3_1).f3) ((rd_T61 l0 x3_1).f4) ((rd_T61 l0 x3_1).f5)))) else (spec_AreTeams.j1 k1 l0 x3_1 true ((rd_T61 l0 x3_1).f0) ((rd_T61 l0 x3_1).f1) ((rd_T61 l0 x3_1).f2) ((rd_T61 l0 x3_1).f3) ((rd_T61 l0 x3_1).f4) ((rd_T61 l0 x3_1).f5)))) = some r := by rw [if_pos rfl] at H; exact H
    clear H
    have H := H1
    clear H1
    replace H := Option.bind_eq_some_iff.mp H
    obtain ⟨t157, A130, H⟩ := H
    replace H : (if t157 = true then ((spec_l1In.f ((rd_T61 l0 x3_1).f3) 0 100000).bind fun t158 => (if t158 = true then (if (((rd_T61 l0 x3_1).f5).length : Int) > 20 then (spec_AreTeams.j1 k1 l0 x3_1 true ((rd_T61 l0 x3_1).f0) ((rd_T61 l0 x3_1).f1) ((rd_T61 l0 x3_1).f2) ((rd_T61 l0 x3_1).f3) ((rd_T61 l0 x3_1).f4) ((rd_T61 l0 x3_1).f5)) else (if x3_1 > 0 then (if 0 ≤ (wrap64 (x3_1 - 1)) then (if (wrap64 (x3_1 - 1)) < (l0.length : Int) then (spec_AreTeams.j1 k1 l0 x3_1 (decide (((rd_T61 l0 (wrap64 (x3_1 - 1))).f0) ≥ ((rd_T61 l0 x3_1).f0))) ((rd_T61 l0 x3_1).f0) ((rd_T61 l0 x3_1).f1) ((rd_T61 l0 x3_1).f2) ((rd_T61 l0 x3_1).f3) ((rd_T61 l0 x3_1).f4) ((rd_T61 l0 x3_1).f5)) else (none)) else (none)) else (spec_AreTeams.j1 k1 l0 x3_1 false ((rd_T61 l0 x3_1).f0) ((rd_T61 l0 x3_1).f1) ((rd_T61 l0 x3_1).f2) ((rd_T61 l0 x3_1).f3) ((rd_T61 l0 x3_1).f4) ((rd_T61 l0 x3_1).f5)))) else (spec_AreTeams.j1 k1 l0 x3_1 true ((rd_T61 l0 x3_1).f0) ((rd_T61 l0 x3_1).f1) ((rd_T61 l0 x3_1).f2) ((rd_T61 l0 x3_1).f3) ((rd_T61 l0 x3_1).f4) ((rd_T61 l0 x3_1).f5)))) else (spec_AreTeams.j1 k1 l0 x3_1 true ((rd_T61 l0 x3_1).f0) ((rd_T61 l0 x3_1).f1) ((rd_T61 l0 x3_1).f2) ((rd_T61 l0 x3_1).f3) ((rd_T61 l0 x3_1).f4) ((rd_T61 l0 x3_1).f5))) = some r := H
    have A13 := Aside0.mk A130
    clear A130
    by_cases c14 : t157 = true
    rotate_left
    ·
     replace c14 := Bool.eq_false_iff.mpr c14
     subst c14
     have H1 : (spec_AreTeams.j1 k1 l0 x3_1 true ((rd_T61 l0 x3_1).f0) ((rd_T61 l0 x3_1).f1) ((rd_T61 l0 x3_1).f2) ((rd_T61 l0 x3_1).f3) ((rd_T61 l0 x3_1).f4) ((rd_T61 l0 x3_1).f5)) = some r := by rw [if_neg (show ¬ (false = true) by decide)] at H; exact H
     clear H
     have H := H1
     clear H1
     have H' := Aside0.mk H
     clear H
     try go_wp2
     have n0_ : Aside0 (((((((w5.setCell ⟨gb153, 0, none⟩ (.int .i64 ((rd_T61 l0 x3_1).f0))).setCell ⟨gb153, 1, none⟩ (.int .i64 ((rd_T61 l0 x3_1).f1))).setCell ⟨gb153, 2, none⟩ (.int .i64 ((rd_T61 l0 x3_1).f2))).setCell ⟨gb153, 3, none⟩ (.int .i64 ((rd_T61 l0 x3_1).f3))).setCell ⟨gb153, 4, none⟩ (.int .i64 ((rd_T61 l0 x3_1).f4))).setCell ⟨gb153, 5, none⟩ (.slice A152_5 ((rd_T61 l0 x3_1).f5).length c152_5)).heap[gb153]? = some (.cells #[.int .i64 ((rd_T61 l0 x3_1).f0), .int .i64 ((rd_T61 l0 x3_1).f1), .int .i64 ((rd_T61 l0 x3_1).f2), .int .i64 ((rd_T61 l0 x3_1).f3), .int .i64 ((rd_T61 l0 x3_1).f4), .slice A152_5 ((rd_T61 l0 x3_1).f5).length c152_5] 61 (0, 0))) := ⟨by (with_reducible repeat (first | refine blk_drewN ?_ _ | refine blk_drew ?_ | refine blk_alloc ?_ _)); refine blk_put (cs := #[.int .i64 ((rd_T61 l0 x3_1).f0), .int .i64 ((rd_T61 l0 x3_1).f1), .int .i64 ((rd_T61 l0 x3_1).f2), .int .i64 ((rd_T61 l0 x3_1).f3), .int .i64 ((rd_T61 l0 x3_1).f4), .slice none 0 0]) ?_ 5 _ rfl; (with_reducible repeat (first | refine blk_drewN ?_ _ | refine blk_drew ?_ | refine blk_alloc ?_ _)); refine blk_put (cs := #[.int .i64 ((rd_T61 l0 x3_1).f0), .int .i64 ((rd_T61 l0 x3_1).f1), .int .i64 ((rd_T61 l0 x3_1).f2), .int .i64 ((rd_T61 l0 x3_1).f3), .int .i64 0, .slice none 0 0]) ?_ 4 _ rfl; (with_reducible repeat (first | refine blk_drewN ?_ _ | refine blk_drew ?_ | refine blk_alloc ?_ _)); refine blk_put (cs := #[.int .i64 ((rd_T61 l0 x3_1).f0), .int .i64 ((rd_T61 l0 x3_1).f1), .int .i64 ((rd_T61 l0 x3_1).f2), .int .i64 0, .int .i64 0, .slice none 0 0]) ?_ 3 _ rfl; (with_reducible repeat (first | refine blk_drewN ?_ _ | refine blk_drew ?_ | refine blk_alloc ?_ _)); refine blk_put (cs := #[.int .i64 ((rd_T61 l0 x3_1).f0), .int .i64 ((rd_T61 l0 x3_1).f1), .int .i64 0, .int .i64 0, .int .i64 0, .slice none 0 0]) ?_ 2 _ rfl; (with_reducible repeat (first | refine blk_drewN ?_ _ | refine blk_drew ?_ | refine blk_alloc ?_ _)); refine blk_put (cs := #[.int .i64 ((rd_T61 l0 x3_1).f0), .int .i64 0, .int .i64 0, .int .i64 0, .int .i64 0, .slice none 0 0]) ?_ 1 _ rfl; (with_reducible repeat (first | refine blk_drewN ?_ _ | refine blk_drew ?_ | refine blk_alloc ?_ _)); refine blk_put (cs := #[.int .i64 0, .int .i64 0, .int .i64 0, .int .i64 0, .int .i64 0, .slice none 0 0]) ?_ 0 _ rfl; (with_reducible repeat (first | refine blk_drewN ?_ _ | refine blk_drew ?_ | refine blk_alloc ?_ _)); exact BK153.out⟩
     have n1_ : Aside0 (Below w.heap.size w ((((((w5.setCell ⟨gb153, 0, none⟩ (.int .i64 ((rd_T61 l0 x3_1).f0))).setCell ⟨gb153, 1, none⟩ (.int .i64 ((rd_T61 l0 x3_1).f1))).setCell ⟨gb153, 2, none⟩ (.int .i64 ((rd_T61 l0 x3_1).f2))).setCell ⟨gb153, 3, none⟩ (.int .i64 ((rd_T61 l0 x3_1).f3))).setCell ⟨gb153, 4, none⟩ (.int .i64 ((rd_T61 l0 x3_1).f4))).setCell ⟨gb153, 5, none⟩ (.slice A152_5 ((rd_T61 l0 x3_1).f5).length c152_5))) := ⟨by repeat (first | (with_reducible first | exact HB.out | apply below_alloc | apply pw_below_drewN | apply below_drew1 | refine below_set ?_ GE153.out) | exact HB.out)⟩
     (try clear BK153)
     (try clear HB)
     generalize ((((((w5.setCell ⟨gb153, 0, none⟩ (.int .i64 ((rd_T61 l0 x3_1).f0))).setCell ⟨gb153, 1, none⟩ (.int .i64 ((rd_T61 l0 x3_1).f1))).setCell ⟨gb153, 2, none⟩ (.int .i64 ((rd_T61 l0 x3_1).f2))).setCell ⟨gb153, 3, none⟩ (.int .i64 ((rd_T61 l0 x3_1).f3))).setCell ⟨gb153, 4, none⟩ (.int .i64 ((rd_T61 l0 x3_1).f4))).setCell ⟨gb153, 5, none⟩ (.slice A152_5 ((rd_T61 l0 x3_1).f5).length c152_5)) = w30 at n0_ n1_ ⊢
     have BK153 := n0_
     have HB := n1_
     clear n0_ n1_
     have n0_ := Aside0.mk (blk_drew BK153.out)
     have n1_ := Aside0.mk (below_drew1 HB.out)
     clear BK153
     clear HB
     have BK153 := n0_
     have HB := n1_
     clear n0_ n1_
     refine start_ (n := 55) (S := fun w' => w'.cell? ⟨gb153, 0, none⟩ = some (.int .i64 ((rd_T61 l0 x3_1).f0)) ∧ w'.cell? ⟨gb153, 1, none⟩ = some (.int .i64 ((rd_T61 l0 x3_1).f1)) ∧ w'.cell? ⟨gb153, 2, none⟩ = some (.int .i64 ((rd_T61 l0 x3_1).f2)) ∧ w'.cell? ⟨gb153, 3, none⟩ = some (.int .i64 ((rd_T61 l0 x3_1).f3)) ∧ w'.cell? ⟨gb153, 4, none⟩ = some (.int .i64 ((rd_T61 l0 x3_1).f4)) ∧ w'.cell? ⟨gb153, 5, none⟩ = some (.slice A152_5 ((rd_T61 l0 x3_1).f5).length c152_5)) (ds := []) (bv 55 0) (by kernel_rfl) rfl rfl ⟨(blk_cell BK153.out 0).trans rfl, (blk_cell BK153.out 1).trans rfl, (blk_cell BK153.out 2).trans rfl, (blk_cell BK153.out 3).trans rfl, (blk_cell BK153.out 4).trans rfl, (blk_cell BK153.out 5).trans rfl⟩ (fun hHeld => ?_); refine with_tabW spec_AreTeams.tab5 spec_AreTeams.bits5 (fun HT_ HW_ => ?_)
     generalize w30.drew = w31 at BK153 HB hHeld ⊢
     refine pv_ 55 0 17 1 rfl rfl HT_ ?_
     refine tv_ 55 1 18 3 rfl rfl HT_ HW_ hHeld (by rintro w' ⟨s0, s1, s2, s3, s4, s5⟩; go_simp; with_reducible rfl) ?_
     refine one_ (i := 2) (N := some 19) (bv 55 7) rfl rfl (one_of HT_.out (by kernel_rfl)) (by decide) (fun K hK => ?_)
     refine goes_ Try.func59 (by kernel_rfl) rfl #[.int .i64 ((rd_T61 l0 x3_1).f0), .int .i64 1, .int .i64 99] (by rfl) rfl rfl (by (try simp only [List.map_toArray, List.map_cons, List.map_nil]); first | done | rfl | (simp only [List.length_drop, List.length_take]; rfl)) ?_
     with_reducible refine (spec_l1In.calls ((rd_T61 l0 x3_1).f0) 1 99 true _ A7.out).mono ?_
     rintro e w' ⟨rfl, ⟨nd, rfl⟩⟩
     refine ⟨_, rfl, ?_⟩
     refine hK.out _ _ ⟨(blk_cell BK153.out 0).trans rfl, (blk_cell BK153.out 1).trans rfl, (blk_cell BK153.out 2).trans rfl, (blk_cell BK153.out 3).trans rfl, (blk_cell BK153.out 4).trans rfl, (blk_cell BK153.out 5).trans rfl⟩ (fun hHeld => ?_)
     clear hK K
     refine nm_ 19 ?_
     refine pv_ 55 3 20 15 rfl rfl HT_ ?_; refine pv_ 55 4 21 31 rfl rfl HT_ ?_; refine pv_ 55 5 22 63 rfl rfl HT_ ?_
     refine tv_ 55 6 23 127 rfl rfl HT_ HW_ hHeld (by rintro w' ⟨s0, s1, s2, s3, s4, s5⟩; go_simp; with_reducible rfl) ?_
     refine one_ (i := 7) (N := some 24) (bv 55 255) rfl rfl (one_of HT_.out (by kernel_rfl)) (by decide) (fun K hK => ?_)
     refine goes_ Try.func59 (by kernel_rfl) rfl #[.int .i64 ((rd_T61 l0 x3_1).f1), .int .i64 1, .int .i64 99] (by rfl) rfl rfl (by (try simp only [List.map_toArray, List.map_cons, List.map_nil]); first | done | rfl | (simp only [List.length_drop, List.length_take]; rfl)) ?_
     with_reducible refine (spec_l1In.calls ((rd_T61 l0 x3_1).f1) 1 99 true _ A9.out).mono ?_
     rintro e w' ⟨rfl, ⟨nd, rfl⟩⟩
     refine ⟨_, rfl, ?_⟩
     refine hK.out _ _ ⟨(blk_cell BK153.out 0).trans rfl, (blk_cell BK153.out 1).trans rfl, (blk_cell BK153.out 2).trans rfl, (blk_cell BK153.out 3).trans rfl, (blk_cell BK153.out 4).trans rfl, (blk_cell BK153.out 5).trans rfl⟩ (fun hHeld => ?_)
     clear hK K
     refine nm_ 24 ?_
     refine pv_ 55 8 25 511 rfl rfl HT_ ?_; refine pv_ 55 9 26 1023 rfl rfl HT_ ?_; refine pv_ 55 10 27 2047 rfl rfl HT_ ?_; refine pv_ 55 11 28 4095 rfl rfl HT_ ?_; refine pv_ 55 13 30 12287 rfl rfl HT_ ?_
     refine tv_ 55 12 29 16383 rfl rfl HT_ HW_ hHeld (by rintro w' ⟨s0, s1, s2, s3, s4, s5⟩; go_simp; with_reducible rfl) ?_
     refine tv_ 55 14 31 32767 rfl rfl HT_ HW_ hHeld (by rintro w' ⟨s0, s1, s2, s3, s4, s5⟩; go_simp; with_reducible rfl) ?_
     refine pv_ 55 15 32 65535 rfl rfl HT_ ?_
     refine one_ (i := 16) (N := some 33) (bv 55 131071) rfl rfl (one_of HT_.out (by kernel_rfl)) (by decide) (fun K hK => ?_)
     refine goes_ Try.func59 (by kernel_rfl) rfl #[.int .i64 ((rd_T61 l0 x3_1).f2), .int .i64 0, .int .i64 (((rd_T61 l0 x3_1).f5).length : Int)] (by rfl) rfl rfl (by (try simp only [List.map_toArray, List.map_cons, List.map_nil]); first | done | rfl | (simp only [List.length_drop, List.length_take]; rfl)) ?_
     with_reducible refine (spec_l1In.calls ((rd_T61 l0 x3_1).f2) 0 (((rd_T61 l0 x3_1).f5).length : Int) true _ A11.out).mono ?_
     rintro e w' ⟨rfl, ⟨nd, rfl⟩⟩
     refine ⟨_, rfl, ?_⟩
     refine hK.out _ _ ⟨(blk_cell BK153.out 0).trans rfl, (blk_cell BK153.out 1).trans rfl, (blk_cell BK153.out 2).trans rfl, (blk_cell BK153.out 3).trans rfl, (blk_cell BK153.out 4).trans rfl, (blk_cell BK153.out 5).trans rfl⟩ (fun hHeld => ?_)
     clear hK K
     refine nm_ 33 ?_
     refine pv_ 55 17 34 262143 rfl rfl HT_ ?_; refine pv_ 55 18 35 524287 rfl rfl HT_ ?_; refine pv_ 55 19 36 1048575 rfl rfl HT_ ?_; refine pv_ 55 20 37 2097151 rfl rfl HT_ ?_; refine pv_ 55 22 39 6291455 rfl rfl HT_ ?_
     refine tv_ 55 21 38 8388607 rfl rfl HT_ HW_ hHeld (by rintro w' ⟨s0, s1, s2, s3, s4, s5⟩; go_simp; with_reducible rfl) ?_
     refine tv_ 55 23 40 16777215 rfl rfl HT_ HW_ hHeld (by rintro w' ⟨s0, s1, s2, s3, s4, s5⟩; go_simp; with_reducible rfl) ?_
     refine pv_ 55 24 41 33554431 rfl rfl HT_ ?_
     refine one_ (i := 25) (N := some 42) (bv 55 67108863) rfl rfl (one_of HT_.out (by kernel_rfl)) (by decide) (fun K hK => ?_)
     refine goes_ Try.func59 (by kernel_rfl) rfl #[.int .i64 ((rd_T61 l0 x3_1).f4), .int .i64 0, .int .i64 (((rd_T61 l0 x3_1).f5).length : Int)] (by rfl) rfl rfl (by (try simp only [List.map_toArray, List.map_cons, List.map_nil]); first | done | rfl | (simp only [List.length_drop, List.length_take]; rfl)) ?_
     with_reducible refine (spec_l1In.calls ((rd_T61 l0 x3_1).f4) 0 (((rd_T61 l0 x3_1).f5).length : Int) false _ A13.out).mono ?_
     rintro e w' ⟨rfl, ⟨nd, rfl⟩⟩
     refine ⟨_, rfl, ?_⟩
     refine hK.out _ _ ⟨(blk_cell BK153.out 0).trans rfl, (blk_cell BK153.out 1).trans rfl, (blk_cell BK153.out 2).trans rfl, (blk_cell BK153.out 3).trans rfl, (blk_cell BK153.out 4).trans rfl, (blk_cell BK153.out 5).trans rfl⟩ (fun hHeld => ?_)
     clear hK K
     refine nm_ 42 ?_
     refine pv_ 55 26 43 134217727 rfl rfl HT_ ?_; refine pv_ 55 27 44 268435455 rfl rfl HT_ ?_; refine pv_ 55 28 45 536870911 rfl rfl HT_ ?_; refine pu_ 55 29 46 1073741823 rfl rfl HT_ ?_; refine pu_ 55 30 47 2147483647 rfl rfl HT_ ?_; refine pu_ 55 31 48 4294967295 rfl rfl HT_ ?_; refine pu_ 55 32 49 8589934591 rfl rfl HT_ ?_; refine pv_ 55 33 50 17179869183 rfl rfl HT_ ?_; refine pv_ 55 34 51 34359738367 rfl rfl HT_ ?_; refine pu_ 55 35 52 68719476735 rfl rfl HT_ ?_; refine pu_ 55 36 53 137438953471 rfl rfl HT_ ?_; refine pu_ 55 37 54 274877906943 rfl rfl HT_ ?_; refine pu_ 55 38 55 549755813887 rfl rfl HT_ ?_; refine pv_ 55 39 56 1099511627775 rfl rfl HT_ ?_; refine pv_ 55 40 57 2199023255551 rfl rfl HT_ ?_; refine pu_ 55 41 58 4398046511103 rfl rfl HT_ ?_; refine pu_ 55 42 59 8796093022207 rfl rfl HT_ ?_; refine pu_ 55 43 60 17592186044415 rfl rfl HT_ ?_; refine pu_ 55 44 61 35184372088831 rfl rfl HT_ ?_
     refine pu_ 55 45 62 70368744177663 rfl rfl HT_ ?_; refine pu_ 55 46 63 140737488355327 rfl rfl HT_ ?_; refine pu_ 55 47 64 281474976710655 rfl rfl HT_ ?_; refine pu_ 55 48 65 562949953421311 rfl rfl HT_ ?_; refine pu_ 55 49 66 1125899906842623 rfl rfl HT_ ?_; refine pu_ 55 50 67 2251799813685247 rfl rfl HT_ ?_; refine pu_ 55 51 68 4503599627370495 rfl rfl HT_ ?_; refine pu_ 55 52 69 9007199254740991 rfl rfl HT_ ?_; refine pu_ 55 53 70 18014398509481983 rfl rfl HT_ ?_; refine pv_ 55 54 71 36028797018963967 rfl rfl HT_ ?_
     refine done_ (done_of HT_.out (by kernel_rfl)) ?_
     try go_wp2
     go_meet
     case rel => exact ⟨_, (true), (by first | rfl | (simp; done) | (simp [*]; done)), H', ⟨by have := HK1.out; first | omega | exact Nat.le_refl _⟩, ⟨by (with_reducible repeat (first | refine blk_drewN ?_ _ | refine blk_drew ?_ | refine blk_alloc ?_ _)); exact BK153.out⟩, ⟨by repeat (first | (with_reducible first | exact HB.out | apply below_alloc | apply pw_below_drewN | apply below_drew1 | refine below_set ?_ GE153.out) | exact HB.out)⟩⟩
    subst c14
    have H1 : ((spec_l1In.f ((rd_T61 l0 x3_1).f3) 0 100000).bind fun t158 => (if t158 = true then (if (((rd_T61 l0 x3_1).f5).length : Int) > 20 then (spec_AreTeams.j1 k1 l0 x3_1 true ((rd_T61 l0 x3_1).f0) ((rd_T61 l0 x3_1).f1) ((rd_T61 l0 x3_1).f2) ((rd_T61 l0 x3_1).f3) ((rd_T61 l0 x3_1).f4) ((rd_T61 l0 x3_1).f5)) else (if x3_1 > 0 then (if 0 ≤ (wrap64 (x3_1 - 1)) then (if (wrap64 (x3_1 - 1)) < (l0.length : Int) then (spec_AreTeams.j1 k1 l0 x3_1 (decide (((rd_T61 l0 (wrap64 (x3_1 - 1))).f0) ≥ ((rd_T61 l0 x3_1).f0))) ((rd_T61 l0 x3_1).f0) ((rd_T61 l0 x3_1).f1) ((rd_T61 l0 x3_1).f2) ((rd_T61 l0 x3_1).f3) ((rd_T61 l0 x3_1).f4) ((rd_T61 l0 x3_1).f5)) else (none)) else (none)) else (spec_AreTeams.j1 k1 l0 x3_1 false ((rd_T61 l0 x3_1).f0) ((rd_T61 l0 x3_1).f1) ((rd_T61 l0 x3_1).f2) ((rd_T61 l0 x3_1).f3) ((rd_T61 l0 x3_1).f4) ((rd_T61 l0 x3_1).f5)))) else (spec_AreTeams.j1 k1 l0 x3_1 true ((rd_T61 l0 x3_1).f0) ((rd_T61 l0 x3_1).f1) ((rd_T61 l0 x3_1).f2) ((rd_T61 l0 x3_1).f3) ((rd_T61 l0 x3_1).f4) ((rd_T61 l0 x3_1).f5)))) = some r := by rw [if_pos rfl] at H; exact H
    clear H
    have H := H1
    clear H1
    replace H := Option.bind_eq_some_iff.mp H
    obtain ⟨t158, A150, H⟩ := H
    replace H : (if t158 = true then (if (((rd_T61 l0 x3_1).f5).length : Int) > 20 then (spec_AreTeams.j1 k1 l0 x3_1 true ((rd_T61 l0 x3_1).f0) ((rd_T61 l0 x3_1).f1) ((rd_T61 l0 x3_1).f2) ((rd_T61 l0 x3_1).f3) ((rd_T61 l0 x3_1).f4) ((rd_T61 l0 x3_1).f5)) else (if x3_1 > 0 then (if 0 ≤ (wrap64 (x3_1 - 1)) then (if (wrap64 (x3_1 - 1)) < (l0.length : Int) then (spec_AreTeams.j1 k1 l0 x3_1 (decide (((rd_T61 l0 (wrap64 (x3_1 - 1))).f0) ≥ ((rd_T61 l0 x3_1).f0))) ((rd_T61 l0 x3_1).f0) ((rd_T61 l0 x3_1).f1) ((rd_T61 l0 x3_1).f2) ((rd_T61 l0 x3_1).f3) ((rd_T61 l0 x3_1).f4) ((rd_T61 l0 x3_1).f5)) else (none)) else (none)) else (spec_AreTeams.j1 k1 l0 x3_1 false ((rd_T61 l0 x3_1).f0) ((rd_T61 l0 x3_1).f1) ((rd_T61 l0 x3_1).f2) ((rd_T61 l0 x3_1).f3) ((rd_T61 l0 x3_1).f4) ((rd_T61 l0 x3_1).f5)))) else (spec_AreTeams.j1 k1 l0 x3_1 true ((rd_T61 l0 x3_1).f0) ((rd_T61 l0 x3_1).f1) ((rd_T61 l0 x3_1).f2) ((rd_T61 l0 x3_1).f3) ((rd_T61 l0 x3_1).f4) ((rd_T61 l0 x3_1).f5))) = some r := H
    have A15 := Aside0.mk A150
    clear A150
    by_cases c16 : t158 = true
    rotate_left
    ·
     replace c16 := Bool.eq_false_iff.mpr c16
     subst c16
     have H1 : (spec_AreTeams.j1 k1 l0 x3_1 true ((rd_T61 l0 x3_1).f0) ((rd_T61 l0 x3_1).f1) ((rd_T61 l0 x3_1).f2) ((rd_T61 l0 x3_1).f3) ((rd_T61 l0 x3_1).f4) ((rd_T61 l0 x3_1).f5)) = some r := by rw [if_neg (show ¬ (false = true) by decide)] at H; exact H
     clear H
     have H := H1
     clear H1
     have H' := Aside0.mk H
     clear H
     try go_wp2
     have n0_ : Aside0 (((((((w5.setCell ⟨gb153, 0, none⟩ (.int .i64 ((rd_T61 l0 x3_1).f0))).setCell ⟨gb153, 1, none⟩ (.int .i64 ((rd_T61 l0 x3_1).f1))).setCell ⟨gb153, 2, none⟩ (.int .i64 ((rd_T61 l0 x3_1).f2))).setCell ⟨gb153, 3, none⟩ (.int .i64 ((rd_T61 l0 x3_1).f3))).setCell ⟨gb153, 4, none⟩ (.int .i64 ((rd_T61 l0 x3_1).f4))).setCell ⟨gb153, 5, none⟩ (.slice A152_5 ((rd_T61 l0 x3_1).f5).length c152_5)).heap[gb153]? = some (.cells #[.int .i64 ((rd_T61 l0 x3_1).f0), .int .i64 ((rd_T61 l0 x3_1).f1), .int .i64 ((rd_T61 l0 x3_1).f2), .int .i64 ((rd_T61 l0 x3_1).f3), .int .i64 ((rd_T61 l0 x3_1).f4), .slice A152_5 ((rd_T61 l0 x3_1).f5).length c152_5] 61 (0, 0))) := ⟨by (with_reducible repeat (first | refine blk_drewN ?_ _ | refine blk_drew ?_ | refine blk_alloc ?_ _)); refine blk_put (cs := #[.int .i64 ((rd_T61 l0 x3_1).f0), .int .i64 ((rd_T61 l0 x3_1).f1), .int .i64 ((rd_T61 l0 x3_1).f2), .int .i64 ((rd_T61 l0 x3_1).f3), .int .i64 ((rd_T61 l0 x3_1).f4), .slice none 0 0]) ?_ 5 _ rfl; (with_reducible repeat (first | refine blk_drewN ?_ _ | refine blk_drew ?_ | refine blk_alloc ?_ _)); refine blk_put (cs := #[.int .i64 ((rd_T61 l0 x3_1).f0), .int .i64 ((rd_T61 l0 x3_1).f1), .int .i64 ((rd_T61 l0 x3_1).f2), .int .i64 ((rd_T61 l0 x3_1).f3), .int .i64 0, .slice none 0 0]) ?_ 4 _ rfl; (with_reducible repeat (first | refine blk_drewN ?_ _ | refine blk_drew ?_ | refine blk_alloc ?_ _)); refine blk_put (cs := #[.int .i64 ((rd_T61 l0 x3_1).f0), .int .i64 ((rd_T61 l0 x3_1).f1), .int .i64 ((rd_T61 l0 x3_1).f2), .int .i64 0, .int .i64 0, .slice none 0 0]) ?_ 3 _ rfl; (with_reducible repeat (first | refine blk_drewN ?_ _ | refine blk_drew ?_ | refine blk_alloc ?_ _)); refine blk_put (cs := #[.int .i64 ((rd_T61 l0 x3_1).f0), .int .i64 ((rd_T61 l0 x3_1).f1), .int .i64 0, .int .i64 0, .int .i64 0, .slice none 0 0]) ?_ 2 _ rfl; (with_reducible repeat (first | refine blk_drewN ?_ _ | refine blk_drew ?_ | refine blk_alloc ?_ _)); refine blk_put (cs := #[.int .i64 ((rd_T61 l0 x3_1).f0), .int .i64 0, .int .i64 0, .int .i64 0, .int .i64 0, .slice none 0 0]) ?_ 1 _ rfl; (with_reducible repeat (first | refine blk_drewN ?_ _ | refine blk_drew ?_ | refine blk_alloc ?_ _)); refine blk_put (cs := #[.int .i64 0, .int .i64 0, .int .i64 0, .int .i64 0, .int .i64 0, .slice none 0 0]) ?_ 0 _ rfl; (with_reducible repeat (first | refine blk_drewN ?_ _ | refine blk_drew ?_ | refine blk_alloc ?_ _)); exact BK153.out⟩
     have n1_ : Aside0 (Below w.heap.size w ((((((w5.setCell ⟨gb153, 0, none⟩ (.int .i64 ((rd_T61 l0 x3_1).f0))).setCell ⟨gb153, 1, none⟩ (.int .i64 ((rd_T61 l0 x3_1).f1))).setCell ⟨gb153, 2, none⟩ (.int .i64 ((rd_T61 l0 x3_1).f2))).setCell ⟨gb153, 3, none⟩ (.int .i64 ((rd_T61 l0 x3_1).f3))).setCell ⟨gb153, 4, none⟩ (.int .i64 ((rd_T61 l0 x3_1).f4))).setCell ⟨gb153, 5, none⟩ (.slice A152_5 ((rd_T61 l0 x3_1).f5).length c152_5))) := ⟨by repeat (first | (with_reducible first | exact HB.out | apply below_alloc | apply pw_below_drewN | apply below_drew1 | refine below_set ?_ GE153.out) | exact HB.out)⟩
     (try clear BK153)
     (try clear HB)
     generalize ((((((w5.setCell ⟨gb153, 0, none⟩ (.int .i64 ((rd_T61 l0 x3_1).f0))).setCell ⟨gb153, 1, none⟩ (.int .i64 ((rd_T61 l0 x3_1).f1))).setCell ⟨gb153, 2, none⟩ (.int .i64 ((rd_T61 l0 x3_1).f2))).setCell ⟨gb153, 3, none⟩ (.int .i64 ((rd_T61 l0 x3_1).f3))).setCell ⟨gb153, 4, none⟩ (.int .i64 ((rd_T61 l0 x3_1).f4))).setCell ⟨gb153, 5, none⟩ (.slice A152_5 ((rd_T61 l0 x3_1).f5).length c152_5)) = w28 at n0_ n1_ ⊢
     have BK153 := n0_
     have HB := n1_
     clear n0_ n1_
     have n0_ := Aside0.mk (blk_drew BK153.out)
     have n1_ := Aside0.mk (below_drew1 HB.out)
     clear BK153
     clear HB
     have BK153 := n0_
     have HB := n1_
     clear n0_ n1_
     refine start_ (n := 55) (S := fun w' => w'.cell? ⟨gb153, 0, none⟩ = some (.int .i64 ((rd_T61 l0 x3_1).f0)) ∧ w'.cell? ⟨gb153, 1, none⟩ = some (.int .i64 ((rd_T61 l0 x3_1).f1)) ∧ w'.cell? ⟨gb153, 2, none⟩ = some (.int .i64 ((rd_T61 l0 x3_1).f2)) ∧ w'.cell? ⟨gb153, 3, none⟩ = some (.int .i64 ((rd_T61 l0 x3_1).f3)) ∧ w'.cell? ⟨gb153, 4, none⟩ = some (.int .i64 ((rd_T61 l0 x3_1).f4)) ∧ w'.cell? ⟨gb153, 5, none⟩ = some (.slice A152_5 ((rd_T61 l0 x3_1).f5).length c152_5)) (ds := []) (bv 55 0) (by kernel_rfl) rfl rfl ⟨(blk_cell BK153.out 0).trans rfl, (blk_cell BK153.out 1).trans rfl, (blk_cell BK153.out 2).trans rfl, (blk_cell BK153.out 3).trans rfl, (blk_cell BK153.out 4).trans rfl, (blk_cell BK153.out 5).trans rfl⟩ (fun hHeld => ?_); refine with_tabW spec_AreTeams.tab5 spec_AreTeams.bits5 (fun HT_ HW_ => ?_)
     generalize w28.drew = w29 at BK153 HB hHeld ⊢
     refine pv_ 55 0 17 1 rfl rfl HT_ ?_
     refine tv_ 55 1 18 3 rfl rfl HT_ HW_ hHeld (by rintro w' ⟨s0, s1, s2, s3, s4, s5⟩; go_simp; with_reducible rfl) ?_
     refine one_ (i := 2) (N := some 19) (bv 55 7) rfl rfl (one_of HT_.out (by kernel_rfl)) (by decide) (fun K hK => ?_)
     refine goes_ Try.func59 (by kernel_rfl) rfl #[.int .i64 ((rd_T61 l0 x3_1).f0), .int .i64 1, .int .i64 99] (by rfl) rfl rfl (by (try simp only [List.map_toArray, List.map_cons, List.map_nil]); first | done | rfl | (simp only [List.length_drop, List.length_take]; rfl)) ?_
     with_reducible refine (spec_l1In.calls ((rd_T61 l0 x3_1).f0) 1 99 true _ A7.out).mono ?_
     rintro e w' ⟨rfl, ⟨nd, rfl⟩⟩
     refine ⟨_, rfl, ?_⟩
     refine hK.out _ _ ⟨(blk_cell BK153.out 0).trans rfl, (blk_cell BK153.out 1).trans rfl, (blk_cell BK153.out 2).trans rfl, (blk_cell BK153.out 3).trans rfl, (blk_cell BK153.out 4).trans rfl, (blk_cell BK153.out 5).trans rfl⟩ (fun hHeld => ?_)
     clear hK K
     refine nm_ 19 ?_
     refine pv_ 55 3 20 15 rfl rfl HT_ ?_; refine pv_ 55 4 21 31 rfl rfl HT_ ?_; refine pv_ 55 5 22 63 rfl rfl HT_ ?_
     refine tv_ 55 6 23 127 rfl rfl HT_ HW_ hHeld (by rintro w' ⟨s0, s1, s2, s3, s4, s5⟩; go_simp; with_reducible rfl) ?_
     refine one_ (i := 7) (N := some 24) (bv 55 255) rfl rfl (one_of HT_.out (by kernel_rfl)) (by decide) (fun K hK => ?_)
     refine goes_ Try.func59 (by kernel_rfl) rfl #[.int .i64 ((rd_T61 l0 x3_1).f1), .int .i64 1, .int .i64 99] (by rfl) rfl rfl (by (try simp only [List.map_toArray, List.map_cons, List.map_nil]); first | done | rfl | (simp only [List.length_drop, List.length_take]; rfl)) ?_
     with_reducible refine (spec_l1In.calls ((rd_T61 l0 x3_1).f1) 1 99 true _ A9.out).mono ?_
     rintro e w' ⟨rfl, ⟨nd, rfl⟩⟩
     refine ⟨_, rfl, ?_⟩
     refine hK.out _ _ ⟨(blk_cell BK153.out 0).trans rfl, (blk_cell BK153.out 1).trans rfl, (blk_cell BK153.out 2).trans rfl, (blk_cell BK153.out 3).trans rfl, (blk_cell BK153.out 4).trans rfl, (blk_cell BK153.out 5).trans rfl⟩ (fun hHeld => ?_)
     clear hK K
     refine nm_ 24 ?_
     refine pv_ 55 8 25 511 rfl rfl HT_ ?_; refine pv_ 55 9 26 1023 rfl rfl HT_ ?_; refine pv_ 55 10 27 2047 rfl rfl HT_ ?_; refine pv_ 55 11 28 4095 rfl rfl HT_ ?_; refine pv_ 55 13 30 12287 rfl rfl HT_ ?_
     refine tv_ 55 12 29 16383 rfl rfl HT_ HW_ hHeld (by rintro w' ⟨s0, s1, s2, s3, s4, s5⟩; go_simp; with_reducible rfl) ?_
     refine tv_ 55 14 31 32767 rfl rfl HT_ HW_ hHeld (by rintro w' ⟨s0, s1, s2, s3, s4, s5⟩; go_simp; with_reducible rfl) ?_
     refine pv_ 55 15 32 65535 rfl rfl HT_ ?_
     refine one_ (i := 16) (N := some 33) (bv 55 131071) rfl rfl (one_of HT_.out (by kernel_rfl)) (by decide) (fun K hK => ?_)
     refine goes_ Try.func59 (by kernel_rfl) rfl #[.int .i64 ((rd_T61 l0 x3_1).f2), .int .i64 0, .int .i64 (((rd_T61 l0 x3_1).f5).length : Int)] (by rfl) rfl rfl (by (try simp only [List.map_toArray, List.map_cons, List.map_nil]); first | done | rfl | (simp only [List.length_drop, List.length_take]; rfl)) ?_
     with_reducible refine (spec_l1In.calls ((rd_T61 l0 x3_1).f2) 0 (((rd_T61 l0 x3_1).f5).length : Int) true _ A11.out).mono ?_
     rintro e w' ⟨rfl, ⟨nd, rfl⟩⟩
     refine ⟨_, rfl, ?_⟩
     refine hK.out _ _ ⟨(blk_cell BK153.out 0).trans rfl, (blk_cell BK153.out 1).trans rfl, (blk_cell BK153.out 2).trans rfl, (blk_cell BK153.out 3).trans rfl, (blk_cell BK153.out 4).trans rfl, (blk_cell BK153.out 5).trans rfl⟩ (fun hHeld => ?_)
     clear hK K
     refine nm_ 33 ?_
     refine pv_ 55 17 34 262143 rfl rfl HT_ ?_; refine pv_ 55 18 35 524287 rfl rfl HT_ ?_; refine pv_ 55 19 36 1048575 rfl rfl HT_ ?_; refine pv_ 55 20 37 2097151 rfl rfl HT_ ?_; refine pv_ 55 22 39 6291455 rfl rfl HT_ ?_
     refine tv_ 55 21 38 8388607 rfl rfl HT_ HW_ hHeld (by rintro w' ⟨s0, s1, s2, s3, s4, s5⟩; go_simp; with_reducible rfl) ?_
     refine tv_ 55 23 40 16777215 rfl rfl HT_ HW_ hHeld (by rintro w' ⟨s0, s1, s2, s3, s4, s5⟩; go_simp; with_reducible rfl) ?_
     refine pv_ 55 24 41 33554431 rfl rfl HT_ ?_
     refine one_ (i := 25) (N := some 42) (bv 55 67108863) rfl rfl (one_of HT_.out (by kernel_rfl)) (by decide) (fun K hK => ?_)
     refine goes_ Try.func59 (by kernel_rfl) rfl #[.int .i64 ((rd_T61 l0 x3_1).f4), .int .i64 0, .int .i64 (((rd_T61 l0 x3_1).f5).length : Int)] (by rfl) rfl rfl (by (try simp only [List.map_toArray, List.map_cons, List.map_nil]); first | done | rfl | (simp only [List.length_drop, List.length_take]; rfl)) ?_
     with_reducible refine (spec_l1In.calls ((rd_T61 l0 x3_1).f4) 0 (((rd_T61 l0 x3_1).f5).length : Int) true _ A13.out).mono ?_
     rintro e w' ⟨rfl, ⟨nd, rfl⟩⟩
     refine ⟨_, rfl, ?_⟩
     refine hK.out _ _ ⟨(blk_cell BK153.out 0).trans rfl, (blk_cell BK153.out 1).trans rfl, (blk_cell BK153.out 2).trans rfl, (blk_cell BK153.out 3).trans rfl, (blk_cell BK153.out 4).trans rfl, (blk_cell BK153.out 5).trans rfl⟩ (fun hHeld => ?_)
     clear hK K
     refine nm_ 42 ?_
     refine pv_ 55 26 43 134217727 rfl rfl HT_ ?_; refine pv_ 55 27 44 268435455 rfl rfl HT_ ?_; refine pv_ 55 28 45 536870911 rfl rfl HT_ ?_; refine pv_ 55 29 46 1073741823 rfl rfl HT_ ?_
     refine tv_ 55 30 47 2147483647 rfl rfl HT_ HW_ hHeld (by rintro w' ⟨s0, s1, s2, s3, s4, s5⟩; go_simp; with_reducible rfl) ?_
     refine one_ (i := 31) (N := some 48) (bv 55 4294967295) rfl rfl (one_of HT_.out (by kernel_rfl)) (by decide) (fun K hK => ?_)
     refine goes_ Try.func59 (by kernel_rfl) rfl #[.int .i64 ((rd_T61 l0 x3_1).f3), .int .i64 0, .int .i64 100000] (by rfl) rfl rfl (by (try simp only [List.map_toArray, List.map_cons, List.map_nil]); first | done | rfl | (simp only [List.length_drop, List.length_take]; rfl)) ?_
     with_reducible refine (spec_l1In.calls ((rd_T61 l0 x3_1).f3) 0 100000 false _ A15.out).mono ?_
     rintro e w' ⟨rfl, ⟨nd, rfl⟩⟩
     refine ⟨_, rfl, ?_⟩
     refine hK.out _ _ ⟨(blk_cell BK153.out 0).trans rfl, (blk_cell BK153.out 1).trans rfl, (blk_cell BK153.out 2).trans rfl, (blk_cell BK153.out 3).trans rfl, (blk_cell BK153.out 4).trans rfl, (blk_cell BK153.out 5).trans rfl⟩ (fun hHeld => ?_)
     clear hK K
     refine nm_ 48 ?_
     refine pv_ 55 32 49 8589934591 rfl rfl HT_ ?_; refine pv_ 55 33 50 17179869183 rfl rfl HT_ ?_; refine pv_ 55 34 51 34359738367 rfl rfl HT_ ?_; refine pu_ 55 35 52 68719476735 rfl rfl HT_ ?_; refine pu_ 55 36 53 137438953471 rfl rfl HT_ ?_; refine pu_ 55 37 54 274877906943 rfl rfl HT_ ?_; refine pu_ 55 38 55 549755813887 rfl rfl HT_ ?_; refine pv_ 55 39 56 1099511627775 rfl rfl HT_ ?_; refine pv_ 55 40 57 2199023255551 rfl rfl HT_ ?_; refine pu_ 55 41 58 4398046511103 rfl rfl HT_ ?_; refine pu_ 55 42 59 8796093022207 rfl rfl HT_ ?_; refine pu_ 55 43 60 17592186044415 rfl rfl HT_ ?_; refine pu_ 55 44 61 35184372088831 rfl rfl HT_ ?_; refine pu_ 55 45 62 70368744177663 rfl rfl HT_ ?_; refine pu_ 55 46 63 140737488355327 rfl rfl HT_ ?_; refine pu_ 55 47 64 281474976710655 rfl rfl HT_ ?_; refine pu_ 55 48 65 562949953421311 rfl rfl HT_ ?_; refine pu_ 55 49 66 1125899906842623 rfl rfl HT_ ?_
     refine pu_ 55 50 67 2251799813685247 rfl rfl HT_ ?_; refine pu_ 55 51 68 4503599627370495 rfl rfl HT_ ?_; refine pu_ 55 52 69 9007199254740991 rfl rfl HT_ ?_; refine pu_ 55 53 70 18014398509481983 rfl rfl HT_ ?_; refine pv_ 55 54 71 36028797018963967 rfl rfl HT_ ?_
     refine done_ (done_of HT_.out (by kernel_rfl)) ?_
     try go_wp2
     go_meet
     case rel => exact ⟨_, (true), (by first | rfl | (simp; done) | (simp [*]; done)), H', ⟨by have := HK1.out; first | omega | exact Nat.le_refl _⟩, ⟨by (with_reducible repeat (first | refine blk_drewN ?_ _ | refine blk_drew ?_ | refine blk_alloc ?_ _)); exact BK153.out⟩, ⟨by repeat (first | (with_reducible first | exact HB.out | apply below_alloc | apply pw_below_drewN | apply below_drew1 | refine below_set ?_ GE153.out) | exact HB.out)⟩⟩
    subst c16
    have H1 : (if (((rd_T61 l0 x3_1).f5).length : Int) > 20 then (spec_AreTeams.j1 k1 l0 x3_1 true ((rd_T61 l0 x3_1).f0) ((rd_T61 l0 x3_1).f1) ((rd_T61 l0 x3_1).f2) ((rd_T61 l0 x3_1).f3) ((rd_T61 l0 x3_1).f4) ((rd_T61 l0 x3_1).f5)) else (if x3_1 > 0 then (if 0 ≤ (wrap64 (x3_1 - 1)) then (if (wrap64 (x3_1 - 1)) < (l0.length : Int) then (spec_AreTeams.j1 k1 l0 x3_1 (decide (((rd_T61 l0 (wrap64 (x3_1 - 1))).f0) ≥ ((rd_T61 l0 x3_1).f0))) ((rd_T61 l0 x3_1).f0) ((rd_T61 l0 x3_1).f1) ((rd_T61 l0 x3_1).f2) ((rd_T61 l0 x3_1).f3) ((rd_T61 l0 x3_1).f4) ((rd_T61 l0 x3_1).f5)) else (none)) else (none)) else (spec_AreTeams.j1 k1 l0 x3_1 false ((rd_T61 l0 x3_1).f0) ((rd_T61 l0 x3_1).f1) ((rd_T61 l0 x3_1).f2) ((rd_T61 l0 x3_1).f3) ((rd_T61 l0 x3_1).f4) ((rd_T61 l0 x3_1).f5)))) = some r := by rw [if_pos rfl] at H; exact H
    clear H
    have H := H1
    clear H1
    by_cases c17 : (((rd_T61 l0 x3_1).f5).length : Int) > 20
    rotate_left
    ·
     rw [if_neg c17] at H
     have c17b0 : decide (20 < (((rd_T61 l0 x3_1).f5).length : Int)) = false := decide_eq_false c17
     have c17b1 : decide (20 < ((rd_T61 l0 x3_1).f5).length) = false := decide_eq_false (by omega)
     clear c17
     (first | rw [c17b0] | (simp only [i64_w, i32_w]; rw [c17b0]) | skip)
     by_cases c20 : x3_1 > 0
     rotate_left
     ·
      rw [if_neg c20] at H
      have c20b0 : decide (0 < x3_1) = false := decide_eq_false c20
      clear c20
      have H' := Aside0.mk H
      clear H
      try go_wp2
      have n0_ : Aside0 (((((((w5.setCell ⟨gb153, 0, none⟩ (.int .i64 ((rd_T61 l0 x3_1).f0))).setCell ⟨gb153, 1, none⟩ (.int .i64 ((rd_T61 l0 x3_1).f1))).setCell ⟨gb153, 2, none⟩ (.int .i64 ((rd_T61 l0 x3_1).f2))).setCell ⟨gb153, 3, none⟩ (.int .i64 ((rd_T61 l0 x3_1).f3))).setCell ⟨gb153, 4, none⟩ (.int .i64 ((rd_T61 l0 x3_1).f4))).setCell ⟨gb153, 5, none⟩ (.slice A152_5 ((rd_T61 l0 x3_1).f5).length c152_5)).heap[gb153]? = some (.cells #[.int .i64 ((rd_T61 l0 x3_1).f0), .int .i64 ((rd_T61 l0 x3_1).f1), .int .i64 ((rd_T61 l0 x3_1).f2), .int .i64 ((rd_T61 l0 x3_1).f3), .int .i64 ((rd_T61 l0 x3_1).f4), .slice A152_5 ((rd_T61 l0 x3_1).f5).length c152_5] 61 (0, 0))) := ⟨by (with_reducible repeat (first | refine blk_drewN ?_ _ | refine blk_drew ?_ | refine blk_alloc ?_ _)); refine blk_put (cs := #[.int .i64 ((rd_T61 l0 x3_1).f0), .int .i64 ((rd_T61 l0 x3_1).f1), .int .i64 ((rd_T61 l0 x3_1).f2), .int .i64 ((rd_T61 l0 x3_1).f3), .int .i64 ((rd_T61 l0 x3_1).f4), .slice none 0 0]) ?_ 5 _ rfl; (with_reducible repeat (first | refine blk_drewN ?_ _ | refine blk_drew ?_ | refine blk_alloc ?_ _)); refine blk_put (cs := #[.int .i64 ((rd_T61 l0 x3_1).f0), .int .i64 ((rd_T61 l0 x3_1).f1), .int .i64 ((rd_T61 l0 x3_1).f2), .int .i64 ((rd_T61 l0 x3_1).f3), .int .i64 0, .slice none 0 0]) ?_ 4 _ rfl; (with_reducible repeat (first | refine blk_drewN ?_ _ | refine blk_drew ?_ | refine blk_alloc ?_ _)); refine blk_put (cs := #[.int .i64 ((rd_T61 l0 x3_1).f0), .int .i64 ((rd_T61 l0 x3_1).f1), .int .i64 ((rd_T61 l0 x3_1).f2), .int .i64 0, .int .i64 0, .slice none 0 0]) ?_ 3 _ rfl; (with_reducible repeat (first | refine blk_drewN ?_ _ | refine blk_drew ?_ | refine blk_alloc ?_ _)); refine blk_put (cs := #[.int .i64 ((rd_T61 l0 x3_1).f0), .int .i64 ((rd_T61 l0 x3_1).f1), .int .i64 0, .int .i64 0, .int .i64 0, .slice none 0 0]) ?_ 2 _ rfl; (with_reducible repeat (first | refine blk_drewN ?_ _ | refine blk_drew ?_ | refine blk_alloc ?_ _)); refine blk_put (cs := #[.int .i64 ((rd_T61 l0 x3_1).f0), .int .i64 0, .int .i64 0, .int .i64 0, .int .i64 0, .slice none 0 0]) ?_ 1 _ rfl; (with_reducible repeat (first | refine blk_drewN ?_ _ | refine blk_drew ?_ | refine blk_alloc ?_ _)); refine blk_put (cs := #[.int .i64 0, .int .i64 0, .int .i64 0, .int .i64 0, .int .i64 0, .slice none 0 0]) ?_ 0 _ rfl; (with_reducible repeat (first | refine blk_drewN ?_ _ | refine blk_drew ?_ | refine blk_alloc ?_ _)); exact BK153.out⟩
      have n1_ : Aside0 (Below w.heap.size w ((((((w5.setCell ⟨gb153, 0, none⟩ (.int .i64 ((rd_T61 l0 x3_1).f0))).setCell ⟨gb153, 1, none⟩ (.int .i64 ((rd_T61 l0 x3_1).f1))).setCell ⟨gb153, 2, none⟩ (.int .i64 ((rd_T61 l0 x3_1).f2))).setCell ⟨gb153, 3, none⟩ (.int .i64 ((rd_T61 l0 x3_1).f3))).setCell ⟨gb153, 4, none⟩ (.int .i64 ((rd_T61 l0 x3_1).f4))).setCell ⟨gb153, 5, none⟩ (.slice A152_5 ((rd_T61 l0 x3_1).f5).length c152_5))) := ⟨by repeat (first | (with_reducible first | exact HB.out | apply below_alloc | apply pw_below_drewN | apply below_drew1 | refine below_set ?_ GE153.out) | exact HB.out)⟩
      (try clear BK153)
      (try clear HB)
      generalize ((((((w5.setCell ⟨gb153, 0, none⟩ (.int .i64 ((rd_T61 l0 x3_1).f0))).setCell ⟨gb153, 1, none⟩ (.int .i64 ((rd_T61 l0 x3_1).f1))).setCell ⟨gb153, 2, none⟩ (.int .i64 ((rd_T61 l0 x3_1).f2))).setCell ⟨gb153, 3, none⟩ (.int .i64 ((rd_T61 l0 x3_1).f3))).setCell ⟨gb153, 4, none⟩ (.int .i64 ((rd_T61 l0 x3_1).f4))).setCell ⟨gb153, 5, none⟩ (.slice A152_5 ((rd_T61 l0 x3_1).f5).length c152_5)) = w26 at n0_ n1_ ⊢
      have BK153 := n0_
      have HB := n1_
      clear n0_ n1_
      have n0_ := Aside0.mk (blk_drew BK153.out)
      have n1_ := Aside0.mk (below_drew1 HB.out)
      clear BK153
      clear HB
      have BK153 := n0_
      have HB := n1_
      clear n0_ n1_
      refine start_ (n := 55) (S := fun w' => w'.cell? ⟨gb153, 0, none⟩ = some (.int .i64 ((rd_T61 l0 x3_1).f0)) ∧ w'.cell? ⟨gb153, 1, none⟩ = some (.int .i64 ((rd_T61 l0 x3_1).f1)) ∧ w'.cell? ⟨gb153, 2, none⟩ = some (.int .i64 ((rd_T61 l0 x3_1).f2)) ∧ w'.cell? ⟨gb153, 3, none⟩ = some (.int .i64 ((rd_T61 l0 x3_1).f3)) ∧ w'.cell? ⟨gb153, 4, none⟩ = some (.int .i64 ((rd_T61 l0 x3_1).f4)) ∧ w'.cell? ⟨gb153, 5, none⟩ = some (.slice A152_5 ((rd_T61 l0 x3_1).f5).length c152_5)) (ds := []) (bv 55 0) (by kernel_rfl) rfl rfl ⟨(blk_cell BK153.out 0).trans rfl, (blk_cell BK153.out 1).trans rfl, (blk_cell BK153.out 2).trans rfl, (blk_cell BK153.out 3).trans rfl, (blk_cell BK153.out 4).trans rfl, (blk_cell BK153.out 5).trans rfl⟩ (fun hHeld => ?_); refine with_tabW spec_AreTeams.tab5 spec_AreTeams.bits5 (fun HT_ HW_ => ?_)
      generalize w26.drew = w27 at BK153 HB hHeld ⊢
      refine pv_ 55 0 17 1 rfl rfl HT_ ?_
      refine tv_ 55 1 18 3 rfl rfl HT_ HW_ hHeld (by rintro w' ⟨s0, s1, s2, s3, s4, s5⟩; go_simp; with_reducible rfl) ?_
      refine one_ (i := 2) (N := some 19) (bv 55 7) rfl rfl (one_of HT_.out (by kernel_rfl)) (by decide) (fun K hK => ?_)
      refine goes_ Try.func59 (by kernel_rfl) rfl #[.int .i64 ((rd_T61 l0 x3_1).f0), .int .i64 1, .int .i64 99] (by rfl) rfl rfl (by (try simp only [List.map_toArray, List.map_cons, List.map_nil]); first | done | rfl | (simp only [List.length_drop, List.length_take]; rfl)) ?_
      with_reducible refine (spec_l1In.calls ((rd_T61 l0 x3_1).f0) 1 99 true _ A7.out).mono ?_
      rintro e w' ⟨rfl, ⟨nd, rfl⟩⟩
      refine ⟨_, rfl, ?_⟩
      refine hK.out _ _ ⟨(blk_cell BK153.out 0).trans rfl, (blk_cell BK153.out 1).trans rfl, (blk_cell BK153.out 2).trans rfl, (blk_cell BK153.out 3).trans rfl, (blk_cell BK153.out 4).trans rfl, (blk_cell BK153.out 5).trans rfl⟩ (fun hHeld => ?_)
      clear hK K
      refine nm_ 19 ?_
      refine pv_ 55 3 20 15 rfl rfl HT_ ?_; refine pv_ 55 4 21 31 rfl rfl HT_ ?_; refine pv_ 55 5 22 63 rfl rfl HT_ ?_
      refine tv_ 55 6 23 127 rfl rfl HT_ HW_ hHeld (by rintro w' ⟨s0, s1, s2, s3, s4, s5⟩; go_simp; with_reducible rfl) ?_
      refine one_ (i := 7) (N := some 24) (bv 55 255) rfl rfl (one_of HT_.out (by kernel_rfl)) (by decide) (fun K hK => ?_)
      refine goes_ Try.func59 (by kernel_rfl) rfl #[.int .i64 ((rd_T61 l0 x3_1).f1), .int .i64 1, .int .i64 99] (by rfl) rfl rfl (by (try simp only [List.map_toArray, List.map_cons, List.map_nil]); first | done | rfl | (simp only [List.length_drop, List.length_take]; rfl)) ?_
      with_reducible refine (spec_l1In.calls ((rd_T61 l0 x3_1).f1) 1 99 true _ A9.out).mono ?_
      rintro e w' ⟨rfl, ⟨nd, rfl⟩⟩
      refine ⟨_, rfl, ?_⟩
      refine hK.out _ _ ⟨(blk_cell BK153.out 0).trans rfl, (blk_cell BK153.out 1).trans rfl, (blk_cell BK153.out 2).trans rfl, (blk_cell BK153.out 3).trans rfl, (blk_cell BK153.out 4).trans rfl, (blk_cell BK153.out 5).trans rfl⟩ (fun hHeld => ?_)
      clear hK K
      refine nm_ 24 ?_
      refine pv_ 55 8 25 511 rfl rfl HT_ ?_; refine pv_ 55 9 26 1023 rfl rfl HT_ ?_; refine pv_ 55 10 27 2047 rfl rfl HT_ ?_; refine pv_ 55 11 28 4095 rfl rfl HT_ ?_; refine pv_ 55 13 30 12287 rfl rfl HT_ ?_
      refine tv_ 55 12 29 16383 rfl rfl HT_ HW_ hHeld (by rintro w' ⟨s0, s1, s2, s3, s4, s5⟩; go_simp; with_reducible rfl) ?_
      refine tv_ 55 14 31 32767 rfl rfl HT_ HW_ hHeld (by rintro w' ⟨s0, s1, s2, s3, s4, s5⟩; go_simp; with_reducible rfl) ?_
      refine pv_ 55 15 32 65535 rfl rfl HT_ ?_
      refine one_ (i := 16) (N := some 33) (bv 55 131071) rfl rfl (one_of HT_.out (by kernel_rfl)) (by decide) (fun K hK => ?_)
      refine goes_ Try.func59 (by kernel_rfl) rfl #[.int .i64 ((rd_T61 l0 x3_1).f2), .int .i64 0, .int .i64 (((rd_T61 l0 x3_1).f5).length : Int)] (by rfl) rfl rfl (by (try simp only [List.map_toArray, List.map_cons, List.map_nil]); first | done | rfl | (simp only [List.length_drop, List.length_take]; rfl)) ?_
      with_reducible refine (spec_l1In.calls ((rd_T61 l0 x3_1).f2) 0 (((rd_T61 l0 x3_1).f5).length : Int) true _ A11.out).mono ?_
      rintro e w' ⟨rfl, ⟨nd, rfl⟩⟩
      refine ⟨_, rfl, ?_⟩
      refine hK.out _ _ ⟨(blk_cell BK153.out 0).trans rfl, (blk_cell BK153.out 1).trans rfl, (blk_cell BK153.out 2).trans rfl, (blk_cell BK153.out 3).trans rfl, (blk_cell BK153.out 4).trans rfl, (blk_cell BK153.out 5).trans rfl⟩ (fun hHeld => ?_)
      clear hK K
      refine nm_ 33 ?_
      refine pv_ 55 17 34 262143 rfl rfl HT_ ?_; refine pv_ 55 18 35 524287 rfl rfl HT_ ?_; refine pv_ 55 19 36 1048575 rfl rfl HT_ ?_; refine pv_ 55 20 37 2097151 rfl rfl HT_ ?_; refine pv_ 55 22 39 6291455 rfl rfl HT_ ?_
      refine tv_ 55 21 38 8388607 rfl rfl HT_ HW_ hHeld (by rintro w' ⟨s0, s1, s2, s3, s4, s5⟩; go_simp; with_reducible rfl) ?_
      refine tv_ 55 23 40 16777215 rfl rfl HT_ HW_ hHeld (by rintro w' ⟨s0, s1, s2, s3, s4, s5⟩; go_simp; with_reducible rfl) ?_
      refine pv_ 55 24 41 33554431 rfl rfl HT_ ?_
      refine one_ (i := 25) (N := some 42) (bv 55 67108863) rfl rfl (one_of HT_.out (by kernel_rfl)) (by decide) (fun K hK => ?_)
      refine goes_ Try.func59 (by kernel_rfl) rfl #[.int .i64 ((rd_T61 l0 x3_1).f4), .int .i64 0, .int .i64 (((rd_T61 l0 x3_1).f5).length : Int)] (by rfl) rfl rfl (by (try simp only [List.map_toArray, List.map_cons, List.map_nil]); first | done | rfl | (simp only [List.length_drop, List.length_take]; rfl)) ?_
      with_reducible refine (spec_l1In.calls ((rd_T61 l0 x3_1).f4) 0 (((rd_T61 l0 x3_1).f5).length : Int) true _ A13.out).mono ?_
      rintro e w' ⟨rfl, ⟨nd, rfl⟩⟩
      refine ⟨_, rfl, ?_⟩
      refine hK.out _ _ ⟨(blk_cell BK153.out 0).trans rfl, (blk_cell BK153.out 1).trans rfl, (blk_cell BK153.out 2).trans rfl, (blk_cell BK153.out 3).trans rfl, (blk_cell BK153.out 4).trans rfl, (blk_cell BK153.out 5).trans rfl⟩ (fun hHeld => ?_)
      clear hK K
      refine nm_ 42 ?_
      refine pv_ 55 26 43 134217727 rfl rfl HT_ ?_; refine pv_ 55 27 44 268435455 rfl rfl HT_ ?_; refine pv_ 55 28 45 536870911 rfl rfl HT_ ?_; refine pv_ 55 29 46 1073741823 rfl rfl HT_ ?_
      refine tv_ 55 30 47 2147483647 rfl rfl HT_ HW_ hHeld (by rintro w' ⟨s0, s1, s2, s3, s4, s5⟩; go_simp; with_reducible rfl) ?_
      refine one_ (i := 31) (N := some 48) (bv 55 4294967295) rfl rfl (one_of HT_.out (by kernel_rfl)) (by decide) (fun K hK => ?_)
      refine goes_ Try.func59 (by kernel_rfl) rfl #[.int .i64 ((rd_T61 l0 x3_1).f3), .int .i64 0, .int .i64 100000] (by rfl) rfl rfl (by (try simp only [List.map_toArray, List.map_cons, List.map_nil]); first | done | rfl | (simp only [List.length_drop, List.length_take]; rfl)) ?_
      with_reducible refine (spec_l1In.calls ((rd_T61 l0 x3_1).f3) 0 100000 true _ A15.out).mono ?_
      rintro e w' ⟨rfl, ⟨nd, rfl⟩⟩
      refine ⟨_, rfl, ?_⟩
      refine hK.out _ _ ⟨(blk_cell BK153.out 0).trans rfl, (blk_cell BK153.out 1).trans rfl, (blk_cell BK153.out 2).trans rfl, (blk_cell BK153.out 3).trans rfl, (blk_cell BK153.out 4).trans rfl, (blk_cell BK153.out 5).trans rfl⟩ (fun hHeld => ?_)
      clear hK K
      refine nm_ 48 ?_
      refine pv_ 55 32 49 8589934591 rfl rfl HT_ ?_; refine pv_ 55 33 50 17179869183 rfl rfl HT_ ?_; refine pv_ 55 34 51 34359738367 rfl rfl HT_ ?_; refine pv_ 55 35 52 68719476735 rfl rfl HT_ ?_
      refine tv_ 55 36 53 137438953471 rfl rfl HT_ HW_ hHeld (by rintro w' ⟨s0, s1, s2, s3, s4, s5⟩; go_simp; with_reducible rfl) ?_
      refine pv_ 55 37 54 274877906943 rfl rfl HT_ ?_; refine pv_ 55 38 55 549755813887 rfl rfl HT_ ?_; refine pv_ 55 39 56 1099511627775 rfl rfl HT_ ?_; refine pv_ 55 40 57 2199023255551 rfl rfl HT_ ?_; refine pv_ 55 41 58 4398046511103 rfl rfl HT_ ?_; refine pv_ 55 42 59 8796093022207 rfl rfl HT_ ?_; refine pv_ 55 43 60 17592186044415 rfl rfl HT_ ?_; refine pu_ 55 44 61 35184372088831 rfl rfl HT_ ?_; refine pu_ 55 45 62 70368744177663 rfl rfl HT_ ?_; refine pu_ 55 46 63 140737488355327 rfl rfl HT_ ?_; refine pu_ 55 47 64 281474976710655 rfl rfl HT_ ?_; refine pu_ 55 48 65 562949953421311 rfl rfl HT_ ?_; refine pu_ 55 49 66 1125899906842623 rfl rfl HT_ ?_; refine pu_ 55 50 67 2251799813685247 rfl rfl HT_ ?_; refine pu_ 55 51 68 4503599627370495 rfl rfl HT_ ?_; refine pu_ 55 52 69 9007199254740991 rfl rfl HT_ ?_; refine pv_ 55 53 70 18014398509481983 rfl rfl HT_ ?_; refine pv_ 55 54 71 36028797018963967 rfl rfl HT_ ?_
      refine done_ (done_of HT_.out (by kernel_rfl)) ?_
      try go_wp2
      go_meet
      case rel => exact ⟨_, (false), (by first | rfl | (simp; done) | (simp [*]; done)), H', ⟨by have := HK1.out; first | omega | exact Nat.le_refl _⟩, ⟨by (with_reducible repeat (first | refine blk_drewN ?_ _ | refine blk_drew ?_ | refine blk_alloc ?_ _)); exact BK153.out⟩, ⟨by repeat (first | (with_reducible first | exact HB.out | apply below_alloc | apply pw_below_drewN | apply below_drew1 | refine below_set ?_ GE153.out) | exact HB.out)⟩⟩
     rw [if_pos c20] at H
     have c20b0 : decide (0 < x3_1) = true := decide_eq_true c20
     clear c20
     obtain ⟨ji21, hji21⟩ : ∃ j_ : Int, (wrap64 (x3_1 - 1)) = j_ := ⟨_, rfl⟩
     replace H : (if 0 ≤ (ji21) then (if (ji21) < (l0.length : Int) then (spec_AreTeams.j1 k1 l0 x3_1 (decide (((rd_T61 l0 (ji21)).f0) ≥ ((rd_T61 l0 x3_1).f0))) ((rd_T61 l0 x3_1).f0) ((rd_T61 l0 x3_1).f1) ((rd_T61 l0 x3_1).f2) ((rd_T61 l0 x3_1).f3) ((rd_T61 l0 x3_1).f4) ((rd_T61 l0 x3_1).f5)) else (none)) else (none)) = some r := by first | (rw [hji21] at H; exact H) | (simp only [hji21] at H ⊢; exact H)
     (try rw [hji21] at A7)
     (try rw [hji21] at A9)
     (try rw [hji21] at A11)
     (try rw [hji21] at A13)
     (try rw [hji21] at A15)
     have hji21w : (IntKind.i64.wrap (x3_1 - 1)) = ji21 := (i64_w _).trans hji21
     by_cases c22 : 0 ≤ (ji21)
     rotate_left
     ·
      rw [if_neg c22] at H
      exact absurd H (by simp)
     rw [if_pos c22] at H
     have c22b0 : decide (0 ≤ (ji21)) = true := decide_eq_true c22
     clear c22
     by_cases c23 : (ji21) < (l0.length : Int)
     rotate_left
     ·
      rw [if_neg c23] at H
      exact absurd H (by simp)
     rw [if_pos c23] at H
     have c23b0 : decide ((ji21) < (l0.length : Int)) = true := decide_eq_true c23
     clear c23
     have H' := Aside0.mk H
     clear H
     try go_wp2
     have n0_ : Aside0 (((((((w5.setCell ⟨gb153, 0, none⟩ (.int .i64 ((rd_T61 l0 x3_1).f0))).setCell ⟨gb153, 1, none⟩ (.int .i64 ((rd_T61 l0 x3_1).f1))).setCell ⟨gb153, 2, none⟩ (.int .i64 ((rd_T61 l0 x3_1).f2))).setCell ⟨gb153, 3, none⟩ (.int .i64 ((rd_T61 l0 x3_1).f3))).setCell ⟨gb153, 4, none⟩ (.int .i64 ((rd_T61 l0 x3_1).f4))).setCell ⟨gb153, 5, none⟩ (.slice A152_5 ((rd_T61 l0 x3_1).f5).length c152_5)).heap[gb153]? = some (.cells #[.int .i64 ((rd_T61 l0 x3_1).f0), .int .i64 ((rd_T61 l0 x3_1).f1), .int .i64 ((rd_T61 l0 x3_1).f2), .int .i64 ((rd_T61 l0 x3_1).f3), .int .i64 ((rd_T61 l0 x3_1).f4), .slice A152_5 ((rd_T61 l0 x3_1).f5).length c152_5] 61 (0, 0))) := ⟨by (with_reducible repeat (first | refine blk_drewN ?_ _ | refine blk_drew ?_ | refine blk_alloc ?_ _)); refine blk_put (cs := #[.int .i64 ((rd_T61 l0 x3_1).f0), .int .i64 ((rd_T61 l0 x3_1).f1), .int .i64 ((rd_T61 l0 x3_1).f2), .int .i64 ((rd_T61 l0 x3_1).f3), .int .i64 ((rd_T61 l0 x3_1).f4), .slice none 0 0]) ?_ 5 _ rfl; (with_reducible repeat (first | refine blk_drewN ?_ _ | refine blk_drew ?_ | refine blk_alloc ?_ _)); refine blk_put (cs := #[.int .i64 ((rd_T61 l0 x3_1).f0), .int .i64 ((rd_T61 l0 x3_1).f1), .int .i64 ((rd_T61 l0 x3_1).f2), .int .i64 ((rd_T61 l0 x3_1).f3), .int .i64 0, .slice none 0 0]) ?_ 4 _ rfl; (with_reducible repeat (first | refine blk_drewN ?_ _ | refine blk_drew ?_ | refine blk_alloc ?_ _)); refine blk_put (cs := #[.int .i64 ((rd_T61 l0 x3_1).f0), .int .i64 ((rd_T61 l0 x3_1).f1), .int .i64 ((rd_T61 l0 x3_1).f2), .int .i64 0, .int .i64 0, .slice none 0 0]) ?_ 3 _ rfl; (with_reducible repeat (first | refine blk_drewN ?_ _ | refine blk_drew ?_ | refine blk_alloc ?_ _)); refine blk_put (cs := #[.int .i64 ((rd_T61 l0 x3_1).f0), .int .i64 ((rd_T61 l0 x3_1).f1), .int .i64 0, .int .i64 0, .int .i64 0, .slice none 0 0]) ?_ 2 _ rfl; (with_reducible repeat (first | refine blk_drewN ?_ _ | refine blk_drew ?_ | refine blk_alloc ?_ _)); refine blk_put (cs := #[.int .i64 ((rd_T61 l0 x3_1).f0), .int .i64 0, .int .i64 0, .int .i64 0, .int .i64 0, .slice none 0 0]) ?_ 1 _ rfl; (with_reducible repeat (first | refine blk_drewN ?_ _ | refine blk_drew ?_ | refine blk_alloc ?_ _)); refine blk_put (cs := #[.int .i64 0, .int .i64 0, .int .i64 0, .int .i64 0, .int .i64 0, .slice none 0 0]) ?_ 0 _ rfl; (with_reducible repeat (first | refine blk_drewN ?_ _ | refine blk_drew ?_ | refine blk_alloc ?_ _)); exact BK153.out⟩
     have n1_ : Aside0 (Below w.heap.size w ((((((w5.setCell ⟨gb153, 0, none⟩ (.int .i64 ((rd_T61 l0 x3_1).f0))).setCell ⟨gb153, 1, none⟩ (.int .i64 ((rd_T61 l0 x3_1).f1))).setCell ⟨gb153, 2, none⟩ (.int .i64 ((rd_T61 l0 x3_1).f2))).setCell ⟨gb153, 3, none⟩ (.int .i64 ((rd_T61 l0 x3_1).f3))).setCell ⟨gb153, 4, none⟩ (.int .i64 ((rd_T61 l0 x3_1).f4))).setCell ⟨gb153, 5, none⟩ (.slice A152_5 ((rd_T61 l0 x3_1).f5).length c152_5))) := ⟨by repeat (first | (with_reducible first | exact HB.out | apply below_alloc | apply pw_below_drewN | apply below_drew1 | refine below_set ?_ GE153.out) | exact HB.out)⟩
     (try clear BK153)
     (try clear HB)
     generalize ((((((w5.setCell ⟨gb153, 0, none⟩ (.int .i64 ((rd_T61 l0 x3_1).f0))).setCell ⟨gb153, 1, none⟩ (.int .i64 ((rd_T61 l0 x3_1).f1))).setCell ⟨gb153, 2, none⟩ (.int .i64 ((rd_T61 l0 x3_1).f2))).setCell ⟨gb153, 3, none⟩ (.int .i64 ((rd_T61 l0 x3_1).f3))).setCell ⟨gb153, 4, none⟩ (.int .i64 ((rd_T61 l0 x3_1).f4))).setCell ⟨gb153, 5, none⟩ (.slice A152_5 ((rd_T61 l0 x3_1).f5).length c152_5)) = w24 at n0_ n1_ ⊢
     have BK153 := n0_
     have HB := n1_
     clear n0_ n1_
     have n0_ := Aside0.mk (blk_drew BK153.out)
     have n1_ := Aside0.mk (below_drew1 HB.out)
     clear BK153
     clear HB
     have BK153 := n0_
     have HB := n1_
     clear n0_ n1_
     have p159 : 0 ≤ ((ji21) : Int) := of_decide_eq_true (by first | (with_reducible assumption) | assumption)
     have q159 : (ji21) < (l0.length : Int) := of_decide_eq_true (by first | (with_reducible assumption) | assumption)
     obtain ⟨ad159, A159_5, c159_5, e159, hx159_0, hx159_1, hx159_2, hx159_3, hx159_4, hx159_5, hl159_5, hi159_5⟩ := at_T61 HR0.out (ji21) p159 q159
     have hw159_5 := hx159_5
     have hw159_4 := hx159_4
     have hw159_3 := hx159_3
     have hw159_2 := hx159_2
     have hw159_1 := hx159_1
     have hw159_0 := hx159_0
     obtain rfl : ad152 = ad159 := (by injection e159)
     replace hx159_0 := (HB.out.cell (World.block_lt_of_cell? w _ hx159_0)).trans hx159_0
     replace hx159_1 := (HB.out.cell (World.block_lt_of_cell? w _ hx159_1)).trans hx159_1
     replace hx159_2 := (HB.out.cell (World.block_lt_of_cell? w _ hx159_2)).trans hx159_2
     replace hx159_3 := (HB.out.cell (World.block_lt_of_cell? w _ hx159_3)).trans hx159_3
     replace hx159_4 := (HB.out.cell (World.block_lt_of_cell? w _ hx159_4)).trans hx159_4
     replace hx159_5 := (HB.out.cell (World.block_lt_of_cell? w _ hx159_5)).trans hx159_5
     have HR159_5 := Aside0.mk hi159_5
     have HC159_5 := Aside0.mk hl159_5
     clear hi159_5 hl159_5
     replace p159 := eq_true p159
     replace q159 := eq_true q159
     refine start_ (n := 55) (S := fun w' => w'.cell? ⟨gb153, 0, none⟩ = some (.int .i64 ((rd_T61 l0 x3_1).f0)) ∧ w'.cell? ⟨gb153, 1, none⟩ = some (.int .i64 ((rd_T61 l0 x3_1).f1)) ∧ w'.cell? ⟨gb153, 2, none⟩ = some (.int .i64 ((rd_T61 l0 x3_1).f2)) ∧ w'.cell? ⟨gb153, 3, none⟩ = some (.int .i64 ((rd_T61 l0 x3_1).f3)) ∧ w'.cell? ⟨gb153, 4, none⟩ = some (.int .i64 ((rd_T61 l0 x3_1).f4)) ∧ w'.cell? ⟨gb153, 5, none⟩ = some (.slice A152_5 ((rd_T61 l0 x3_1).f5).length c152_5) ∧ w'.cell? (ad152.add (((ji21)).toNat * 6)) = some (.int .i64 ((rd_T61 l0 (ji21)).f0)) ∧ w'.cell? ⟨(ad152.add (((ji21)).toNat * 6)).block, (ad152.add (((ji21)).toNat * 6)).off + 1, none⟩ = some (.int .i64 ((rd_T61 l0 (ji21)).f1)) ∧ w'.cell? ⟨(ad152.add (((ji21)).toNat * 6)).block, (ad152.add (((ji21)).toNat * 6)).off + 2, none⟩ = some (.int .i64 ((rd_T61 l0 (ji21)).f2)) ∧ w'.cell? ⟨(ad152.add (((ji21)).toNat * 6)).block, (ad152.add (((ji21)).toNat * 6)).off + 3, none⟩ = some (.int .i64 ((rd_T61 l0 (ji21)).f3)) ∧ w'.cell? ⟨(ad152.add (((ji21)).toNat * 6)).block, (ad152.add (((ji21)).toNat * 6)).off + 4, none⟩ = some (.int .i64 ((rd_T61 l0 (ji21)).f4)) ∧ w'.cell? ⟨(ad152.add (((ji21)).toNat * 6)).block, (ad152.add (((ji21)).toNat * 6)).off + 5, none⟩ = some (.slice A159_5 ((rd_T61 l0 (ji21)).f5).length c159_5)) (ds := []) (bv 55 0) (by kernel_rfl) rfl rfl ⟨(blk_cell BK153.out 0).trans rfl, (blk_cell BK153.out 1).trans rfl, (blk_cell BK153.out 2).trans rfl, (blk_cell BK153.out 3).trans rfl, (blk_cell BK153.out 4).trans rfl, (blk_cell BK153.out 5).trans rfl, ((HB.out.cell (World.block_lt_of_cell? w _ hw159_0)).trans hw159_0), ((HB.out.cell (World.block_lt_of_cell? w _ hw159_1)).trans hw159_1), ((HB.out.cell (World.block_lt_of_cell? w _ hw159_2)).trans hw159_2), ((HB.out.cell (World.block_lt_of_cell? w _ hw159_3)).trans hw159_3), ((HB.out.cell (World.block_lt_of_cell? w _ hw159_4)).trans hw159_4), ((HB.out.cell (World.block_lt_of_cell? w _ hw159_5)).trans hw159_5)⟩ (fun hHeld => ?_); refine with_tabW spec_AreTeams.tab5 spec_AreTeams.bits5 (fun HT_ HW_ => ?_)
     generalize w24.drew = w25 at BK153 HB HR159_5 hx159_0 hx159_1 hx159_2 hx159_3 hx159_4 hx159_5 hHeld ⊢
     refine pv_ 55 0 17 1 rfl rfl HT_ ?_
     refine tv_ 55 1 18 3 rfl rfl HT_ HW_ hHeld (by rintro w' ⟨s0, s1, s2, s3, s4, s5, s6, s7, s8, s9, s10, s11⟩; go_simp; with_reducible rfl) ?_
     refine one_ (i := 2) (N := some 19) (bv 55 7) rfl rfl (one_of HT_.out (by kernel_rfl)) (by decide) (fun K hK => ?_)
     refine goes_ Try.func59 (by kernel_rfl) rfl #[.int .i64 ((rd_T61 l0 x3_1).f0), .int .i64 1, .int .i64 99] (by rfl) rfl rfl (by (try simp only [List.map_toArray, List.map_cons, List.map_nil]); first | done | rfl | (simp only [List.length_drop, List.length_take]; rfl)) ?_
     with_reducible refine (spec_l1In.calls ((rd_T61 l0 x3_1).f0) 1 99 true _ A7.out).mono ?_
     rintro e w' ⟨rfl, ⟨nd, rfl⟩⟩
     refine ⟨_, rfl, ?_⟩
     refine hK.out _ _ ⟨(blk_cell BK153.out 0).trans rfl, (blk_cell BK153.out 1).trans rfl, (blk_cell BK153.out 2).trans rfl, (blk_cell BK153.out 3).trans rfl, (blk_cell BK153.out 4).trans rfl, (blk_cell BK153.out 5).trans rfl, ((HB.out.cell (World.block_lt_of_cell? w _ hw159_0)).trans hw159_0), ((HB.out.cell (World.block_lt_of_cell? w _ hw159_1)).trans hw159_1), ((HB.out.cell (World.block_lt_of_cell? w _ hw159_2)).trans hw159_2), ((HB.out.cell (World.block_lt_of_cell? w _ hw159_3)).trans hw159_3), ((HB.out.cell (World.block_lt_of_cell? w _ hw159_4)).trans hw159_4), ((HB.out.cell (World.block_lt_of_cell? w _ hw159_5)).trans hw159_5)⟩ (fun hHeld => ?_)
     clear hK K
     refine nm_ 19 ?_
     refine pv_ 55 3 20 15 rfl rfl HT_ ?_; refine pv_ 55 4 21 31 rfl rfl HT_ ?_; refine pv_ 55 5 22 63 rfl rfl HT_ ?_
     refine tv_ 55 6 23 127 rfl rfl HT_ HW_ hHeld (by rintro w' ⟨s0, s1, s2, s3, s4, s5, s6, s7, s8, s9, s10, s11⟩; go_simp; with_reducible rfl) ?_
     refine one_ (i := 7) (N := some 24) (bv 55 255) rfl rfl (one_of HT_.out (by kernel_rfl)) (by decide) (fun K hK => ?_)
     refine goes_ Try.func59 (by kernel_rfl) rfl #[.int .i64 ((rd_T61 l0 x3_1).f1), .int .i64 1, .int .i64 99] (by rfl) rfl rfl (by (try simp only [List.map_toArray, List.map_cons, List.map_nil]); first | done | rfl | (simp only [List.length_drop, List.length_take]; rfl)) ?_
     with_reducible refine (spec_l1In.calls ((rd_T61 l0 x3_1).f1) 1 99 true _ A9.out).mono ?_
     rintro e w' ⟨rfl, ⟨nd, rfl⟩⟩
     refine ⟨_, rfl, ?_⟩
     refine hK.out _ _ ⟨(blk_cell BK153.out 0).trans rfl, (blk_cell BK153.out 1).trans rfl, (blk_cell BK153.out 2).trans rfl, (blk_cell BK153.out 3).trans rfl, (blk_cell BK153.out 4).trans rfl, (blk_cell BK153.out 5).trans rfl, ((HB.out.cell (World.block_lt_of_cell? w _ hw159_0)).trans hw159_0), ((HB.out.cell (World.block_lt_of_cell? w _ hw159_1)).trans hw159_1), ((HB.out.cell (World.block_lt_of_cell? w _ hw159_2)).trans hw159_2), ((HB.out.cell (World.block_lt_of_cell? w _ hw159_3)).trans hw159_3), ((HB.out.cell (World.block_lt_of_cell? w _ hw159_4)).trans hw159_4), ((HB.out.cell (World.block_lt_of_cell? w _ hw159_5)).trans hw159_5)⟩ (fun hHeld => ?_)
     clear hK K
     refine nm_ 24 ?_
     refine pv_ 55 8 25 511 rfl rfl HT_ ?_; refine pv_ 55 9 26 1023 rfl rfl HT_ ?_; refine pv_ 55 10 27 2047 rfl rfl HT_ ?_; refine pv_ 55 11 28 4095 rfl rfl HT_ ?_; refine pv_ 55 13 30 12287 rfl rfl HT_ ?_
     refine tv_ 55 12 29 16383 rfl rfl HT_ HW_ hHeld (by rintro w' ⟨s0, s1, s2, s3, s4, s5, s6, s7, s8, s9, s10, s11⟩; go_simp; with_reducible rfl) ?_
     refine tv_ 55 14 31 32767 rfl rfl HT_ HW_ hHeld (by rintro w' ⟨s0, s1, s2, s3, s4, s5, s6, s7, s8, s9, s10, s11⟩; go_simp; with_reducible rfl) ?_
     refine pv_ 55 15 32 65535 rfl rfl HT_ ?_
     refine one_ (i := 16) (N := some 33) (bv 55 131071) rfl rfl (one_of HT_.out (by kernel_rfl)) (by decide) (fun K hK => ?_)
     refine goes_ Try.func59 (by kernel_rfl) rfl #[.int .i64 ((rd_T61 l0 x3_1).f2), .int .i64 0, .int .i64 (((rd_T61 l0 x3_1).f5).length : Int)] (by rfl) rfl rfl (by (try simp only [List.map_toArray, List.map_cons, List.map_nil]); first | done | rfl | (simp only [List.length_drop, List.length_take]; rfl)) ?_
     with_reducible refine (spec_l1In.calls ((rd_T61 l0 x3_1).f2) 0 (((rd_T61 l0 x3_1).f5).length : Int) true _ A11.out).mono ?_
     rintro e w' ⟨rfl, ⟨nd, rfl⟩⟩
     refine ⟨_, rfl, ?_⟩
     refine hK.out _ _ ⟨(blk_cell BK153.out 0).trans rfl, (blk_cell BK153.out 1).trans rfl, (blk_cell BK153.out 2).trans rfl, (blk_cell BK153.out 3).trans rfl, (blk_cell BK153.out 4).trans rfl, (blk_cell BK153.out 5).trans rfl, ((HB.out.cell (World.block_lt_of_cell? w _ hw159_0)).trans hw159_0), ((HB.out.cell (World.block_lt_of_cell? w _ hw159_1)).trans hw159_1), ((HB.out.cell (World.block_lt_of_cell? w _ hw159_2)).trans hw159_2), ((HB.out.cell (World.block_lt_of_cell? w _ hw159_3)).trans hw159_3), ((HB.out.cell (World.block_lt_of_cell? w _ hw159_4)).trans hw159_4), ((HB.out.cell (World.block_lt_of_cell? w _ hw159_5)).trans hw159_5)⟩ (fun hHeld => ?_)
     clear hK K
     refine nm_ 33 ?_
     refine pv_ 55 17 34 262143 rfl rfl HT_ ?_; refine pv_ 55 18 35 524287 rfl rfl HT_ ?_; refine pv_ 55 19 36 1048575 rfl rfl HT_ ?_; refine pv_ 55 20 37 2097151 rfl rfl HT_ ?_; refine pv_ 55 22 39 6291455 rfl rfl HT_ ?_
     refine tv_ 55 21 38 8388607 rfl rfl HT_ HW_ hHeld (by rintro w' ⟨s0, s1, s2, s3, s4, s5, s6, s7, s8, s9, s10, s11⟩; go_simp; with_reducible rfl) ?_
     refine tv_ 55 23 40 16777215 rfl rfl HT_ HW_ hHeld (by rintro w' ⟨s0, s1, s2, s3, s4, s5, s6, s7, s8, s9, s10, s11⟩; go_simp; with_reducible rfl) ?_
     refine pv_ 55 24 41 33554431 rfl rfl HT_ ?_
     refine one_ (i := 25) (N := some 42) (bv 55 67108863) rfl rfl (one_of HT_.out (by kernel_rfl)) (by decide) (fun K hK => ?_)
     refine goes_ Try.func59 (by kernel_rfl) rfl #[.int .i64 ((rd_T61 l0 x3_1).f4), .int .i64 0, .int .i64 (((rd_T61 l0 x3_1).f5).length : Int)] (by rfl) rfl rfl (by (try simp only [List.map_toArray, List.map_cons, List.map_nil]); first | done | rfl | (simp only [List.length_drop, List.length_take]; rfl)) ?_
     with_reducible refine (spec_l1In.calls ((rd_T61 l0 x3_1).f4) 0 (((rd_T61 l0 x3_1).f5).length : Int) true _ A13.out).mono ?_
     rintro e w' ⟨rfl, ⟨nd, rfl⟩⟩
     refine ⟨_, rfl, ?_⟩
     refine hK.out _ _ ⟨(blk_cell BK153.out 0).trans rfl, (blk_cell BK153.out 1).trans rfl, (blk_cell BK153.out 2).trans rfl, (blk_cell BK153.out 3).trans rfl, (blk_cell BK153.out 4).trans rfl, (blk_cell BK153.out 5).trans rfl, ((HB.out.cell (World.block_lt_of_cell? w _ hw159_0)).trans hw159_0), ((HB.out.cell (World.block_lt_of_cell? w _ hw159_1)).trans hw159_1), ((HB.out.cell (World.block_lt_of_cell? w _ hw159_2)).trans hw159_2), ((HB.out.cell (World.block_lt_of_cell? w _ hw159_3)).trans hw159_3), ((HB.out.cell (World.block_lt_of_cell? w _ hw159_4)).trans hw159_4), ((HB.out.cell (World.block_lt_of_cell? w _ hw159_5)).trans hw159_5)⟩ (fun hHeld => ?_)
     clear hK K
     refine nm_ 42 ?_
     refine pv_ 55 26 43 134217727 rfl rfl HT_ ?_; refine pv_ 55 27 44 268435455 rfl rfl HT_ ?_; refine pv_ 55 28 45 536870911 rfl rfl HT_ ?_; refine pv_ 55 29 46 1073741823 rfl rfl HT_ ?_
     refine tv_ 55 30 47 2147483647 rfl rfl HT_ HW_ hHeld (by rintro w' ⟨s0, s1, s2, s3, s4, s5, s6, s7, s8, s9, s10, s11⟩; go_simp; with_reducible rfl) ?_
     refine one_ (i := 31) (N := some 48) (bv 55 4294967295) rfl rfl (one_of HT_.out (by kernel_rfl)) (by decide) (fun K hK => ?_)
     refine goes_ Try.func59 (by kernel_rfl) rfl #[.int .i64 ((rd_T61 l0 x3_1).f3), .int .i64 0, .int .i64 100000] (by rfl) rfl rfl (by (try simp only [List.map_toArray, List.map_cons, List.map_nil]); first | done | rfl | (simp only [List.length_drop, List.length_take]; rfl)) ?_
     with_reducible refine (spec_l1In.calls ((rd_T61 l0 x3_1).f3) 0 100000 true _ A15.out).mono ?_
     rintro e w' ⟨rfl, ⟨nd, rfl⟩⟩
     refine ⟨_, rfl, ?_⟩
     refine hK.out _ _ ⟨(blk_cell BK153.out 0).trans rfl, (blk_cell BK153.out 1).trans rfl, (blk_cell BK153.out 2).trans rfl, (blk_cell BK153.out 3).trans rfl, (blk_cell BK153.out 4).trans rfl, (blk_cell BK153.out 5).trans rfl, ((HB.out.cell (World.block_lt_of_cell? w _ hw159_0)).trans hw159_0), ((HB.out.cell (World.block_lt_of_cell? w _ hw159_1)).trans hw159_1), ((HB.out.cell (World.block_lt_of_cell? w _ hw159_2)).trans hw159_2), ((HB.out.cell (World.block_lt_of_cell? w _ hw159_3)).trans hw159_3), ((HB.out.cell (World.block_lt_of_cell? w _ hw159_4)).trans hw159_4), ((HB.out.cell (World.block_lt_of_cell? w _ hw159_5)).trans hw159_5)⟩ (fun hHeld => ?_)
     clear hK K
     refine nm_ 48 ?_
     refine pv_ 55 32 49 8589934591 rfl rfl HT_ ?_; refine pv_ 55 33 50 17179869183 rfl rfl HT_ ?_; refine pv_ 55 34 51 34359738367 rfl rfl HT_ ?_; refine pv_ 55 35 52 68719476735 rfl rfl HT_ ?_
     refine tv_ 55 36 53 137438953471 rfl rfl HT_ HW_ hHeld (by rintro w' ⟨s0, s1, s2, s3, s4, s5, s6, s7, s8, s9, s10, s11⟩; go_simp; with_reducible rfl) ?_
     refine pv_ 55 37 54 274877906943 rfl rfl HT_ ?_; refine pv_ 55 38 55 549755813887 rfl rfl HT_ ?_; refine pv_ 55 39 56 1099511627775 rfl rfl HT_ ?_; refine pv_ 55 40 57 2199023255551 rfl rfl HT_ ?_; refine pv_ 55 41 58 4398046511103 rfl rfl HT_ ?_; refine pv_ 55 42 59 8796093022207 rfl rfl HT_ ?_; refine pv_ 55 43 60 17592186044415 rfl rfl HT_ ?_; refine pv_ 55 44 61 35184372088831 rfl rfl HT_ ?_; refine pv_ 55 45 62 70368744177663 rfl rfl HT_ ?_; refine pv_ 55 46 63 140737488355327 rfl rfl HT_ ?_; refine pv_ 55 47 64 281474976710655 rfl rfl HT_ ?_; refine pv_ 55 48 65 562949953421311 rfl rfl HT_ ?_; refine pv_ 55 50 67 1688849860263935 rfl rfl HT_ ?_
     refine tv_ 55 49 66 2251799813685247 rfl rfl HT_ HW_ hHeld (by rintro w' ⟨s0, s1, s2, s3, s4, s5, s6, s7, s8, s9, s10, s11⟩; go_simp; with_reducible rfl) ?_
     refine tv_ 55 51 68 4503599627370495 rfl rfl HT_ HW_ hHeld (by rintro w' ⟨s0, s1, s2, s3, s4, s5, s6, s7, s8, s9, s10, s11⟩; go_simp; with_reducible rfl) ?_
     refine pv_ 55 52 69 9007199254740991 rfl rfl HT_ ?_; refine pv_ 55 53 70 18014398509481983 rfl rfl HT_ ?_; refine pv_ 55 54 71 36028797018963967 rfl rfl HT_ ?_
     refine done_ (done_of HT_.out (by kernel_rfl)) ?_
     try go_wp2
     go_meet
     case rel => exact ⟨_, (decide (((rd_T61 l0 (ji21)).f0) ≥ ((rd_T61 l0 x3_1).f0))), (by first | rfl | (simp; done) | (simp only [← hji21] <;> (first | rfl | simp)) | (simp [*]; done)), H', ⟨by have := HK1.out; first | omega | exact Nat.le_refl _⟩, ⟨by (with_reducible repeat (first | refine blk_drewN ?_ _ | refine blk_drew ?_ | refine blk_alloc ?_ _)); exact BK153.out⟩, ⟨by repeat (first | (with_reducible first | exact HB.out | apply below_alloc | apply pw_below_drewN | apply below_drew1 | refine below_set ?_ GE153.out) | exact HB.out)⟩⟩
    rw [if_pos c17] at H
    have c17b0 : decide (20 < (((rd_T61 l0 x3_1).f5).length : Int)) = true := decide_eq_true c17
    have c17b1 : decide (20 < ((rd_T61 l0 x3_1).f5).length) = true := decide_eq_true (by omega)
    clear c17
    (first | rw [c17b0] | (simp only [i64_w, i32_w]; rw [c17b0]) | skip)
    have H' := Aside0.mk H
    clear H
    try go_wp2
    have n0_ : Aside0 (((((((w5.setCell ⟨gb153, 0, none⟩ (.int .i64 ((rd_T61 l0 x3_1).f0))).setCell ⟨gb153, 1, none⟩ (.int .i64 ((rd_T61 l0 x3_1).f1))).setCell ⟨gb153, 2, none⟩ (.int .i64 ((rd_T61 l0 x3_1).f2))).setCell ⟨gb153, 3, none⟩ (.int .i64 ((rd_T61 l0 x3_1).f3))).setCell ⟨gb153, 4, none⟩ (.int .i64 ((rd_T61 l0 x3_1).f4))).setCell ⟨gb153, 5, none⟩ (.slice A152_5 ((rd_T61 l0 x3_1).f5).length c152_5)).heap[gb153]? = some (.cells #[.int .i64 ((rd_T61 l0 x3_1).f0), .int .i64 ((rd_T61 l0 x3_1).f1), .int .i64 ((rd_T61 l0 x3_1).f2), .int .i64 ((rd_T61 l0 x3_1).f3), .int .i64 ((rd_T61 l0 x3_1).f4), .slice A152_5 ((rd_T61 l0 x3_1).f5).length c152_5] 61 (0, 0))) := ⟨by (with_reducible repeat (first | refine blk_drewN ?_ _ | refine blk_drew ?_ | refine blk_alloc ?_ _)); refine blk_put (cs := #[.int .i64 ((rd_T61 l0 x3_1).f0), .int .i64 ((rd_T61 l0 x3_1).f1), .int .i64 ((rd_T61 l0 x3_1).f2), .int .i64 ((rd_T61 l0 x3_1).f3), .int .i64 ((rd_T61 l0 x3_1).f4), .slice none 0 0]) ?_ 5 _ rfl; (with_reducible repeat (first | refine blk_drewN ?_ _ | refine blk_drew ?_ | refine blk_alloc ?_ _)); refine blk_put (cs := #[.int .i64 ((rd_T61 l0 x3_1).f0), .int .i64 ((rd_T61 l0 x3_1).f1), .int .i64 ((rd_T61 l0 x3_1).f2), .int .i64 ((rd_T61 l0 x3_1).f3), .int .i64 0, .slice none 0 0]) ?_ 4 _ rfl; (with_reducible repeat (first | refine blk_drewN ?_ _ | refine blk_drew ?_ | refine blk_alloc ?_ _)); refine blk_put (cs := #[.int .i64 ((rd_T61 l0 x3_1).f0), .int .i64 ((rd_T61 l0 x3_1).f1), .int .i64 ((rd_T61 l0 x3_1).f2), .int .i64 0, .int .i64 0, .slice none 0 0]) ?_ 3 _ rfl; (with_reducible repeat (first | refine blk_drewN ?_ _ | refine blk_drew ?_ | refine blk_alloc ?_ _)); refine blk_put (cs := #[.int .i64 ((rd_T61 l0 x3_1).f0), .int .i64 ((rd_T61 l0 x3_1).f1), .int .i64 0, .int .i64 0, .int .i64 0, .slice none 0 0]) ?_ 2 _ rfl; (with_reducible repeat (first | refine blk_drewN ?_ _ | refine blk_drew ?_ | refine blk_alloc ?_ _)); refine blk_put (cs := #[.int .i64 ((rd_T61 l0 x3_1).f0), .int .i64 0, .int .i64 0, .int .i64 0, .int .i64 0, .slice none 0 0]) ?_ 1 _ rfl; (with_reducible repeat (first | refine blk_drewN ?_ _ | refine blk_drew ?_ | refine blk_alloc ?_ _)); refine blk_put (cs := #[.int .i64 0, .int .i64 0, .int .i64 0, .int .i64 0, .int .i64 0, .slice none 0 0]) ?_ 0 _ rfl; (with_reducible repeat (first | refine blk_drewN ?_ _ | refine blk_drew ?_ | refine blk_alloc ?_ _)); exact BK153.out⟩
    have n1_ : Aside0 (Below w.heap.size w ((((((w5.setCell ⟨gb153, 0, none⟩ (.int .i64 ((rd_T61 l0 x3_1).f0))).setCell ⟨gb153, 1, none⟩ (.int .i64 ((rd_T61 l0 x3_1).f1))).setCell ⟨gb153, 2, none⟩ (.int .i64 ((rd_T61 l0 x3_1).f2))).setCell ⟨gb153, 3, none⟩ (.int .i64 ((rd_T61 l0 x3_1).f3))).setCell ⟨gb153, 4, none⟩ (.int .i64 ((rd_T61 l0 x3_1).f4))).setCell ⟨gb153, 5, none⟩ (.slice A152_5 ((rd_T61 l0 x3_1).f5).length c152_5))) := ⟨by repeat (first | (with_reducible first | exact HB.out | apply below_alloc | apply pw_below_drewN | apply below_drew1 | refine below_set ?_ GE153.out) | exact HB.out)⟩
    (try clear BK153)
    (try clear HB)
    generalize ((((((w5.setCell ⟨gb153, 0, none⟩ (.int .i64 ((rd_T61 l0 x3_1).f0))).setCell ⟨gb153, 1, none⟩ (.int .i64 ((rd_T61 l0 x3_1).f1))).setCell ⟨gb153, 2, none⟩ (.int .i64 ((rd_T61 l0 x3_1).f2))).setCell ⟨gb153, 3, none⟩ (.int .i64 ((rd_T61 l0 x3_1).f3))).setCell ⟨gb153, 4, none⟩ (.int .i64 ((rd_T61 l0 x3_1).f4))).setCell ⟨gb153, 5, none⟩ (.slice A152_5 ((rd_T61 l0 x3_1).f5).length c152_5)) = w18 at n0_ n1_ ⊢
    have BK153 := n0_
    have HB := n1_
    clear n0_ n1_
    have n0_ := Aside0.mk (blk_drew BK153.out)
    have n1_ := Aside0.mk (below_drew1 HB.out)
    clear BK153
    clear HB
    have BK153 := n0_
    have HB := n1_
    clear n0_ n1_
    refine start_ (n := 55) (S := fun w' => w'.cell? ⟨gb153, 0, none⟩ = some (.int .i64 ((rd_T61 l0 x3_1).f0)) ∧ w'.cell? ⟨gb153, 1, none⟩ = some (.int .i64 ((rd_T61 l0 x3_1).f1)) ∧ w'.cell? ⟨gb153, 2, none⟩ = some (.int .i64 ((rd_T61 l0 x3_1).f2)) ∧ w'.cell? ⟨gb153, 3, none⟩ = some (.int .i64 ((rd_T61 l0 x3_1).f3)) ∧ w'.cell? ⟨gb153, 4, none⟩ = some (.int .i64 ((rd_T61 l0 x3_1).f4)) ∧ w'.cell? ⟨gb153, 5, none⟩ = some (.slice A152_5 ((rd_T61 l0 x3_1).f5).length c152_5)) (ds := []) (bv 55 0) (by kernel_rfl) rfl rfl ⟨(blk_cell BK153.out 0).trans rfl, (blk_cell BK153.out 1).trans rfl, (blk_cell BK153.out 2).trans rfl, (blk_cell BK153.out 3).trans rfl, (blk_cell BK153.out 4).trans rfl, (blk_cell BK153.out 5).trans rfl⟩ (fun hHeld => ?_); refine with_tabW spec_AreTeams.tab5 spec_AreTeams.bits5 (fun HT_ HW_ => ?_)
    generalize w18.drew = w19 at BK153 HB hHeld ⊢
    refine pv_ 55 0 17 1 rfl rfl HT_ ?_
    refine tv_ 55 1 18 3 rfl rfl HT_ HW_ hHeld (by rintro w' ⟨s0, s1, s2, s3, s4, s5⟩; go_simp; with_reducible rfl) ?_
    refine one_ (i := 2) (N := some 19) (bv 55 7) rfl rfl (one_of HT_.out (by kernel_rfl)) (by decide) (fun K hK => ?_)
    refine goes_ Try.func59 (by kernel_rfl) rfl #[.int .i64 ((rd_T61 l0 x3_1).f0), .int .i64 1, .int .i64 99] (by rfl) rfl rfl (by (try simp only [List.map_toArray, List.map_cons, List.map_nil]); first | done | rfl | (simp only [List.length_drop, List.length_take]; rfl)) ?_
    with_reducible refine (spec_l1In.calls ((rd_T61 l0 x3_1).f0) 1 99 true _ A7.out).mono ?_
    rintro e w' ⟨rfl, ⟨nd, rfl⟩⟩
    refine ⟨_, rfl, ?_⟩
    refine hK.out _ _ ⟨(blk_cell BK153.out 0).trans rfl, (blk_cell BK153.out 1).trans rfl, (blk_cell BK153.out 2).trans rfl, (blk_cell BK153.out 3).trans rfl, (blk_cell BK153.out 4).trans rfl, (blk_cell BK153.out 5).trans rfl⟩ (fun hHeld => ?_)
    clear hK K
    refine nm_ 19 ?_
    refine pv_ 55 3 20 15 rfl rfl HT_ ?_; refine pv_ 55 4 21 31 rfl rfl HT_ ?_; refine pv_ 55 5 22 63 rfl rfl HT_ ?_
    refine tv_ 55 6 23 127 rfl rfl HT_ HW_ hHeld (by rintro w' ⟨s0, s1, s2, s3, s4, s5⟩; go_simp; with_reducible rfl) ?_
    refine one_ (i := 7) (N := some 24) (bv 55 255) rfl rfl (one_of HT_.out (by kernel_rfl)) (by decide) (fun K hK => ?_)
    refine goes_ Try.func59 (by kernel_rfl) rfl #[.int .i64 ((rd_T61 l0 x3_1).f1), .int .i64 1, .int .i64 99] (by rfl) rfl rfl (by (try simp only [List.map_toArray, List.map_cons, List.map_nil]); first | done | rfl | (simp only [List.length_drop, List.length_take]; rfl)) ?_
    with_reducible refine (spec_l1In.calls ((rd_T61 l0 x3_1).f1) 1 99 true _ A9.out).mono ?_
    rintro e w' ⟨rfl, ⟨nd, rfl⟩⟩
    refine ⟨_, rfl, ?_⟩
    refine hK.out _ _ ⟨(blk_cell BK153.out 0).trans rfl, (blk_cell BK153.out 1).trans rfl, (blk_cell BK153.out 2).trans rfl, (blk_cell BK153.out 3).trans rfl, (blk_cell BK153.out 4).trans rfl, (blk_cell BK153.out 5).trans rfl⟩ (fun hHeld => ?_)
    clear hK K
    refine nm_ 24 ?_
    refine pv_ 55 8 25 511 rfl rfl HT_ ?_; refine pv_ 55 9 26 1023 rfl rfl HT_ ?_; refine pv_ 55 10 27 2047 rfl rfl HT_ ?_; refine pv_ 55 11 28 4095 rfl rfl HT_ ?_; refine pv_ 55 13 30 12287 rfl rfl HT_ ?_
    refine tv_ 55 12 29 16383 rfl rfl HT_ HW_ hHeld (by rintro w' ⟨s0, s1, s2, s3, s4, s5⟩; go_simp; with_reducible rfl) ?_
    refine tv_ 55 14 31 32767 rfl rfl HT_ HW_ hHeld (by rintro w' ⟨s0, s1, s2, s3, s4, s5⟩; go_simp; with_reducible rfl) ?_
    refine pv_ 55 15 32 65535 rfl rfl HT_ ?_
    refine one_ (i := 16) (N := some 33) (bv 55 131071) rfl rfl (one_of HT_.out (by kernel_rfl)) (by decide) (fun K hK => ?_)
    refine goes_ Try.func59 (by kernel_rfl) rfl #[.int .i64 ((rd_T61 l0 x3_1).f2), .int .i64 0, .int .i64 (((rd_T61 l0 x3_1).f5).length : Int)] (by rfl) rfl rfl (by (try simp only [List.map_toArray, List.map_cons, List.map_nil]); first | done | rfl | (simp only [List.length_drop, List.length_take]; rfl)) ?_
    with_reducible refine (spec_l1In.calls ((rd_T61 l0 x3_1).f2) 0 (((rd_T61 l0 x3_1).f5).length : Int) true _ A11.out).mono ?_
    rintro e w' ⟨rfl, ⟨nd, rfl⟩⟩
    refine ⟨_, rfl, ?_⟩
    refine hK.out _ _ ⟨(blk_cell BK153.out 0).trans rfl, (blk_cell BK153.out 1).trans rfl, (blk_cell BK153.out 2).trans rfl, (blk_cell BK153.out 3).trans rfl, (blk_cell BK153.out 4).trans rfl, (blk_cell BK153.out 5).trans rfl⟩ (fun hHeld => ?_)
    clear hK K
    refine nm_ 33 ?_
    refine pv_ 55 17 34 262143 rfl rfl HT_ ?_; refine pv_ 55 18 35 524287 rfl rfl HT_ ?_; refine pv_ 55 19 36 1048575 rfl rfl HT_ ?_; refine pv_ 55 20 37 2097151 rfl rfl HT_ ?_; refine pv_ 55 22 39 6291455 rfl rfl HT_ ?_
    refine tv_ 55 21 38 8388607 rfl rfl HT_ HW_ hHeld (by rintro w' ⟨s0, s1, s2, s3, s4, s5⟩; go_simp; with_reducible rfl) ?_
    refine tv_ 55 23 40 16777215 rfl rfl HT_ HW_ hHeld (by rintro w' ⟨s0, s1, s2, s3, s4, s5⟩; go_simp; with_reducible rfl) ?_
    refine pv_ 55 24 41 33554431 rfl rfl HT_ ?_
    refine one_ (i := 25) (N := some 42) (bv 55 67108863) rfl rfl (one_of HT_.out (by kernel_rfl)) (by decide) (fun K hK => ?_)
    refine goes_ Try.func59 (by kernel_rfl) rfl #[.int .i64 ((rd_T61 l0 x3_1).f4), .int .i64 0, .int .i64 (((rd_T61 l0 x3_1).f5).length : Int)] (by rfl) rfl rfl (by (try simp only [List.map_toArray, List.map_cons, List.map_nil]); first | done | rfl | (simp only [List.length_drop, List.length_take]; rfl)) ?_
    with_reducible refine (spec_l1In.calls ((rd_T61 l0 x3_1).f4) 0 (((rd_T61 l0 x3_1).f5).length : Int) true _ A13.out).mono ?_
    rintro e w' ⟨rfl, ⟨nd, rfl⟩⟩
    refine ⟨_, rfl, ?_⟩
    refine hK.out _ _ ⟨(blk_cell BK153.out 0).trans rfl, (blk_cell BK153.out 1).trans rfl, (blk_cell BK153.out 2).trans rfl, (blk_cell BK153.out 3).trans rfl, (blk_cell BK153.out 4).trans rfl, (blk_cell BK153.out 5).trans rfl⟩ (fun hHeld => ?_)
    clear hK K
    refine nm_ 42 ?_
    refine pv_ 55 26 43 134217727 rfl rfl HT_ ?_; refine pv_ 55 27 44 268435455 rfl rfl HT_ ?_; refine pv_ 55 28 45 536870911 rfl rfl HT_ ?_; refine pv_ 55 29 46 1073741823 rfl rfl HT_ ?_
    refine tv_ 55 30 47 2147483647 rfl rfl HT_ HW_ hHeld (by rintro w' ⟨s0, s1, s2, s3, s4, s5⟩; go_simp; with_reducible rfl) ?_
    refine one_ (i := 31) (N := some 48) (bv 55 4294967295) rfl rfl (one_of HT_.out (by kernel_rfl)) (by decide) (fun K hK => ?_)
    refine goes_ Try.func59 (by kernel_rfl) rfl #[.int .i64 ((rd_T61 l0 x3_1).f3), .int .i64 0, .int .i64 100000] (by rfl) rfl rfl (by (try simp only [List.map_toArray, List.map_cons, List.map_nil]); first | done | rfl | (simp only [List.length_drop, List.length_take]; rfl)) ?_
    with_reducible refine (spec_l1In.calls ((rd_T61 l0 x3_1).f3) 0 100000 true _ A15.out).mono ?_
    rintro e w' ⟨rfl, ⟨nd, rfl⟩⟩
    refine ⟨_, rfl, ?_⟩
    refine hK.out _ _ ⟨(blk_cell BK153.out 0).trans rfl, (blk_cell BK153.out 1).trans rfl, (blk_cell BK153.out 2).trans rfl, (blk_cell BK153.out 3).trans rfl, (blk_cell BK153.out 4).trans rfl, (blk_cell BK153.out 5).trans rfl⟩ (fun hHeld => ?_)
    clear hK K
    refine nm_ 48 ?_
    refine pv_ 55 32 49 8589934591 rfl rfl HT_ ?_; refine pv_ 55 33 50 17179869183 rfl rfl HT_ ?_; refine pv_ 55 34 51 34359738367 rfl rfl HT_ ?_; refine pv_ 55 35 52 68719476735 rfl rfl HT_ ?_
    refine tv_ 55 36 53 137438953471 rfl rfl HT_ HW_ hHeld (by rintro w' ⟨s0, s1, s2, s3, s4, s5⟩; go_simp; with_reducible rfl) ?_
    refine pv_ 55 37 54 274877906943 rfl rfl HT_ ?_; refine pv_ 55 38 55 549755813887 rfl rfl HT_ ?_; refine pv_ 55 39 56 1099511627775 rfl rfl HT_ ?_; refine pv_ 55 40 57 2199023255551 rfl rfl HT_ ?_; refine pu_ 55 41 58 4398046511103 rfl rfl HT_ ?_; refine pu_ 55 42 59 8796093022207 rfl rfl HT_ ?_; refine pu_ 55 43 60 17592186044415 rfl rfl HT_ ?_; refine pu_ 55 44 61 35184372088831 rfl rfl HT_ ?_; refine pu_ 55 45 62 70368744177663 rfl rfl HT_ ?_; refine pu_ 55 46 63 140737488355327 rfl rfl HT_ ?_; refine pu_ 55 47 64 281474976710655 rfl rfl HT_ ?_; refine pu_ 55 48 65 562949953421311 rfl rfl HT_ ?_; refine pu_ 55 49 66 1125899906842623 rfl rfl HT_ ?_; refine pu_ 55 50 67 2251799813685247 rfl rfl HT_ ?_; refine pu_ 55 51 68 4503599627370495 rfl rfl HT_ ?_; refine pu_ 55 52 69 9007199254740991 rfl rfl HT_ ?_; refine pu_ 55 53 70 18014398509481983 rfl rfl HT_ ?_; refine pv_ 55 54 71 36028797018963967 rfl rfl HT_ ?_
    refine done_ (done_of HT_.out (by kernel_rfl)) ?_
    try go_wp2
    go_meet
    case rel => exact ⟨_, (true), (by first | rfl | (simp; done) | (simp [*]; done)), H', ⟨by have := HK1.out; first | omega | exact Nat.le_refl _⟩, ⟨by (with_reducible repeat (first | refine blk_drewN ?_ _ | refine blk_drew ?_ | refine blk_alloc ?_ _)); exact BK153.out⟩, ⟨by repeat (first | (with_reducible first | exact HB.out | apply below_alloc | apply pw_below_drewN | apply below_drew1 | refine below_set ?_ GE153.out) | exact HB.out)⟩⟩
   case rest =>
    clear HC4
    try clear c1
    try clear p2
    try clear c5
    try clear c8
    try clear c15
    obtain ⟨kq, x71_3, rfl, HA, HJ3, BK153, HB⟩ := hcut
    cases kq with
    | zero => exact absurd HA.out (by simp [spec_AreTeams.j1])
    | succ kj3 =>
     have H := HA.out
     clear HA
     simp only [spec_AreTeams.j1] at H
     by_cases c38 : x71_3 = true
     rotate_left
     ·
      replace c38 := Bool.eq_false_iff.mpr c38
      subst c38
      have H1 : (spec_AreTeams.l1 kj3 l0 x3_1 0 ((rd_T61 l0 x3_1).f0) ((rd_T61 l0 x3_1).f1) ((rd_T61 l0 x3_1).f2) ((rd_T61 l0 x3_1).f3) ((rd_T61 l0 x3_1).f4) ((rd_T61 l0 x3_1).f5)) = some r := by rw [if_neg (show ¬ (false = true) by decide)] at H; exact H
      clear H
      have H := H1
      clear H1
      have H' := Aside0.mk H
      clear H
      go_wp2
      go_loopg [5] kj3 (fun kq v5 w' => ∃ (x5_3 : Int), v5 = .int .i64 x5_3 ∧ Aside0 (spec_AreTeams.l1 kq l0 x3_1 x5_3 ((rd_T61 l0 x3_1).f0) ((rd_T61 l0 x3_1).f1) ((rd_T61 l0 x3_1).f2) ((rd_T61 l0 x3_1).f3) ((rd_T61 l0 x3_1).f4) ((rd_T61 l0 x3_1).f5) = some r) ∧ Aside0 (kq ≤ kj3) ∧ Aside0 (w'.heap[gb153]? = some (.cells #[.int .i64 ((rd_T61 l0 x3_1).f0), .int .i64 ((rd_T61 l0 x3_1).f1), .int .i64 ((rd_T61 l0 x3_1).f2), .int .i64 ((rd_T61 l0 x3_1).f3), .int .i64 ((rd_T61 l0 x3_1).f4), (.slice A152_5 ((rd_T61 l0 x3_1).f5).length c152_5)] 61 (0, 0))) ∧ Aside0 (Below w.heap.size w w'))
      case atStart => exact ⟨(0), (by first | rfl | (simp; done) | (simp [*]; done)), H', ⟨Nat.le_refl _⟩, ⟨by (with_reducible repeat (first | refine blk_drewN ?_ _ | refine blk_drew ?_ | refine blk_alloc ?_ _)); exact BK153.out⟩, ⟨by repeat (first | (with_reducible first | exact HB.out | apply below_alloc | apply pw_below_drewN | apply below_drew1 | refine below_set ?_ GE153.out) | exact HB.out)⟩⟩
      case round =>
       clear H'
       try clear c1
       try clear p2
       try clear c3
       try clear c5
       try clear c8
       try clear c15
       try clear c38
       try clear p2
       obtain ⟨x5_3, rfl, HA, HK3, BK153, HB⟩ := hrel
       cases gk with
       | zero => exact absurd HA.out (by simp [spec_AreTeams.l1])
       | succ k3 =>
        have H := HA.out
        clear HA
        simp only [spec_AreTeams.l1] at H
        by_cases c39 : x5_3 < (((rd_T61 l0 x3_1).f5).length : Int)
        rotate_left
        ·
         rw [if_neg c39] at H
         have c39b0 : decide (x5_3 < (((rd_T61 l0 x3_1).f5).length : Int)) = false := decide_eq_false c39
         clear c39
         have H' := Aside0.mk H
         clear H
         have hcz57_0 : wr.cell? ⟨gb153, 0, none⟩ = some (.int .i64 ((rd_T61 l0 x3_1).f0)) := (blk_cell BK153.out 0).trans rfl
         have hcz57_1 : wr.cell? ⟨gb153, 1, none⟩ = some (.int .i64 ((rd_T61 l0 x3_1).f1)) := (blk_cell BK153.out 1).trans rfl
         have hcz57_2 : wr.cell? ⟨gb153, 2, none⟩ = some (.int .i64 ((rd_T61 l0 x3_1).f2)) := (blk_cell BK153.out 2).trans rfl
         have hcz57_3 : wr.cell? ⟨gb153, 3, none⟩ = some (.int .i64 ((rd_T61 l0 x3_1).f3)) := (blk_cell BK153.out 3).trans rfl
         have hcz57_4 : wr.cell? ⟨gb153, 4, none⟩ = some (.int .i64 ((rd_T61 l0 x3_1).f4)) := (blk_cell BK153.out 4).trans rfl
         have hcz57_5 : wr.cell? ⟨gb153, 5, none⟩ = some (.slice A152_5 ((rd_T61 l0 x3_1).f5).length c152_5) := (blk_cell BK153.out 5).trans rfl
         have hfz57_0 := blk_frozen BK153.out 0
         have hfz57_1 := blk_frozen BK153.out 1
         have hfz57_2 := blk_frozen BK153.out 2
         have hfz57_3 := blk_frozen BK153.out 3
         have hfz57_4 := blk_frozen BK153.out 4
         have hfz57_5 := blk_frozen BK153.out 5
         go_wp2
         go_roundg k3
         case measure => have := HK1.out; have := HJ3.out; have := HK3.out; omega
         case rel => exact ⟨(wrap64 (x3_1 + 1)), (by first | rfl | (simp; done) | (simp [*]; done)), H', ⟨by have := HK1.out; have := HJ3.out; have := HK3.out; omega⟩, ⟨by repeat (first | (with_reducible first | exact HB.out | apply below_alloc | apply pw_below_drewN | apply below_drew1 | refine below_set ?_ GE153.out) | exact HB.out)⟩⟩
        rw [if_pos c39] at H
        have c39b0 : decide (x5_3 < (((rd_T61 l0 x3_1).f5).length : Int)) = true := decide_eq_true c39
        clear c39
        by_cases c40 : 0 ≤ x5_3
        rotate_left
        ·
         rw [if_neg c40] at H
         exact absurd H (by simp)
        rw [if_pos c40] at H
        have c40b0 : decide (0 ≤ x5_3) = true := decide_eq_true c40
        clear c40
        replace H := Option.bind_eq_some_iff.mp H
        obtain ⟨t161, A410, H⟩ := H
        replace H : (if t161 < 0 then (some false) else (if t161 = x3_1 then (some false) else (if 0 ≤ t161 then (if t161 < (l0.length : Int) then ((spec_l19Count.f k3 ((rd_T61 l0 t161).f5) ((rd_T61 l0 x3_1).f0)).bind fun t163 => ((spec_l19Count.f k3 ((rd_T61 l0 x3_1).f5) ((rd_T61 l0 t161).f0)).bind fun t165 => (if t163 = t165 then (spec_AreTeams.l1 k3 l0 x3_1 (wrap64 (x5_3 + 1)) ((rd_T61 l0 x3_1).f0) ((rd_T61 l0 x3_1).f1) ((rd_T61 l0 x3_1).f2) ((rd_T61 l0 x3_1).f3) ((rd_T61 l0 x3_1).f4) ((rd_T61 l0 x3_1).f5)) else (some false)))) else (none)) else (none)))) = some r := H
        have A41 := Aside0.mk A410
        clear A410
        by_cases c42 : t161 < 0
        rotate_left
        ·
         rw [if_neg c42] at H
         have c42b0 : decide (t161 < 0) = false := decide_eq_false c42
         clear c42
         by_cases c45 : t161 = x3_1
         rotate_left
         ·
          rw [if_neg c45] at H
          have c45b0 : (t161 == x3_1) = false := beq_eq_false_iff_ne.mpr c45
          have c45b1 : (t161 != x3_1) = true := bne_iff_ne.mpr c45
          by_cases c48 : 0 ≤ t161
          rotate_left
          ·
           rw [if_neg c48] at H
           exact absurd H (by simp)
          rw [if_pos c48] at H
          have c48b0 : decide (0 ≤ t161) = true := decide_eq_true c48
          clear c48
          by_cases c49 : t161 < (l0.length : Int)
          rotate_left
          ·
           rw [if_neg c49] at H
           exact absurd H (by simp)
          rw [if_pos c49] at H
          have c49b0 : decide (t161 < (l0.length : Int)) = true := decide_eq_true c49
          clear c49
          replace H := Option.bind_eq_some_iff.mp H
          obtain ⟨t163, A500, H⟩ := H
          replace H : ((spec_l19Count.f k3 ((rd_T61 l0 x3_1).f5) ((rd_T61 l0 t161).f0)).bind fun t165 => (if t163 = t165 then (spec_AreTeams.l1 k3 l0 x3_1 (wrap64 (x5_3 + 1)) ((rd_T61 l0 x3_1).f0) ((rd_T61 l0 x3_1).f1) ((rd_T61 l0 x3_1).f2) ((rd_T61 l0 x3_1).f3) ((rd_T61 l0 x3_1).f4) ((rd_T61 l0 x3_1).f5)) else (some false))) = some r := H
          have A50 := Aside0.mk A500
          clear A500
          replace H := Option.bind_eq_some_iff.mp H
          obtain ⟨t165, A510, H⟩ := H
          replace H : (if t163 = t165 then (spec_AreTeams.l1 k3 l0 x3_1 (wrap64 (x5_3 + 1)) ((rd_T61 l0 x3_1).f0) ((rd_T61 l0 x3_1).f1) ((rd_T61 l0 x3_1).f2) ((rd_T61 l0 x3_1).f3) ((rd_T61 l0 x3_1).f4) ((rd_T61 l0 x3_1).f5)) else (some false)) = some r := H
          have A51 := Aside0.mk A510
          clear A510
          by_cases c52 : t163 = t165
          rotate_left
          ·
           rw [if_neg c52] at H
           have c52b0 : (t163 == t165) = false := beq_eq_false_iff_ne.mpr c52
           have c52b1 : (t163 != t165) = true := bne_iff_ne.mpr c52
           obtain rfl := Option.some.inj H
           have hcz55_0 : wr.cell? ⟨gb153, 0, none⟩ = some (.int .i64 ((rd_T61 l0 x3_1).f0)) := (blk_cell BK153.out 0).trans rfl
           have hcz55_1 : wr.cell? ⟨gb153, 1, none⟩ = some (.int .i64 ((rd_T61 l0 x3_1).f1)) := (blk_cell BK153.out 1).trans rfl
           have hcz55_2 : wr.cell? ⟨gb153, 2, none⟩ = some (.int .i64 ((rd_T61 l0 x3_1).f2)) := (blk_cell BK153.out 2).trans rfl
           have hcz55_3 : wr.cell? ⟨gb153, 3, none⟩ = some (.int .i64 ((rd_T61 l0 x3_1).f3)) := (blk_cell BK153.out 3).trans rfl
           have hcz55_4 : wr.cell? ⟨gb153, 4, none⟩ = some (.int .i64 ((rd_T61 l0 x3_1).f4)) := (blk_cell BK153.out 4).trans rfl
           have hcz55_5 : wr.cell? ⟨gb153, 5, none⟩ = some (.slice A152_5 ((rd_T61 l0 x3_1).f5).length c152_5) := (blk_cell BK153.out 5).trans rfl
           have hfz55_0 := blk_frozen BK153.out 0
           have hfz55_1 := blk_frozen BK153.out 1
           have hfz55_2 := blk_frozen BK153.out 2
           have hfz55_3 := blk_frozen BK153.out 3
           have hfz55_4 := blk_frozen BK153.out 4
           have hfz55_5 := blk_frozen BK153.out 5
           have p160 : 0 ≤ (x5_3 : Int) := of_decide_eq_true (by first | (with_reducible assumption) | assumption)
           have q160 : x5_3 < (((rd_T61 l0 x3_1).f5).length : Int) := of_decide_eq_true (by first | (with_reducible assumption) | assumption)
           obtain ⟨ad160, e160, hx160_0⟩ := Kd.at_int HR152_5.out x5_3 p160 q160
           cases e160
           replace hx160_0 := (HB.out.cell (World.block_lt_of_cell? w _ hx160_0)).trans hx160_0
           replace p160 := eq_true p160
           replace q160 := eq_true q160
           try go_wp2_with (first | ((with_reducible refine gate_callee (f := 16) rfl ?_); refine goesL_ (some 85) rfl rfl Try.func16 (by kernel_rfl) rfl #[.slice (some ad152) l0.length c0, .int .i64 (rd ((rd_T61 l0 x3_1).f5) x5_3)] rfl (by (try simp only [List.map_toArray, List.map_cons, List.map_nil]); first | done | rfl | (simp only [List.length_drop, List.length_take]; rfl)) ?_; (with_reducible refine (spec_FindTeam.calls k3 _ _ l0 (rd ((rd_T61 l0 x3_1).f5) x5_3) t161 _ ?side1 ?side2 A41.out).mono ?_); (case side1 => repeat (first | exact (Kd.C_below HR0.out HB.out) | (with_reducible refine Kd.C_alloc ?_ _) | (with_reducible refine Kd.C_drewN ?_ _) | (with_reducible refine Kd.C_drew ?_))); (case side2 => exact HC0.out); rintro e w' ⟨rfl, ⟨nd, rfl⟩⟩; refine ⟨_, rfl, ?_⟩))
           (try (rw [drewN_self wr]; generalize hq_ : World.drewN wr _ = wr; have n0_ : Aside0 (wr.heap[gb153]? = some (.cells #[.int .i64 ((rd_T61 l0 x3_1).f0), .int .i64 ((rd_T61 l0 x3_1).f1), .int .i64 ((rd_T61 l0 x3_1).f2), .int .i64 ((rd_T61 l0 x3_1).f3), .int .i64 ((rd_T61 l0 x3_1).f4), .slice (some ad160) ((rd_T61 l0 x3_1).f5).length c152_5] 61 (0, 0))) := ⟨by rw [← hq_]; exact (by (with_reducible repeat (first | refine blk_drewN ?_ _ | refine blk_drew ?_ | refine blk_alloc ?_ _)); exact BK153.out)⟩; have n1_ : Aside0 (Below w.heap.size w wr) := ⟨by rw [← hq_]; exact (by repeat (first | (with_reducible first | exact HB.out | apply below_alloc | apply pw_below_drewN | apply below_drew1 | refine below_set ?_ GE153.out) | exact HB.out))⟩; clear BK153 HB hq_; have BK153 := n0_; have HB := n1_; clear n0_ n1_))
           have n0_ := Aside0.mk (blk_drew BK153.out)
           have n1_ := Aside0.mk (below_drew1 HB.out)
           clear BK153
           clear HB
           have BK153 := n0_
           have HB := n1_
           clear n0_ n1_
           have p162 : 0 ≤ (t161 : Int) := of_decide_eq_true (by first | (with_reducible assumption) | assumption)
           have q162 : t161 < (l0.length : Int) := of_decide_eq_true (by first | (with_reducible assumption) | assumption)
           obtain ⟨ad162, A162_5, c162_5, e162, hx162_0, hx162_1, hx162_2, hx162_3, hx162_4, hx162_5, hl162_5, hi162_5⟩ := at_T61 HR0.out t161 p162 q162
           have hw162_5 := hx162_5
           have hw162_4 := hx162_4
           have hw162_3 := hx162_3
           have hw162_2 := hx162_2
           have hw162_1 := hx162_1
           have hw162_0 := hx162_0
           obtain rfl : ad152 = ad162 := (by injection e162)
           replace hx162_0 := (HB.out.cell (World.block_lt_of_cell? w _ hx162_0)).trans hx162_0
           replace hx162_1 := (HB.out.cell (World.block_lt_of_cell? w _ hx162_1)).trans hx162_1
           replace hx162_2 := (HB.out.cell (World.block_lt_of_cell? w _ hx162_2)).trans hx162_2
           replace hx162_3 := (HB.out.cell (World.block_lt_of_cell? w _ hx162_3)).trans hx162_3
           replace hx162_4 := (HB.out.cell (World.block_lt_of_cell? w _ hx162_4)).trans hx162_4
           replace hx162_5 := (HB.out.cell (World.block_lt_of_cell? w _ hx162_5)).trans hx162_5
           have HR162_5 := Aside0.mk hi162_5
           have HC162_5 := Aside0.mk hl162_5
           clear hi162_5 hl162_5
           replace p162 := eq_true p162
           replace q162 := eq_true q162
           have p164 : 0 ≤ (t161 : Int) := of_decide_eq_true (by first | (with_reducible assumption) | assumption)
           have q164 : t161 < (l0.length : Int) := of_decide_eq_true (by first | (with_reducible assumption) | assumption)
           obtain ⟨ad164, A164_5, c164_5, e164, hx164_0, hx164_1, hx164_2, hx164_3, hx164_4, hx164_5, hl164_5, hi164_5⟩ := at_T61 HR0.out t161 p164 q164
           have hw164_5 := hx164_5
           have hw164_4 := hx164_4
           have hw164_3 := hx164_3
           have hw164_2 := hx164_2
           have hw164_1 := hx164_1
           have hw164_0 := hx164_0
           obtain rfl : ad152 = ad164 := (by injection e164)
           replace hx164_0 := (HB.out.cell (World.block_lt_of_cell? w _ hx164_0)).trans hx164_0
           replace hx164_1 := (HB.out.cell (World.block_lt_of_cell? w _ hx164_1)).trans hx164_1
           replace hx164_2 := (HB.out.cell (World.block_lt_of_cell? w _ hx164_2)).trans hx164_2
           replace hx164_3 := (HB.out.cell (World.block_lt_of_cell? w _ hx164_3)).trans hx164_3
           replace hx164_4 := (HB.out.cell (World.block_lt_of_cell? w _ hx164_4)).trans hx164_4
           replace hx164_5 := (HB.out.cell (World.block_lt_of_cell? w _ hx164_5)).trans hx164_5
           have HR164_5 := Aside0.mk hi164_5
           have HC164_5 := Aside0.mk hl164_5
           clear hi164_5 hl164_5
           replace p164 := eq_true p164
           replace q164 := eq_true q164
           have ea_ := Option.some.inj (hx162_5.symm.trans hx164_5)
           injection ea_ with ea_ en_ ec_
           subst ea_
           subst ec_
           clear en_
           refine start_ (n := 26) (S := fun w' => w'.cell? ⟨gb153, 0, none⟩ = some (.int .i64 ((rd_T61 l0 x3_1).f0)) ∧ w'.cell? ⟨gb153, 1, none⟩ = some (.int .i64 ((rd_T61 l0 x3_1).f1)) ∧ w'.cell? ⟨gb153, 2, none⟩ = some (.int .i64 ((rd_T61 l0 x3_1).f2)) ∧ w'.cell? ⟨gb153, 3, none⟩ = some (.int .i64 ((rd_T61 l0 x3_1).f3)) ∧ w'.cell? ⟨gb153, 4, none⟩ = some (.int .i64 ((rd_T61 l0 x3_1).f4)) ∧ w'.cell? ⟨gb153, 5, none⟩ = some (.slice (some ad160) ((rd_T61 l0 x3_1).f5).length c152_5) ∧ w'.cell? (ad152.add ((t161).toNat * 6)) = some (.int .i64 ((rd_T61 l0 t161).f0)) ∧ w'.cell? ⟨(ad152.add ((t161).toNat * 6)).block, (ad152.add ((t161).toNat * 6)).off + 1, none⟩ = some (.int .i64 ((rd_T61 l0 t161).f1)) ∧ w'.cell? ⟨(ad152.add ((t161).toNat * 6)).block, (ad152.add ((t161).toNat * 6)).off + 2, none⟩ = some (.int .i64 ((rd_T61 l0 t161).f2)) ∧ w'.cell? ⟨(ad152.add ((t161).toNat * 6)).block, (ad152.add ((t161).toNat * 6)).off + 3, none⟩ = some (.int .i64 ((rd_T61 l0 t161).f3)) ∧ w'.cell? ⟨(ad152.add ((t161).toNat * 6)).block, (ad152.add ((t161).toNat * 6)).off + 4, none⟩ = some (.int .i64 ((rd_T61 l0 t161).f4)) ∧ w'.cell? ⟨(ad152.add ((t161).toNat * 6)).block, (ad152.add ((t161).toNat * 6)).off + 5, none⟩ = some (.slice A162_5 ((rd_T61 l0 t161).f5).length c162_5) ∧ w'.cell? (ad152.add ((t161).toNat * 6)) = some (.int .i64 ((rd_T61 l0 t161).f0)) ∧ w'.cell? ⟨(ad152.add ((t161).toNat * 6)).block, (ad152.add ((t161).toNat * 6)).off + 1, none⟩ = some (.int .i64 ((rd_T61 l0 t161).f1)) ∧ w'.cell? ⟨(ad152.add ((t161).toNat * 6)).block, (ad152.add ((t161).toNat * 6)).off + 2, none⟩ = some (.int .i64 ((rd_T61 l0 t161).f2)) ∧ w'.cell? ⟨(ad152.add ((t161).toNat * 6)).block, (ad152.add ((t161).toNat * 6)).off + 3, none⟩ = some (.int .i64 ((rd_T61 l0 t161).f3)) ∧ w'.cell? ⟨(ad152.add ((t161).toNat * 6)).block, (ad152.add ((t161).toNat * 6)).off + 4, none⟩ = some (.int .i64 ((rd_T61 l0 t161).f4)) ∧ w'.cell? ⟨(ad152.add ((t161).toNat * 6)).block, (ad152.add ((t161).toNat * 6)).off + 5, none⟩ = some (.slice A162_5 ((rd_T61 l0 t161).f5).length c162_5)) (ds := []) (bv 26 0) (by kernel_rfl) rfl rfl ⟨(blk_cell BK153.out 0).trans rfl, (blk_cell BK153.out 1).trans rfl, (blk_cell BK153.out 2).trans rfl, (blk_cell BK153.out 3).trans rfl, (blk_cell BK153.out 4).trans rfl, (blk_cell BK153.out 5).trans rfl, ((HB.out.cell (World.block_lt_of_cell? w _ hw162_0)).trans hw162_0), ((HB.out.cell (World.block_lt_of_cell? w _ hw162_1)).trans hw162_1), ((HB.out.cell (World.block_lt_of_cell? w _ hw162_2)).trans hw162_2), ((HB.out.cell (World.block_lt_of_cell? w _ hw162_3)).trans hw162_3), ((HB.out.cell (World.block_lt_of_cell? w _ hw162_4)).trans hw162_4), ((HB.out.cell (World.block_lt_of_cell? w _ hw162_5)).trans hw162_5), ((HB.out.cell (World.block_lt_of_cell? w _ hw164_0)).trans hw164_0), ((HB.out.cell (World.block_lt_of_cell? w _ hw164_1)).trans hw164_1), ((HB.out.cell (World.block_lt_of_cell? w _ hw164_2)).trans hw164_2), ((HB.out.cell (World.block_lt_of_cell? w _ hw164_3)).trans hw164_3), ((HB.out.cell (World.block_lt_of_cell? w _ hw164_4)).trans hw164_4), ((HB.out.cell (World.block_lt_of_cell? w _ hw164_5)).trans hw164_5)⟩ (fun hHeld => ?_); refine with_tabW spec_AreTeams.tab11 spec_AreTeams.bits11 (fun HT_ HW_ => ?_)
           generalize wr.drew = w56 at BK153 HB HR162_5 HR164_5 hx162_0 hx162_1 hx162_2 hx162_3 hx162_4 hx162_5 hx164_0 hx164_1 hx164_2 hx164_3 hx164_4 hx164_5 hHeld ⊢
           refine pv_ 26 0 86 1 rfl rfl HT_ ?_; refine pv_ 26 1 87 3 rfl rfl HT_ ?_; refine pv_ 26 2 88 7 rfl rfl HT_ ?_; refine pv_ 26 3 89 15 rfl rfl HT_ ?_; refine pv_ 26 4 90 31 rfl rfl HT_ ?_; refine pv_ 26 5 91 63 rfl rfl HT_ ?_; refine pv_ 26 6 92 127 rfl rfl HT_ ?_; refine pv_ 26 7 93 255 rfl rfl HT_ ?_; refine pv_ 26 8 94 511 rfl rfl HT_ ?_; refine pv_ 26 9 95 1023 rfl rfl HT_ ?_; refine pv_ 26 10 96 2047 rfl rfl HT_ ?_; refine pv_ 26 11 97 4095 rfl rfl HT_ ?_; refine pv_ 26 13 99 12287 rfl rfl HT_ ?_; refine pv_ 26 16 102 77823 rfl rfl HT_ ?_; refine pv_ 26 18 104 339967 rfl rfl HT_ ?_; refine pv_ 26 19 105 864255 rfl rfl HT_ ?_; refine pv_ 26 20 106 1912831 rfl rfl HT_ ?_; refine pv_ 26 21 107 4009983 rfl rfl HT_ ?_
           refine tv_ 26 12 98 4014079 rfl rfl HT_ HW_ hHeld (by rintro w' ⟨s0, s1, s2, s3, s4, s5, s6, s7, s8, s9, s10, s11, s12, s13, s14, s15, s16, s17⟩; go_simp; with_reducible rfl) ?_
           refine tv_ 26 14 100 4030463 rfl rfl HT_ HW_ hHeld (by rintro w' ⟨s0, s1, s2, s3, s4, s5, s6, s7, s8, s9, s10, s11, s12, s13, s14, s15, s16, s17⟩; go_simp; with_reducible rfl) ?_
           refine tv_ 26 17 103 4161535 rfl rfl HT_ HW_ hHeld (by rintro w' ⟨s0, s1, s2, s3, s4, s5, s6, s7, s8, s9, s10, s11, s12, s13, s14, s15, s16, s17⟩; go_simp; with_reducible rfl) ?_
           refine tv_ 26 22 108 8355839 rfl rfl HT_ HW_ hHeld (by rintro w' ⟨s0, s1, s2, s3, s4, s5, s6, s7, s8, s9, s10, s11, s12, s13, s14, s15, s16, s17⟩; go_simp; with_reducible rfl) ?_
           refine one_ (i := 15) (N := some 101) (bv 26 8388607) rfl rfl (one_of HT_.out (by kernel_rfl)) (by decide) (fun K hK => ?_)
           refine goes_ Try.func60 (by kernel_rfl) rfl #[.slice A162_5 ((rd_T61 l0 t161).f5).length c162_5, .int .i64 ((rd_T61 l0 x3_1).f0)] (by rfl) rfl rfl (by (try simp only [List.map_toArray, List.map_cons, List.map_nil]); first | done | rfl | (simp only [List.length_drop, List.length_take]; rfl)) ?_
           with_reducible refine (spec_l19Count.calls k3 _ _ ((rd_T61 l0 t161).f5) ((rd_T61 l0 x3_1).f0) t163 _ ?side1 ?side2 A50.out).mono ?_
           (case side1 => repeat (first | exact (Kd.C_below HR162_5.out HB.out) | (with_reducible refine Kd.C_alloc ?_ _) | (with_reducible refine Kd.C_drewN ?_ _) | (with_reducible refine Kd.C_drew ?_)))
           (case side2 => exact HC162_5.out)
           rintro e w' ⟨rfl, ⟨nd, rfl⟩⟩
           refine ⟨_, rfl, ?_⟩
           refine hK.out _ _ ⟨(blk_cell BK153.out 0).trans rfl, (blk_cell BK153.out 1).trans rfl, (blk_cell BK153.out 2).trans rfl, (blk_cell BK153.out 3).trans rfl, (blk_cell BK153.out 4).trans rfl, (blk_cell BK153.out 5).trans rfl, ((HB.out.cell (World.block_lt_of_cell? w _ hw162_0)).trans hw162_0), ((HB.out.cell (World.block_lt_of_cell? w _ hw162_1)).trans hw162_1), ((HB.out.cell (World.block_lt_of_cell? w _ hw162_2)).trans hw162_2), ((HB.out.cell (World.block_lt_of_cell? w _ hw162_3)).trans hw162_3), ((HB.out.cell (World.block_lt_of_cell? w _ hw162_4)).trans hw162_4), ((HB.out.cell (World.block_lt_of_cell? w _ hw162_5)).trans hw162_5), ((HB.out.cell (World.block_lt_of_cell? w _ hw164_0)).trans hw164_0), ((HB.out.cell (World.block_lt_of_cell? w _ hw164_1)).trans hw164_1), ((HB.out.cell (World.block_lt_of_cell? w _ hw164_2)).trans hw164_2), ((HB.out.cell (World.block_lt_of_cell? w _ hw164_3)).trans hw164_3), ((HB.out.cell (World.block_lt_of_cell? w _ hw164_4)).trans hw164_4), ((HB.out.cell (World.block_lt_of_cell? w _ hw164_5)).trans hw164_5)⟩ (fun hHeld => ?_)
           clear hK K
           refine nm_ 101 ?_
           refine one_ (i := 23) (N := some 109) (bv 26 16777215) rfl rfl (one_of HT_.out (by kernel_rfl)) (by decide) (fun K hK => ?_)
           refine goes_ Try.func60 (by kernel_rfl) rfl #[.slice (some ad160) ((rd_T61 l0 x3_1).f5).length c152_5, .int .i64 ((rd_T61 l0 t161).f0)] (by rfl) rfl rfl (by (try simp only [List.map_toArray, List.map_cons, List.map_nil]); first | done | rfl | (simp only [List.length_drop, List.length_take]; rfl)) ?_
           with_reducible refine (spec_l19Count.calls k3 _ _ ((rd_T61 l0 x3_1).f5) ((rd_T61 l0 t161).f0) t165 _ ?side1 ?side2 A51.out).mono ?_
           (case side1 => repeat (first | exact (Kd.C_below HR152_5.out (by repeat (first | (with_reducible first | exact HB.out | apply below_alloc | apply pw_below_drewN | apply below_drew1 | refine below_set ?_ GE153.out) | exact HB.out))) | (with_reducible refine Kd.C_alloc ?_ _) | (with_reducible refine Kd.C_drewN ?_ _) | (with_reducible refine Kd.C_drew ?_)))
           (case side2 => exact HC152_5.out)
           rintro e w' ⟨rfl, ⟨nd, rfl⟩⟩
           refine ⟨_, rfl, ?_⟩
           refine hK.out _ _ ⟨(blk_cell BK153.out 0).trans rfl, (blk_cell BK153.out 1).trans rfl, (blk_cell BK153.out 2).trans rfl, (blk_cell BK153.out 3).trans rfl, (blk_cell BK153.out 4).trans rfl, (blk_cell BK153.out 5).trans rfl, ((HB.out.cell (World.block_lt_of_cell? w _ hw162_0)).trans hw162_0), ((HB.out.cell (World.block_lt_of_cell? w _ hw162_1)).trans hw162_1), ((HB.out.cell (World.block_lt_of_cell? w _ hw162_2)).trans hw162_2), ((HB.out.cell (World.block_lt_of_cell? w _ hw162_3)).trans hw162_3), ((HB.out.cell (World.block_lt_of_cell? w _ hw162_4)).trans hw162_4), ((HB.out.cell (World.block_lt_of_cell? w _ hw162_5)).trans hw162_5), ((HB.out.cell (World.block_lt_of_cell? w _ hw164_0)).trans hw164_0), ((HB.out.cell (World.block_lt_of_cell? w _ hw164_1)).trans hw164_1), ((HB.out.cell (World.block_lt_of_cell? w _ hw164_2)).trans hw164_2), ((HB.out.cell (World.block_lt_of_cell? w _ hw164_3)).trans hw164_3), ((HB.out.cell (World.block_lt_of_cell? w _ hw164_4)).trans hw164_4), ((HB.out.cell (World.block_lt_of_cell? w _ hw164_5)).trans hw164_5)⟩ (fun hHeld => ?_)
           clear hK K
           refine nm_ 109 ?_
           refine pv_ 26 24 110 33554431 rfl rfl HT_ ?_; refine pv_ 26 25 111 67108863 rfl rfl HT_ ?_
           refine done_ (done_of HT_.out (by kernel_rfl)) ?_
           try go_wp2
           go_ret
           exact ⟨by first | rfl | (simp [errW_none, errW_some] <;> rfl) | (simp [*, errW_none, errW_some] <;> rfl), by repeat (first | (with_reducible first | exact HB.out | apply below_alloc | apply pw_below_drewN | apply below_drew1 | refine below_set ?_ GE153.out) | exact HB.out)⟩
          rw [if_pos c52] at H
          have c52b0 : (t163 == t165) = true := beq_iff_eq.mpr c52
          have c52b1 : (t163 != t165) = false := bne_eq_false_iff_eq.mpr c52
          clear c52
          have H' := Aside0.mk H
          clear H
          have hcz53_0 : wr.cell? ⟨gb153, 0, none⟩ = some (.int .i64 ((rd_T61 l0 x3_1).f0)) := (blk_cell BK153.out 0).trans rfl
          have hcz53_1 : wr.cell? ⟨gb153, 1, none⟩ = some (.int .i64 ((rd_T61 l0 x3_1).f1)) := (blk_cell BK153.out 1).trans rfl
          have hcz53_2 : wr.cell? ⟨gb153, 2, none⟩ = some (.int .i64 ((rd_T61 l0 x3_1).f2)) := (blk_cell BK153.out 2).trans rfl
          have hcz53_3 : wr.cell? ⟨gb153, 3, none⟩ = some (.int .i64 ((rd_T61 l0 x3_1).f3)) := (blk_cell BK153.out 3).trans rfl
          have hcz53_4 : wr.cell? ⟨gb153, 4, none⟩ = some (.int .i64 ((rd_T61 l0 x3_1).f4)) := (blk_cell BK153.out 4).trans rfl
          have hcz53_5 : wr.cell? ⟨gb153, 5, none⟩ = some (.slice A152_5 ((rd_T61 l0 x3_1).f5).length c152_5) := (blk_cell BK153.out 5).trans rfl
          have hfz53_0 := blk_frozen BK153.out 0
          have hfz53_1 := blk_frozen BK153.out 1
          have hfz53_2 := blk_frozen BK153.out 2
          have hfz53_3 := blk_frozen BK153.out 3
          have hfz53_4 := blk_frozen BK153.out 4
          have hfz53_5 := blk_frozen BK153.out 5
          have p160 : 0 ≤ (x5_3 : Int) := of_decide_eq_true (by first | (with_reducible assumption) | assumption)
          have q160 : x5_3 < (((rd_T61 l0 x3_1).f5).length : Int) := of_decide_eq_true (by first | (with_reducible assumption) | assumption)
          obtain ⟨ad160, e160, hx160_0⟩ := Kd.at_int HR152_5.out x5_3 p160 q160
          cases e160
          replace hx160_0 := (HB.out.cell (World.block_lt_of_cell? w _ hx160_0)).trans hx160_0
          replace p160 := eq_true p160
          replace q160 := eq_true q160
          try go_wp2_with (first | ((with_reducible refine gate_callee (f := 16) rfl ?_); refine goesL_ (some 85) rfl rfl Try.func16 (by kernel_rfl) rfl #[.slice (some ad152) l0.length c0, .int .i64 (rd ((rd_T61 l0 x3_1).f5) x5_3)] rfl (by (try simp only [List.map_toArray, List.map_cons, List.map_nil]); first | done | rfl | (simp only [List.length_drop, List.length_take]; rfl)) ?_; (with_reducible refine (spec_FindTeam.calls k3 _ _ l0 (rd ((rd_T61 l0 x3_1).f5) x5_3) t161 _ ?side1 ?side2 A41.out).mono ?_); (case side1 => repeat (first | exact (Kd.C_below HR0.out HB.out) | (with_reducible refine Kd.C_alloc ?_ _) | (with_reducible refine Kd.C_drewN ?_ _) | (with_reducible refine Kd.C_drew ?_))); (case side2 => exact HC0.out); rintro e w' ⟨rfl, ⟨nd, rfl⟩⟩; refine ⟨_, rfl, ?_⟩))
          (try (rw [drewN_self wr]; generalize hq_ : World.drewN wr _ = wr; have n0_ : Aside0 (wr.heap[gb153]? = some (.cells #[.int .i64 ((rd_T61 l0 x3_1).f0), .int .i64 ((rd_T61 l0 x3_1).f1), .int .i64 ((rd_T61 l0 x3_1).f2), .int .i64 ((rd_T61 l0 x3_1).f3), .int .i64 ((rd_T61 l0 x3_1).f4), .slice (some ad160) ((rd_T61 l0 x3_1).f5).length c152_5] 61 (0, 0))) := ⟨by rw [← hq_]; exact (by (with_reducible repeat (first | refine blk_drewN ?_ _ | refine blk_drew ?_ | refine blk_alloc ?_ _)); exact BK153.out)⟩; have n1_ : Aside0 (Below w.heap.size w wr) := ⟨by rw [← hq_]; exact (by repeat (first | (with_reducible first | exact HB.out | apply below_alloc | apply pw_below_drewN | apply below_drew1 | refine below_set ?_ GE153.out) | exact HB.out))⟩; clear BK153 HB hq_; have BK153 := n0_; have HB := n1_; clear n0_ n1_))
          have n0_ := Aside0.mk (blk_drew BK153.out)
          have n1_ := Aside0.mk (below_drew1 HB.out)
          clear BK153
          clear HB
          have BK153 := n0_
          have HB := n1_
          clear n0_ n1_
          have p162 : 0 ≤ (t161 : Int) := of_decide_eq_true (by first | (with_reducible assumption) | assumption)
          have q162 : t161 < (l0.length : Int) := of_decide_eq_true (by first | (with_reducible assumption) | assumption)
          obtain ⟨ad162, A162_5, c162_5, e162, hx162_0, hx162_1, hx162_2, hx162_3, hx162_4, hx162_5, hl162_5, hi162_5⟩ := at_T61 HR0.out t161 p162 q162
          have hw162_5 := hx162_5
          have hw162_4 := hx162_4
          have hw162_3 := hx162_3
          have hw162_2 := hx162_2
          have hw162_1 := hx162_1
          have hw162_0 := hx162_0
          obtain rfl : ad152 = ad162 := (by injection e162)
          replace hx162_0 := (HB.out.cell (World.block_lt_of_cell? w _ hx162_0)).trans hx162_0
          replace hx162_1 := (HB.out.cell (World.block_lt_of_cell? w _ hx162_1)).trans hx162_1
          replace hx162_2 := (HB.out.cell (World.block_lt_of_cell? w _ hx162_2)).trans hx162_2
          replace hx162_3 := (HB.out.cell (World.block_lt_of_cell? w _ hx162_3)).trans hx162_3
          replace hx162_4 := (HB.out.cell (World.block_lt_of_cell? w _ hx162_4)).trans hx162_4
          replace hx162_5 := (HB.out.cell (World.block_lt_of_cell? w _ hx162_5)).trans hx162_5
          have HR162_5 := Aside0.mk hi162_5
          have HC162_5 := Aside0.mk hl162_5
          clear hi162_5 hl162_5
          replace p162 := eq_true p162
          replace q162 := eq_true q162
          have p164 : 0 ≤ (t161 : Int) := of_decide_eq_true (by first | (with_reducible assumption) | assumption)
          have q164 : t161 < (l0.length : Int) := of_decide_eq_true (by first | (with_reducible assumption) | assumption)
          obtain ⟨ad164, A164_5, c164_5, e164, hx164_0, hx164_1, hx164_2, hx164_3, hx164_4, hx164_5, hl164_5, hi164_5⟩ := at_T61 HR0.out t161 p164 q164
          have hw164_5 := hx164_5
          have hw164_4 := hx164_4
          have hw164_3 := hx164_3
          have hw164_2 := hx164_2
          have hw164_1 := hx164_1
          have hw164_0 := hx164_0
          obtain rfl : ad152 = ad164 := (by injection e164)
          replace hx164_0 := (HB.out.cell (World.block_lt_of_cell? w _ hx164_0)).trans hx164_0
          replace hx164_1 := (HB.out.cell (World.block_lt_of_cell? w _ hx164_1)).trans hx164_1
          replace hx164_2 := (HB.out.cell (World.block_lt_of_cell? w _ hx164_2)).trans hx164_2
          replace hx164_3 := (HB.out.cell (World.block_lt_of_cell? w _ hx164_3)).trans hx164_3
          replace hx164_4 := (HB.out.cell (World.block_lt_of_cell? w _ hx164_4)).trans hx164_4
          replace hx164_5 := (HB.out.cell (World.block_lt_of_cell? w _ hx164_5)).trans hx164_5
          have HR164_5 := Aside0.mk hi164_5
          have HC164_5 := Aside0.mk hl164_5
          clear hi164_5 hl164_5
          replace p164 := eq_true p164
          replace q164 := eq_true q164
          have ea_ := Option.some.inj (hx162_5.symm.trans hx164_5)
          injection ea_ with ea_ en_ ec_
          subst ea_
          subst ec_
          clear en_
          refine start_ (n := 26) (S := fun w' => w'.cell? ⟨gb153, 0, none⟩ = some (.int .i64 ((rd_T61 l0 x3_1).f0)) ∧ w'.cell? ⟨gb153, 1, none⟩ = some (.int .i64 ((rd_T61 l0 x3_1).f1)) ∧ w'.cell? ⟨gb153, 2, none⟩ = some (.int .i64 ((rd_T61 l0 x3_1).f2)) ∧ w'.cell? ⟨gb153, 3, none⟩ = some (.int .i64 ((rd_T61 l0 x3_1).f3)) ∧ w'.cell? ⟨gb153, 4, none⟩ = some (.int .i64 ((rd_T61 l0 x3_1).f4)) ∧ w'.cell? ⟨gb153, 5, none⟩ = some (.slice (some ad160) ((rd_T61 l0 x3_1).f5).length c152_5) ∧ w'.cell? (ad152.add ((t161).toNat * 6)) = some (.int .i64 ((rd_T61 l0 t161).f0)) ∧ w'.cell? ⟨(ad152.add ((t161).toNat * 6)).block, (ad152.add ((t161).toNat * 6)).off + 1, none⟩ = some (.int .i64 ((rd_T61 l0 t161).f1)) ∧ w'.cell? ⟨(ad152.add ((t161).toNat * 6)).block, (ad152.add ((t161).toNat * 6)).off + 2, none⟩ = some (.int .i64 ((rd_T61 l0 t161).f2)) ∧ w'.cell? ⟨(ad152.add ((t161).toNat * 6)).block, (ad152.add ((t161).toNat * 6)).off + 3, none⟩ = some (.int .i64 ((rd_T61 l0 t161).f3)) ∧ w'.cell? ⟨(ad152.add ((t161).toNat * 6)).block, (ad152.add ((t161).toNat * 6)).off + 4, none⟩ = some (.int .i64 ((rd_T61 l0 t161).f4)) ∧ w'.cell? ⟨(ad152.add ((t161).toNat * 6)).block, (ad152.add ((t161).toNat * 6)).off + 5, none⟩ = some (.slice A162_5 ((rd_T61 l0 t161).f5).length c162_5) ∧ w'.cell? (ad152.add ((t161).toNat * 6)) = some (.int .i64 ((rd_T61 l0 t161).f0)) ∧ w'.cell? ⟨(ad152.add ((t161).toNat * 6)).block, (ad152.add ((t161).toNat * 6)).off + 1, none⟩ = some (.int .i64 ((rd_T61 l0 t161).f1)) ∧ w'.cell? ⟨(ad152.add ((t161).toNat * 6)).block, (ad152.add ((t161).toNat * 6)).off + 2, none⟩ = some (.int .i64 ((rd_T61 l0 t161).f2)) ∧ w'.cell? ⟨(ad152.add ((t161).toNat * 6)).block, (ad152.add ((t161).toNat * 6)).off + 3, none⟩ = some (.int .i64 ((rd_T61 l0 t161).f3)) ∧ w'.cell? ⟨(ad152.add ((t161).toNat * 6)).block, (ad152.add ((t161).toNat * 6)).off + 4, none⟩ = some (.int .i64 ((rd_T61 l0 t161).f4)) ∧ w'.cell? ⟨(ad152.add ((t161).toNat * 6)).block, (ad152.add ((t161).toNat * 6)).off + 5, none⟩ = some (.slice A162_5 ((rd_T61 l0 t161).f5).length c162_5)) (ds := []) (bv 26 0) (by kernel_rfl) rfl rfl ⟨(blk_cell BK153.out 0).trans rfl, (blk_cell BK153.out 1).trans rfl, (blk_cell BK153.out 2).trans rfl, (blk_cell BK153.out 3).trans rfl, (blk_cell BK153.out 4).trans rfl, (blk_cell BK153.out 5).trans rfl, ((HB.out.cell (World.block_lt_of_cell? w _ hw162_0)).trans hw162_0), ((HB.out.cell (World.block_lt_of_cell? w _ hw162_1)).trans hw162_1), ((HB.out.cell (World.block_lt_of_cell? w _ hw162_2)).trans hw162_2), ((HB.out.cell (World.block_lt_of_cell? w _ hw162_3)).trans hw162_3), ((HB.out.cell (World.block_lt_of_cell? w _ hw162_4)).trans hw162_4), ((HB.out.cell (World.block_lt_of_cell? w _ hw162_5)).trans hw162_5), ((HB.out.cell (World.block_lt_of_cell? w _ hw164_0)).trans hw164_0), ((HB.out.cell (World.block_lt_of_cell? w _ hw164_1)).trans hw164_1), ((HB.out.cell (World.block_lt_of_cell? w _ hw164_2)).trans hw164_2), ((HB.out.cell (World.block_lt_of_cell? w _ hw164_3)).trans hw164_3), ((HB.out.cell (World.block_lt_of_cell? w _ hw164_4)).trans hw164_4), ((HB.out.cell (World.block_lt_of_cell? w _ hw164_5)).trans hw164_5)⟩ (fun hHeld => ?_); refine with_tabW spec_AreTeams.tab11 spec_AreTeams.bits11 (fun HT_ HW_ => ?_)
          generalize wr.drew = w54 at BK153 HB HR162_5 HR164_5 hx162_0 hx162_1 hx162_2 hx162_3 hx162_4 hx162_5 hx164_0 hx164_1 hx164_2 hx164_3 hx164_4 hx164_5 hHeld ⊢
          refine pv_ 26 0 86 1 rfl rfl HT_ ?_; refine pv_ 26 1 87 3 rfl rfl HT_ ?_; refine pv_ 26 2 88 7 rfl rfl HT_ ?_; refine pv_ 26 3 89 15 rfl rfl HT_ ?_; refine pv_ 26 4 90 31 rfl rfl HT_ ?_; refine pv_ 26 5 91 63 rfl rfl HT_ ?_; refine pv_ 26 6 92 127 rfl rfl HT_ ?_; refine pv_ 26 7 93 255 rfl rfl HT_ ?_; refine pv_ 26 8 94 511 rfl rfl HT_ ?_; refine pv_ 26 9 95 1023 rfl rfl HT_ ?_; refine pv_ 26 10 96 2047 rfl rfl HT_ ?_; refine pv_ 26 11 97 4095 rfl rfl HT_ ?_; refine pv_ 26 13 99 12287 rfl rfl HT_ ?_; refine pv_ 26 16 102 77823 rfl rfl HT_ ?_; refine pv_ 26 18 104 339967 rfl rfl HT_ ?_; refine pv_ 26 19 105 864255 rfl rfl HT_ ?_; refine pv_ 26 20 106 1912831 rfl rfl HT_ ?_; refine pv_ 26 21 107 4009983 rfl rfl HT_ ?_
          refine tv_ 26 12 98 4014079 rfl rfl HT_ HW_ hHeld (by rintro w' ⟨s0, s1, s2, s3, s4, s5, s6, s7, s8, s9, s10, s11, s12, s13, s14, s15, s16, s17⟩; go_simp; with_reducible rfl) ?_
          refine tv_ 26 14 100 4030463 rfl rfl HT_ HW_ hHeld (by rintro w' ⟨s0, s1, s2, s3, s4, s5, s6, s7, s8, s9, s10, s11, s12, s13, s14, s15, s16, s17⟩; go_simp; with_reducible rfl) ?_
          refine tv_ 26 17 103 4161535 rfl rfl HT_ HW_ hHeld (by rintro w' ⟨s0, s1, s2, s3, s4, s5, s6, s7, s8, s9, s10, s11, s12, s13, s14, s15, s16, s17⟩; go_simp; with_reducible rfl) ?_
          refine tv_ 26 22 108 8355839 rfl rfl HT_ HW_ hHeld (by rintro w' ⟨s0, s1, s2, s3, s4, s5, s6, s7, s8, s9, s10, s11, s12, s13, s14, s15, s16, s17⟩; go_simp; with_reducible rfl) ?_
          refine one_ (i := 15) (N := some 101) (bv 26 8388607) rfl rfl (one_of HT_.out (by kernel_rfl)) (by decide) (fun K hK => ?_)
          refine goes_ Try.func60 (by kernel_rfl) rfl #[.slice A162_5 ((rd_T61 l0 t161).f5).length c162_5, .int .i64 ((rd_T61 l0 x3_1).f0)] (by rfl) rfl rfl (by (try simp only [List.map_toArray, List.map_cons, List.map_nil]); first | done | rfl | (simp only [List.length_drop, List.length_take]; rfl)) ?_
          with_reducible refine (spec_l19Count.calls k3 _ _ ((rd_T61 l0 t161).f5) ((rd_T61 l0 x3_1).f0) t163 _ ?side1 ?side2 A50.out).mono ?_
          (case side1 => repeat (first | exact (Kd.C_below HR162_5.out HB.out) | (with_reducible refine Kd.C_alloc ?_ _) | (with_reducible refine Kd.C_drewN ?_ _) | (with_reducible refine Kd.C_drew ?_)))
          (case side2 => exact HC162_5.out)
          rintro e w' ⟨rfl, ⟨nd, rfl⟩⟩
          refine ⟨_, rfl, ?_⟩
          refine hK.out _ _ ⟨(blk_cell BK153.out 0).trans rfl, (blk_cell BK153.out 1).trans rfl, (blk_cell BK153.out 2).trans rfl, (blk_cell BK153.out 3).trans rfl, (blk_cell BK153.out 4).trans rfl, (blk_cell BK153.out 5).trans rfl, ((HB.out.cell (World.block_lt_of_cell? w _ hw162_0)).trans hw162_0), ((HB.out.cell (World.block_lt_of_cell? w _ hw162_1)).trans hw162_1), ((HB.out.cell (World.block_lt_of_cell? w _ hw162_2)).trans hw162_2), ((HB.out.cell (World.block_lt_of_cell? w _ hw162_3)).trans hw162_3), ((HB.out.cell (World.block_lt_of_cell? w _ hw162_4)).trans hw162_4), ((HB.out.cell (World.block_lt_of_cell? w _ hw162_5)).trans hw162_5), ((HB.out.cell (World.block_lt_of_cell? w _ hw164_0)).trans hw164_0), ((HB.out.cell (World.block_lt_of_cell? w _ hw164_1)).trans hw164_1), ((HB.out.cell (World.block_lt_of_cell? w _ hw164_2)).trans hw164_2), ((HB.out.cell (World.block_lt_of_cell? w _ hw164_3)).trans hw164_3), ((HB.out.cell (World.block_lt_of_cell? w _ hw164_4)).trans hw164_4), ((HB.out.cell (World.block_lt_of_cell? w _ hw164_5)).trans hw164_5)⟩ (fun hHeld => ?_)
          clear hK K
          refine nm_ 101 ?_
          refine one_ (i := 23) (N := some 109) (bv 26 16777215) rfl rfl (one_of HT_.out (by kernel_rfl)) (by decide) (fun K hK => ?_)
          refine goes_ Try.func60 (by kernel_rfl) rfl #[.slice (some ad160) ((rd_T61 l0 x3_1).f5).length c152_5, .int .i64 ((rd_T61 l0 t161).f0)] (by rfl) rfl rfl (by (try simp only [List.map_toArray, List.map_cons, List.map_nil]); first | done | rfl | (simp only [List.length_drop, List.length_take]; rfl)) ?_
          with_reducible refine (spec_l19Count.calls k3 _ _ ((rd_T61 l0 x3_1).f5) ((rd_T61 l0 t161).f0) t165 _ ?side1 ?side2 A51.out).mono ?_
          (case side1 => repeat (first | exact (Kd.C_below HR152_5.out (by repeat (first | (with_reducible first | exact HB.out | apply below_alloc | apply pw_below_drewN | apply below_drew1 | refine below_set ?_ GE153.out) | exact HB.out))) | (with_reducible refine Kd.C_alloc ?_ _) | (with_reducible refine Kd.C_drewN ?_ _) | (with_reducible refine Kd.C_drew ?_)))
          (case side2 => exact HC152_5.out)
          rintro e w' ⟨rfl, ⟨nd, rfl⟩⟩
          refine ⟨_, rfl, ?_⟩
          refine hK.out _ _ ⟨(blk_cell BK153.out 0).trans rfl, (blk_cell BK153.out 1).trans rfl, (blk_cell BK153.out 2).trans rfl, (blk_cell BK153.out 3).trans rfl, (blk_cell BK153.out 4).trans rfl, (blk_cell BK153.out 5).trans rfl, ((HB.out.cell (World.block_lt_of_cell? w _ hw162_0)).trans hw162_0), ((HB.out.cell (World.block_lt_of_cell? w _ hw162_1)).trans hw162_1), ((HB.out.cell (World.block_lt_of_cell? w _ hw162_2)).trans hw162_2), ((HB.out.cell (World.block_lt_of_cell? w _ hw162_3)).trans hw162_3), ((HB.out.cell (World.block_lt_of_cell? w _ hw162_4)).trans hw162_4), ((HB.out.cell (World.block_lt_of_cell? w _ hw162_5)).trans hw162_5), ((HB.out.cell (World.block_lt_of_cell? w _ hw164_0)).trans hw164_0), ((HB.out.cell (World.block_lt_of_cell? w _ hw164_1)).trans hw164_1), ((HB.out.cell (World.block_lt_of_cell? w _ hw164_2)).trans hw164_2), ((HB.out.cell (World.block_lt_of_cell? w _ hw164_3)).trans hw164_3), ((HB.out.cell (World.block_lt_of_cell? w _ hw164_4)).trans hw164_4), ((HB.out.cell (World.block_lt_of_cell? w _ hw164_5)).trans hw164_5)⟩ (fun hHeld => ?_)
          clear hK K
          refine nm_ 109 ?_
          refine pv_ 26 24 110 33554431 rfl rfl HT_ ?_; refine pv_ 26 25 111 67108863 rfl rfl HT_ ?_
          refine done_ (done_of HT_.out (by kernel_rfl)) ?_
          try go_wp2
          go_roundg k3
          case measure => have := HK1.out; have := HJ3.out; have := HK3.out; omega
          case rel => exact ⟨(wrap64 (x5_3 + 1)), (by first | rfl | (simp; done) | (simp [*]; done)), H', ⟨by have := HK1.out; have := HJ3.out; have := HK3.out; omega⟩, ⟨by (with_reducible repeat (first | refine blk_drewN ?_ _ | refine blk_drew ?_ | refine blk_alloc ?_ _)); exact BK153.out⟩, ⟨by repeat (first | (with_reducible first | exact HB.out | apply below_alloc | apply pw_below_drewN | apply below_drew1 | refine below_set ?_ GE153.out) | exact HB.out)⟩⟩
         rw [if_pos c45] at H
         have c45b0 : (t161 == x3_1) = true := beq_iff_eq.mpr c45
         have c45b1 : (t161 != x3_1) = false := bne_eq_false_iff_eq.mpr c45
         clear c45
         obtain rfl := Option.some.inj H
         have hcz46_0 : wr.cell? ⟨gb153, 0, none⟩ = some (.int .i64 ((rd_T61 l0 x3_1).f0)) := (blk_cell BK153.out 0).trans rfl
         have hcz46_1 : wr.cell? ⟨gb153, 1, none⟩ = some (.int .i64 ((rd_T61 l0 x3_1).f1)) := (blk_cell BK153.out 1).trans rfl
         have hcz46_2 : wr.cell? ⟨gb153, 2, none⟩ = some (.int .i64 ((rd_T61 l0 x3_1).f2)) := (blk_cell BK153.out 2).trans rfl
         have hcz46_3 : wr.cell? ⟨gb153, 3, none⟩ = some (.int .i64 ((rd_T61 l0 x3_1).f3)) := (blk_cell BK153.out 3).trans rfl
         have hcz46_4 : wr.cell? ⟨gb153, 4, none⟩ = some (.int .i64 ((rd_T61 l0 x3_1).f4)) := (blk_cell BK153.out 4).trans rfl
         have hcz46_5 : wr.cell? ⟨gb153, 5, none⟩ = some (.slice A152_5 ((rd_T61 l0 x3_1).f5).length c152_5) := (blk_cell BK153.out 5).trans rfl
         have hfz46_0 := blk_frozen BK153.out 0
         have hfz46_1 := blk_frozen BK153.out 1
         have hfz46_2 := blk_frozen BK153.out 2
         have hfz46_3 := blk_frozen BK153.out 3
         have hfz46_4 := blk_frozen BK153.out 4
         have hfz46_5 := blk_frozen BK153.out 5
         have p160 : 0 ≤ (x5_3 : Int) := of_decide_eq_true (by first | (with_reducible assumption) | assumption)
         have q160 : x5_3 < (((rd_T61 l0 x3_1).f5).length : Int) := of_decide_eq_true (by first | (with_reducible assumption) | assumption)
         obtain ⟨ad160, e160, hx160_0⟩ := Kd.at_int HR152_5.out x5_3 p160 q160
         cases e160
         replace hx160_0 := (HB.out.cell (World.block_lt_of_cell? w _ hx160_0)).trans hx160_0
         replace p160 := eq_true p160
         replace q160 := eq_true q160
         try go_wp2_with (first | ((with_reducible refine gate_callee (f := 16) rfl ?_); refine goesL_ (some 85) rfl rfl Try.func16 (by kernel_rfl) rfl #[.slice (some ad152) l0.length c0, .int .i64 (rd ((rd_T61 l0 x3_1).f5) x5_3)] rfl (by (try simp only [List.map_toArray, List.map_cons, List.map_nil]); first | done | rfl | (simp only [List.length_drop, List.length_take]; rfl)) ?_; (with_reducible refine (spec_FindTeam.calls k3 _ _ l0 (rd ((rd_T61 l0 x3_1).f5) x5_3) t161 _ ?side1 ?side2 A41.out).mono ?_); (case side1 => repeat (first | exact (Kd.C_below HR0.out HB.out) | (with_reducible refine Kd.C_alloc ?_ _) | (with_reducible refine Kd.C_drewN ?_ _) | (with_reducible refine Kd.C_drew ?_))); (case side2 => exact HC0.out); rintro e w' ⟨rfl, ⟨nd, rfl⟩⟩; refine ⟨_, rfl, ?_⟩))
         (try (rw [drewN_self wr]; generalize hq_ : World.drewN wr _ = wr; have n0_ : Aside0 (wr.heap[gb153]? = some (.cells #[.int .i64 ((rd_T61 l0 x3_1).f0), .int .i64 ((rd_T61 l0 x3_1).f1), .int .i64 ((rd_T61 l0 x3_1).f2), .int .i64 ((rd_T61 l0 x3_1).f3), .int .i64 ((rd_T61 l0 x3_1).f4), .slice (some ad160) ((rd_T61 l0 x3_1).f5).length c152_5] 61 (0, 0))) := ⟨by rw [← hq_]; exact (by (with_reducible repeat (first | refine blk_drewN ?_ _ | refine blk_drew ?_ | refine blk_alloc ?_ _)); exact BK153.out)⟩; have n1_ : Aside0 (Below w.heap.size w wr) := ⟨by rw [← hq_]; exact (by repeat (first | (with_reducible first | exact HB.out | apply below_alloc | apply pw_below_drewN | apply below_drew1 | refine below_set ?_ GE153.out) | exact HB.out))⟩; clear BK153 HB hq_; have BK153 := n0_; have HB := n1_; clear n0_ n1_))
         have n0_ := Aside0.mk (blk_drew BK153.out)
         have n1_ := Aside0.mk (below_drew1 HB.out)
         clear BK153
         clear HB
         have BK153 := n0_
         have HB := n1_
         clear n0_ n1_
         refine start_ (n := 26) (S := fun w' => True) (ds := []) (bv 26 0) (by kernel_rfl) rfl rfl trivial (fun hHeld => ?_); refine with_tabW spec_AreTeams.tab11 spec_AreTeams.bits11 (fun HT_ HW_ => ?_)
         generalize wr.drew = w47 at BK153 HB hHeld ⊢
         refine pv_ 26 0 86 1 rfl rfl HT_ ?_; refine pv_ 26 1 87 3 rfl rfl HT_ ?_; refine pv_ 26 2 88 7 rfl rfl HT_ ?_; refine pv_ 26 3 89 15 rfl rfl HT_ ?_; refine pv_ 26 4 90 31 rfl rfl HT_ ?_; refine pv_ 26 5 91 63 rfl rfl HT_ ?_; refine pv_ 26 6 92 127 rfl rfl HT_ ?_; refine pv_ 26 7 93 255 rfl rfl HT_ ?_; refine pu_ 26 8 94 511 rfl rfl HT_ ?_; refine pu_ 26 9 95 1023 rfl rfl HT_ ?_; refine pu_ 26 10 96 2047 rfl rfl HT_ ?_; refine pu_ 26 11 97 4095 rfl rfl HT_ ?_; refine pu_ 26 12 98 8191 rfl rfl HT_ ?_; refine pu_ 26 13 99 16383 rfl rfl HT_ ?_; refine pu_ 26 14 100 32767 rfl rfl HT_ ?_; refine pu_ 26 15 101 65535 rfl rfl HT_ ?_; refine pu_ 26 16 102 131071 rfl rfl HT_ ?_; refine pu_ 26 17 103 262143 rfl rfl HT_ ?_; refine pu_ 26 18 104 524287 rfl rfl HT_ ?_; refine pu_ 26 19 105 1048575 rfl rfl HT_ ?_; refine pu_ 26 20 106 2097151 rfl rfl HT_ ?_; refine pu_ 26 21 107 4194303 rfl rfl HT_ ?_
         refine pu_ 26 22 108 8388607 rfl rfl HT_ ?_; refine pu_ 26 23 109 16777215 rfl rfl HT_ ?_; refine pu_ 26 24 110 33554431 rfl rfl HT_ ?_; refine pv_ 26 25 111 67108863 rfl rfl HT_ ?_
         refine done_ (done_of HT_.out (by kernel_rfl)) ?_
         try go_wp2
         go_ret
         exact ⟨by first | rfl | (simp [errW_none, errW_some] <;> rfl) | (simp [*, errW_none, errW_some] <;> rfl), by repeat (first | (with_reducible first | exact HB.out | apply below_alloc | apply pw_below_drewN | apply below_drew1 | refine below_set ?_ GE153.out) | exact HB.out)⟩
        rw [if_pos c42] at H
        have c42b0 : decide (t161 < 0) = true := decide_eq_true c42
        clear c42
        obtain rfl := Option.some.inj H
        have hcz43_0 : wr.cell? ⟨gb153, 0, none⟩ = some (.int .i64 ((rd_T61 l0 x3_1).f0)) := (blk_cell BK153.out 0).trans rfl
        have hcz43_1 : wr.cell? ⟨gb153, 1, none⟩ = some (.int .i64 ((rd_T61 l0 x3_1).f1)) := (blk_cell BK153.out 1).trans rfl
        have hcz43_2 : wr.cell? ⟨gb153, 2, none⟩ = some (.int .i64 ((rd_T61 l0 x3_1).f2)) := (blk_cell BK153.out 2).trans rfl
        have hcz43_3 : wr.cell? ⟨gb153, 3, none⟩ = some (.int .i64 ((rd_T61 l0 x3_1).f3)) := (blk_cell BK153.out 3).trans rfl
        have hcz43_4 : wr.cell? ⟨gb153, 4, none⟩ = some (.int .i64 ((rd_T61 l0 x3_1).f4)) := (blk_cell BK153.out 4).trans rfl
        have hcz43_5 : wr.cell? ⟨gb153, 5, none⟩ = some (.slice A152_5 ((rd_T61 l0 x3_1).f5).length c152_5) := (blk_cell BK153.out 5).trans rfl
        have hfz43_0 := blk_frozen BK153.out 0
        have hfz43_1 := blk_frozen BK153.out 1
        have hfz43_2 := blk_frozen BK153.out 2
        have hfz43_3 := blk_frozen BK153.out 3
        have hfz43_4 := blk_frozen BK153.out 4
        have hfz43_5 := blk_frozen BK153.out 5
        have p160 : 0 ≤ (x5_3 : Int) := of_decide_eq_true (by first | (with_reducible assumption) | assumption)
        have q160 : x5_3 < (((rd_T61 l0 x3_1).f5).length : Int) := of_decide_eq_true (by first | (with_reducible assumption) | assumption)
        obtain ⟨ad160, e160, hx160_0⟩ := Kd.at_int HR152_5.out x5_3 p160 q160
        cases e160
        replace hx160_0 := (HB.out.cell (World.block_lt_of_cell? w _ hx160_0)).trans hx160_0
        replace p160 := eq_true p160
        replace q160 := eq_true q160
        try go_wp2_with (first | ((with_reducible refine gate_callee (f := 16) rfl ?_); refine goesL_ (some 85) rfl rfl Try.func16 (by kernel_rfl) rfl #[.slice (some ad152) l0.length c0, .int .i64 (rd ((rd_T61 l0 x3_1).f5) x5_3)] rfl (by (try simp only [List.map_toArray, List.map_cons, List.map_nil]); first | done | rfl | (simp only [List.length_drop, List.length_take]; rfl)) ?_; (with_reducible refine (spec_FindTeam.calls k3 _ _ l0 (rd ((rd_T61 l0 x3_1).f5) x5_3) t161 _ ?side1 ?side2 A41.out).mono ?_); (case side1 => repeat (first | exact (Kd.C_below HR0.out HB.out) | (with_reducible refine Kd.C_alloc ?_ _) | (with_reducible refine Kd.C_drewN ?_ _) | (with_reducible refine Kd.C_drew ?_))); (case side2 => exact HC0.out); rintro e w' ⟨rfl, ⟨nd, rfl⟩⟩; refine ⟨_, rfl, ?_⟩))
        (try (rw [drewN_self wr]; generalize hq_ : World.drewN wr _ = wr; have n0_ : Aside0 (wr.heap[gb153]? = some (.cells #[.int .i64 ((rd_T61 l0 x3_1).f0), .int .i64 ((rd_T61 l0 x3_1).f1), .int .i64 ((rd_T61 l0 x3_1).f2), .int .i64 ((rd_T61 l0 x3_1).f3), .int .i64 ((rd_T61 l0 x3_1).f4), .slice (some ad160) ((rd_T61 l0 x3_1).f5).length c152_5] 61 (0, 0))) := ⟨by rw [← hq_]; exact (by (with_reducible repeat (first | refine blk_drewN ?_ _ | refine blk_drew ?_ | refine blk_alloc ?_ _)); exact BK153.out)⟩; have n1_ : Aside0 (Below w.heap.size w wr) := ⟨by rw [← hq_]; exact (by repeat (first | (with_reducible first | exact HB.out | apply below_alloc | apply pw_below_drewN | apply below_drew1 | refine below_set ?_ GE153.out) | exact HB.out))⟩; clear BK153 HB hq_; have BK153 := n0_; have HB := n1_; clear n0_ n1_))
        have n0_ := Aside0.mk (blk_drew BK153.out)
        have n1_ := Aside0.mk (below_drew1 HB.out)
        clear BK153
        clear HB
        have BK153 := n0_
        have HB := n1_
        clear n0_ n1_
        refine start_ (n := 26) (S := fun w' => True) (ds := []) (bv 26 0) (by kernel_rfl) rfl rfl trivial (fun hHeld => ?_); refine with_tabW spec_AreTeams.tab11 spec_AreTeams.bits11 (fun HT_ HW_ => ?_)
        generalize wr.drew = w44 at BK153 HB hHeld ⊢
        refine pv_ 26 0 86 1 rfl rfl HT_ ?_; refine pv_ 26 1 87 3 rfl rfl HT_ ?_; refine pv_ 26 2 88 7 rfl rfl HT_ ?_; refine pu_ 26 3 89 15 rfl rfl HT_ ?_; refine pu_ 26 4 90 31 rfl rfl HT_ ?_; refine pu_ 26 5 91 63 rfl rfl HT_ ?_; refine pv_ 26 6 92 127 rfl rfl HT_ ?_; refine pv_ 26 7 93 255 rfl rfl HT_ ?_; refine pu_ 26 8 94 511 rfl rfl HT_ ?_; refine pu_ 26 9 95 1023 rfl rfl HT_ ?_; refine pu_ 26 10 96 2047 rfl rfl HT_ ?_; refine pu_ 26 11 97 4095 rfl rfl HT_ ?_; refine pu_ 26 12 98 8191 rfl rfl HT_ ?_; refine pu_ 26 13 99 16383 rfl rfl HT_ ?_; refine pu_ 26 14 100 32767 rfl rfl HT_ ?_; refine pu_ 26 15 101 65535 rfl rfl HT_ ?_; refine pu_ 26 16 102 131071 rfl rfl HT_ ?_; refine pu_ 26 17 103 262143 rfl rfl HT_ ?_; refine pu_ 26 18 104 524287 rfl rfl HT_ ?_; refine pu_ 26 19 105 1048575 rfl rfl HT_ ?_; refine pu_ 26 20 106 2097151 rfl rfl HT_ ?_; refine pu_ 26 21 107 4194303 rfl rfl HT_ ?_
        refine pu_ 26 22 108 8388607 rfl rfl HT_ ?_; refine pu_ 26 23 109 16777215 rfl rfl HT_ ?_; refine pu_ 26 24 110 33554431 rfl rfl HT_ ?_; refine pv_ 26 25 111 67108863 rfl rfl HT_ ?_
        refine done_ (done_of HT_.out (by kernel_rfl)) ?_
        try go_wp2
        go_ret
        exact ⟨by first | rfl | (simp [errW_none, errW_some] <;> rfl) | (simp [*, errW_none, errW_some] <;> rfl), by repeat (first | (with_reducible first | exact HB.out | apply below_alloc | apply pw_below_drewN | apply below_drew1 | refine below_set ?_ GE153.out) | exact HB.out)⟩
     subst c38
     have H1 : (some false) = some r := by rw [if_pos rfl] at H; exact H
     clear H
     have H := H1
     clear H1
     obtain rfl := Option.some.inj H
     go_wp2
     go_ret
     exact ⟨by first | rfl | (simp [errW_none, errW_some] <;> rfl) | (simp [*, errW_none, errW_some] <;> rfl), by repeat (first | (with_reducible first | exact HB.out | apply below_alloc | apply pw_below_drewN | apply below_drew1 | refine below_set ?_ GE153.out) | exact HB.out)⟩
end Go.Proofs.Ytiimiogpiflkdaa.A
end

section
namespace Go.Proofs.Ytiimiogpiflkdaa.A
open Go.RowKit Go.Proofs.YtiimiogpiflkdaaW.PrintWords Go.Proofs.YtiimiogpiflkdaaW.PrintLast Go.Proofs.YtiimiogpiflkdaaW.PrintMore
attribute [local go_sem] max2_int min2_int max_two min_two max_three min_three max_four min_four   -- for this text's walks alone
set_option linter.unusedVariables false
set_option linter.unusedSimpArgs false
def spec_l4Has.l0 : Nat → List Int → Int → Int → Option (Bool)
  | 0, _, _, _ => none
  | k + 1, x0, x1, x5 => if x5 < (x0.length : Int) then (if 0 ≤ x5 then (if (rd x0 x5) = x1 then (some true) else (spec_l4Has.l0 k x0 x1 (wrap64 (x5 + 1)))) else (none)) else (some false)
def spec_l4Has.f (k : Nat) (l0 : List Int) (a1 : Int) : Option (Bool) := spec_l4Has.l0 k l0 a1 0
set_option maxHeartbeats 8000000 in
set_option maxRecDepth 100000 in
theorem spec_l4Has.calls (k : Nat) (A0 : Option Addr) (c0 : Nat) (l0 : List Int) (a1 : Int) (r : Bool) (w : World) (hr0 : Kd.C (Kd.int .i64) w A0 l0.length l0) (hc0 : l0.length ≤ c0) (h : spec_l4Has.f k l0 a1 = some r) :
  Calls Try.prog 63 #[.slice A0 l0.length c0, .int .i64 a1] w fun e w' => e = .returned (.bool r) ∧ Drawn0 w w' := by
 have HR0 := Aside0.mk hr0
 have HC0 := Aside0.mk hc0
 clear hr0 hc0
 have H : (spec_l4Has.l0 k l0 a1 0) = some r := h
 clear h
 have H' := Aside0.mk H
 clear H
 go_enter Try.func63, Try.ntmps63
 go_wp2
 go_loopg [5] k (fun kq v5 w' => ∃ (x5_1 : Int), v5 = .int .i64 x5_1 ∧ Aside0 (spec_l4Has.l0 kq l0 a1 x5_1 = some r) ∧ Aside0 (kq ≤ k) ∧ Drawn0 w w')
 case atStart => exact ⟨(0), (by first | rfl | (simp; done) | (simp [*]; done)), H', ⟨Nat.le_refl _⟩, by repeat (first | exact Drawn0.refl _ | apply Drawn0.step)⟩
 case round =>
  clear H'
  try clear p2
  obtain ⟨x5_1, rfl, HA, HK1, ⟨m1, rfl⟩⟩ := hrel
  cases gk with
  | zero => exact absurd HA.out (by simp [spec_l4Has.l0])
  | succ k1 =>
   have H := HA.out
   clear HA
   simp only [spec_l4Has.l0] at H
   by_cases c3 : x5_1 < (l0.length : Int)
   ·
    rw [if_pos c3] at H
    have c3b0 : decide (x5_1 < (l0.length : Int)) = true := decide_eq_true c3
    clear c3
    by_cases c4 : 0 ≤ x5_1
    ·
     rw [if_pos c4] at H
     have c4b0 : decide (0 ≤ x5_1) = true := decide_eq_true c4
     clear c4
     by_cases c5 : (rd l0 x5_1) = a1
     ·
      rw [if_pos c5] at H
      have c5b0 : ((rd l0 x5_1) == a1) = true := beq_iff_eq.mpr c5
      have c5b1 : ((rd l0 x5_1) != a1) = false := bne_eq_false_iff_eq.mpr c5
      clear c5
      obtain rfl := Option.some.inj H
      have p197 : 0 ≤ (x5_1 : Int) := of_decide_eq_true (by first | (with_reducible assumption) | assumption)
      have q197 : x5_1 < (l0.length : Int) := of_decide_eq_true (by first | (with_reducible assumption) | assumption)
      obtain ⟨ad197, e197, hx197_0⟩ := Kd.at_int HR0.out x5_1 p197 q197
      cases e197
      replace p197 := eq_true p197
      replace q197 := eq_true q197
      go_wp2
      go_ret
      exact ⟨by first | rfl | (simp; done) | (simp [*]; done), by repeat (first | exact Drawn0.refl _ | apply Drawn0.step)⟩
     ·
      rw [if_neg c5] at H
      have c5b0 : ((rd l0 x5_1) == a1) = false := beq_eq_false_iff_ne.mpr c5
      have c5b1 : ((rd l0 x5_1) != a1) = true := bne_iff_ne.mpr c5
      have H' := Aside0.mk H
      clear H
      have p197 : 0 ≤ (x5_1 : Int) := of_decide_eq_true (by first | (with_reducible assumption) | assumption)
      have q197 : x5_1 < (l0.length : Int) := of_decide_eq_true (by first | (with_reducible assumption) | assumption)
      obtain ⟨ad197, e197, hx197_0⟩ := Kd.at_int HR0.out x5_1 p197 q197
      cases e197
      replace p197 := eq_true p197
      replace q197 := eq_true q197
      go_wp2
      go_roundg k1
      case measure => have := HK1.out; omega
      case rel => exact ⟨(wrap64 (x5_1 + 1)), (by first | rfl | (simp; done) | (simp [*]; done)), H', ⟨by have := HK1.out; omega⟩, by repeat (first | exact Drawn0.refl _ | apply Drawn0.step)⟩
    ·
     rw [if_neg c4] at H
     exact absurd H (by simp)
   ·
    rw [if_neg c3] at H
    have c3b0 : decide (x5_1 < (l0.length : Int)) = false := decide_eq_false c3
    clear c3
    obtain rfl := Option.some.inj H
    go_wp2
    go_ret
    exact ⟨by first | rfl | (simp; done) | (simp [*]; done), by repeat (first | exact Drawn0.refl _ | apply Drawn0.step)⟩
end Go.Proofs.Ytiimiogpiflkdaa.A
end

section
namespace Go.Proofs.Ytiimiogpiflkdaa.A
open Go.RowKit Go.Proofs.YtiimiogpiflkdaaW.PrintWords Go.Proofs.YtiimiogpiflkdaaW.PrintLast Go.Proofs.YtiimiogpiflkdaaW.PrintMore
attribute [local go_sem] max2_int min2_int max_two min_two max_three min_three max_four min_four   -- for this text's walks alone
set_option linter.unusedVariables false
set_option linter.unusedSimpArgs false
def spec_HaveMet.f (k : Nat) (l0 : List (S61)) (a1 : Int) (a2 : Int) : Option (Bool) := (spec_FindTeam.f k l0 a1).bind fun t198 => (if t198 ≥ 0 then (if 0 ≤ t198 then (if t198 < (l0.length : Int) then ((spec_l4Has.f k ((rd_T61 l0 t198).f5) a2).bind fun t200 => (some t200)) else (none)) else (none)) else (some false))
set_option maxHeartbeats 8000000 in
set_option maxRecDepth 100000 in
theorem spec_HaveMet.calls (k : Nat) (A0 : Option Addr) (c0 : Nat) (l0 : List (S61)) (a1 : Int) (a2 : Int) (r : Bool) (w : World) (hr0 : Kd.C k61 w A0 l0.length l0) (hc0 : l0.length ≤ c0) (h : spec_HaveMet.f k l0 a1 a2 = some r) :
  Calls Try.prog 22 #[.slice A0 l0.length c0, .int .i64 a1, .int .i64 a2] w fun e w' => e = .returned (.bool r) ∧ Drawn0 w w' := by
 have HR0 := Aside0.mk hr0
 have HC0 := Aside0.mk hc0
 clear hr0 hc0
 have H : ((spec_FindTeam.f k l0 a1).bind fun t198 => (if t198 ≥ 0 then (if 0 ≤ t198 then (if t198 < (l0.length : Int) then ((spec_l4Has.f k ((rd_T61 l0 t198).f5) a2).bind fun t200 => (some t200)) else (none)) else (none)) else (some false))) = some r := h
 clear h
 replace H := Option.bind_eq_some_iff.mp H
 obtain ⟨t198, A40, H⟩ := H
 replace H : (if t198 ≥ 0 then (if 0 ≤ t198 then (if t198 < (l0.length : Int) then ((spec_l4Has.f k ((rd_T61 l0 t198).f5) a2).bind fun t200 => (some t200)) else (none)) else (none)) else (some false)) = some r := H
 have A4 := Aside0.mk A40
 clear A40
 by_cases c5 : t198 ≥ 0
 ·
  rw [if_pos c5] at H
  have c5b0 : decide (0 ≤ t198) = true := decide_eq_true c5
  clear c5
  by_cases c6 : 0 ≤ t198
  ·
   rw [if_pos c6] at H
   have c6b0 : decide (0 ≤ t198) = true := decide_eq_true c6
   clear c6
   by_cases c7 : t198 < (l0.length : Int)
   ·
    rw [if_pos c7] at H
    have c7b0 : decide (t198 < (l0.length : Int)) = true := decide_eq_true c7
    clear c7
    replace H := Option.bind_eq_some_iff.mp H
    obtain ⟨t200, A80, H⟩ := H
    replace H : (some t200) = some r := H
    have A8 := Aside0.mk A80
    clear A80
    obtain rfl := Option.some.inj H
    go_enter Try.func22, Try.ntmps22
    go_wp2_with (first | ((with_reducible refine gate_callee (f := 16) rfl ?_); refine goesL_ (some 10) rfl rfl Try.func16 (by kernel_rfl) rfl #[.slice A0 l0.length c0, .int .i64 a1] rfl (by (try simp only [List.map_toArray, List.map_cons, List.map_nil]); first | done | rfl | (simp only [List.length_drop, List.length_take]; rfl)) ?_; (with_reducible refine (spec_FindTeam.calls k _ _ l0 a1 t198 _ ?side1 ?side2 A4.out).mono ?_); (case side1 => repeat (first | exact HR0.out | (with_reducible refine Kd.C_alloc ?_ _) | (with_reducible refine Kd.C_drewN ?_ _) | (with_reducible refine Kd.C_drew ?_))); (case side2 => exact HC0.out); rintro e w' ⟨rfl, ⟨nd, rfl⟩⟩; refine ⟨_, rfl, ?_⟩; have p199 : 0 ≤ (t198 : Int) := of_decide_eq_true (by first | (with_reducible assumption) | assumption); have q199 : t198 < (l0.length : Int) := of_decide_eq_true (by first | (with_reducible assumption) | assumption); obtain ⟨ad199, A199_5, c199_5, e199, hx199_0, hx199_1, hx199_2, hx199_3, hx199_4, hx199_5, hl199_5, hi199_5⟩ := at_T61 HR0.out t198 p199 q199; cases e199; have HR199_5 := Aside0.mk hi199_5; have HC199_5 := Aside0.mk hl199_5; clear hi199_5 hl199_5; replace p199 := eq_true p199; replace q199 := eq_true q199) | (go_at_call 63; (with_reducible refine (spec_l4Has.calls k _ _ ((rd_T61 l0 t198).f5) a2 t200 _ ?side1 ?side2 A8.out).mono ?_); (case side1 => repeat (first | exact HR199_5.out | (with_reducible refine Kd.C_alloc ?_ _) | (with_reducible refine Kd.C_drewN ?_ _) | (with_reducible refine Kd.C_drew ?_))); (case side2 => exact HC199_5.out); rintro e w' ⟨rfl, ⟨nd, rfl⟩⟩))
    go_ret
    exact ⟨by first | rfl | (simp; done) | (simp [*]; done), by repeat (first | exact Drawn0.refl _ | apply Drawn0.step)⟩
   ·
    rw [if_neg c7] at H
    exact absurd H (by simp)
  ·
   rw [if_neg c6] at H
   exact absurd H (by simp)
 ·
  rw [if_neg c5] at H
  have c5b0 : decide (0 ≤ t198) = false := decide_eq_false c5
  clear c5
  obtain rfl := Option.some.inj H
  go_enter Try.func22, Try.ntmps22
  go_wp2_with (first | ((with_reducible refine gate_callee (f := 16) rfl ?_); refine goesL_ (some 10) rfl rfl Try.func16 (by kernel_rfl) rfl #[.slice A0 l0.length c0, .int .i64 a1] rfl (by (try simp only [List.map_toArray, List.map_cons, List.map_nil]); first | done | rfl | (simp only [List.length_drop, List.length_take]; rfl)) ?_; (with_reducible refine (spec_FindTeam.calls k _ _ l0 a1 t198 _ ?side1 ?side2 A4.out).mono ?_); (case side1 => repeat (first | exact HR0.out | (with_reducible refine Kd.C_alloc ?_ _) | (with_reducible refine Kd.C_drewN ?_ _) | (with_reducible refine Kd.C_drew ?_))); (case side2 => exact HC0.out); rintro e w' ⟨rfl, ⟨nd, rfl⟩⟩; refine ⟨_, rfl, ?_⟩))
  go_ret
  exact ⟨by first | rfl | (simp; done) | (simp [*]; done), by repeat (first | exact Drawn0.refl _ | apply Drawn0.step)⟩
end Go.Proofs.Ytiimiogpiflkdaa.A
end

section
namespace Go.Proofs.Ytiimiogpiflkdaa.A
open Go.RowKit Go.Proofs.YtiimiogpiflkdaaW.PrintWords Go.Proofs.YtiimiogpiflkdaaW.PrintLast Go.Proofs.YtiimiogpiflkdaaW.PrintMore
attribute [local go_sem] max2_int min2_int max_two min_two max_three min_three max_four min_four   -- for this text's walks alone
set_option linter.unusedVariables false
set_option linter.unusedSimpArgs false
def spec_MayMeet.f (k : Nat) (l0 : List (S61)) (a1 : Int) (a2 : Int) : Option (Bool) := (spec_FindTeam.f k l0 a1).bind fun t237 => ((spec_FindTeam.f k l0 a2).bind fun t238 => ((spec_AreTeams.f k l0).bind fun t239 => (if t239 = true then (if t237 ≥ 0 then (if t238 ≥ 0 then (if t237 = t238 then (some false) else (if 0 ≤ t237 then (if t237 < (l0.length : Int) then (if 0 ≤ t238 then (if t238 < (l0.length : Int) then (if ((rd_T61 l0 t237).f1) = ((rd_T61 l0 t238).f1) then (some false) else ((spec_HaveMet.f k l0 a1 a2).bind fun t242 => (some (!t242)))) else (none)) else (none)) else (none)) else (none))) else (some false)) else (some false)) else (some false))))
def spec_MayMeet.T3 : Bool × List (List Nat × List Nat) := (true, [([], []), ([0], [0]), ([1, 1], [1]), ([2], [2]), ([3, 2], [2, 3]), ([2, 4], [2, 4]), ([5, 2], [5]), ([6], [6]), ([7, 6], [6, 7]), ([6, 8], [6, 8]), ([9, 6], [9]), ([10], [10]), ([10], [10]), ([11, 12, 10], [10, 11, 12]), ([10, 13], [10, 13]), ([14, 10], [14]), ([15], [15]), ([15], [15]), ([16, 17, 15], [15, 16, 17]), ([18, 15], [15, 18]), ([19, 15], [15, 19]), ([15], [15]), ([15], [15]), ([21, 22, 15], [15, 21, 22]), ([23, 15], [15, 23]), ([24, 15], [15, 24]), ([20, 25, 15], [15, 20, 25]), ([15, 26], [15, 26]), ([27, 15], [27]), ([28], [28]), ([28], [28]), ([28], [28]), ([29, 30, 31, 28, 28], [28, 29, 30, 31]), ([32, 28], [28, 32]), ([28, 33], [28, 33]), ([34, 32, 0, 1, 2, 3, 4, 5, 6, 7, 8, 9, 10, 11, 12, 13, 14, 15, 16, 17, 18, 19, 20, 21, 22, 23, 24, 25, 26, 27, 28, 29, 30, 31, 32, 33, 34], [34])])
def spec_MayMeet.B3 : List Nat := [0, 1, 3, 7, 15, 31, 63, 127, 255, 511, 1023, 2047, 2047, 8191, 16383, 32767, 65535, 65535, 262143, 524287, 1048575, 65535, 65535, 6356991, 14745599, 31522815, 67108863, 134217727, 268435455, 536870911, 536870911, 536870911, 4294967295, 8589934591, 17179869183, 34359738367]
theorem spec_MayMeet.tab3 : rtab .any (opsOf Try.f26 3) = spec_MayMeet.T3 := by kernel_rfl
theorem spec_MayMeet.bits3 : waitsOk spec_MayMeet.T3.2 spec_MayMeet.B3 = true := by kernel_rfl
set_option maxHeartbeats 8000000 in
set_option maxRecDepth 100000 in
theorem spec_MayMeet.calls (k : Nat) (A0 : Option Addr) (c0 : Nat) (l0 : List (S61)) (a1 : Int) (a2 : Int) (r : Bool) (w : World) (hr0 : Kd.C k61 w A0 l0.length l0) (hc0 : l0.length ≤ c0) (h : spec_MayMeet.f k l0 a1 a2 = some r) :
  Calls Try.prog 26 #[.slice A0 l0.length c0, .int .i64 a1, .int .i64 a2] w fun e w' => e = .returned (.bool r) ∧ Below w.heap.size w w' := by
 have HR0 := Aside0.mk hr0
 have HC0 := Aside0.mk hc0
 clear hr0 hc0
 have HB := Aside0.mk (Below.refl w.heap.size w)
 have H : ((spec_FindTeam.f k l0 a1).bind fun t237 => ((spec_FindTeam.f k l0 a2).bind fun t238 => ((spec_AreTeams.f k l0).bind fun t239 => (if t239 = true then (if t237 ≥ 0 then (if t238 ≥ 0 then (if t237 = t238 then (some false) else (if 0 ≤ t237 then (if t237 < (l0.length : Int) then (if 0 ≤ t238 then (if t238 < (l0.length : Int) then (if ((rd_T61 l0 t237).f1) = ((rd_T61 l0 t238).f1) then (some false) else ((spec_HaveMet.f k l0 a1 a2).bind fun t242 => (some (!t242)))) else (none)) else (none)) else (none)) else (none))) else (some false)) else (some false)) else (some false))))) = some r := h
 clear h
 replace H := Option.bind_eq_some_iff.mp H
 obtain ⟨t237, A40, H⟩ := H
 replace H : ((spec_FindTeam.f k l0 a2).bind fun t238 => ((spec_AreTeams.f k l0).bind fun t239 => (if t239 = true then (if t237 ≥ 0 then (if t238 ≥ 0 then (if t237 = t238 then (some false) else (if 0 ≤ t237 then (if t237 < (l0.length : Int) then (if 0 ≤ t238 then (if t238 < (l0.length : Int) then (if ((rd_T61 l0 t237).f1) = ((rd_T61 l0 t238).f1) then (some false) else ((spec_HaveMet.f k l0 a1 a2).bind fun t242 => (some (!t242)))) else (none)) else (none)) else (none)) else (none))) else (some false)) else (some false)) else (some false)))) = some r := H
 have A4 := Aside0.mk A40
 clear A40
 replace H := Option.bind_eq_some_iff.mp H
 obtain ⟨t238, A50, H⟩ := H
 replace H : ((spec_AreTeams.f k l0).bind fun t239 => (if t239 = true then (if t237 ≥ 0 then (if t238 ≥ 0 then (if t237 = t238 then (some false) else (if 0 ≤ t237 then (if t237 < (l0.length : Int) then (if 0 ≤ t238 then (if t238 < (l0.length : Int) then (if ((rd_T61 l0 t237).f1) = ((rd_T61 l0 t238).f1) then (some false) else ((spec_HaveMet.f k l0 a1 a2).bind fun t242 => (some (!t242)))) else (none)) else (none)) else (none)) else (none))) else (some false)) else (some false)) else (some false))) = some r := H
 have A5 := Aside0.mk A50
 clear A50
 replace H := Option.bind_eq_some_iff.mp H
 obtain ⟨t239, A60, H⟩ := H
 replace H : (if t239 = true then (if t237 ≥ 0 then (if t238 ≥ 0 then (if t237 = t238 then (some false) else (if 0 ≤ t237 then (if t237 < (l0.length : Int) then (if 0 ≤ t238 then (if t238 < (l0.length : Int) then (if ((rd_T61 l0 t237).f1) = ((rd_T61 l0 t238).f1) then (some false) else ((spec_HaveMet.f k l0 a1 a2).bind fun t242 => (some (!t242)))) else (none)) else (none)) else (none)) else (none))) else (some false)) else (some false)) else (some false)) = some r := H
 have A6 := Aside0.mk A60
 clear A60
 by_cases c7 : t239 = true
 rotate_left
 ·
  replace c7 := Bool.eq_false_iff.mpr c7
  subst c7
  have H1 : (some false) = some r := by rw [if_neg (show ¬ (false = true) by decide)] at H; exact H
  clear H
  have H := H1
  clear H1
  obtain rfl := Option.some.inj H
  go_enter Try.func26, Try.ntmps26
  try go_wp2_with (first | ((with_reducible refine gate_callee (f := 16) rfl ?_); refine goesL_ (some 11) rfl rfl Try.func16 (by kernel_rfl) rfl #[.slice A0 l0.length c0, .int .i64 a1] rfl (by (try simp only [List.map_toArray, List.map_cons, List.map_nil]); first | done | rfl | (simp only [List.length_drop, List.length_take]; rfl)) ?_; (with_reducible refine (spec_FindTeam.calls k _ _ l0 a1 t237 _ ?side1 ?side2 A4.out).mono ?_); (case side1 => repeat (first | exact HR0.out | (with_reducible refine Kd.C_alloc ?_ _) | (with_reducible refine Kd.C_drewN ?_ _) | (with_reducible refine Kd.C_drew ?_))); (case side2 => exact HC0.out); rintro e w' ⟨rfl, ⟨nd, rfl⟩⟩; refine ⟨_, rfl, ?_⟩) | ((with_reducible refine gate_callee (f := 16) rfl ?_); refine goesL_ (some 14) rfl rfl Try.func16 (by kernel_rfl) rfl #[.slice A0 l0.length c0, .int .i64 a2] rfl (by (try simp only [List.map_toArray, List.map_cons, List.map_nil]); first | done | rfl | (simp only [List.length_drop, List.length_take]; rfl)) ?_; (with_reducible refine (spec_FindTeam.calls k _ _ l0 a2 t238 _ ?side1 ?side2 A5.out).mono ?_); (case side1 => repeat (first | exact HR0.out | (with_reducible refine Kd.C_alloc ?_ _) | (with_reducible refine Kd.C_drewN ?_ _) | (with_reducible refine Kd.C_drew ?_))); (case side2 => exact HC0.out); rintro e w' ⟨rfl, ⟨nd, rfl⟩⟩; refine ⟨_, rfl, ?_⟩))
  generalize hq_ : World.drewN _ _ = wq
  have n0_ : Aside0 (Below w.heap.size w wq) := ⟨by rw [← hq_]; repeat (first | exact HB.out | apply below_drew1 | apply pw_below_drewN)⟩
  clear HB hq_
  have HB := n0_
  clear n0_
  have n0_ := Aside0.mk (below_drew1 HB.out)
  clear HB
  have HB := n0_
  clear n0_
  refine start_ (n := 36) (S := fun w' => True) (ds := []) (bv 36 0) (by kernel_rfl) rfl rfl trivial (fun hHeld => ?_); refine with_tabW spec_MayMeet.tab3 spec_MayMeet.bits3 (fun HT_ HW_ => ?_)
  generalize wq.drew = w27 at HB hHeld ⊢
  refine pv_ 36 0 15 1 rfl rfl HT_ ?_
  refine one_ (i := 1) (N := some 16) (bv 36 3) rfl rfl (one_of HT_.out (by kernel_rfl)) (by decide) (fun K hK => ?_)
  refine goes_ Try.func20 (by kernel_rfl) rfl #[.slice A0 l0.length c0] (by rfl) rfl rfl (by (try simp only [List.map_toArray, List.map_cons, List.map_nil]); first | done | rfl | (simp only [List.length_drop, List.length_take]; rfl)) ?_
  with_reducible refine (spec_AreTeams.calls k _ _ l0 false _ ?side1 ?side2 A6.out).mono ?_
  (case side1 => repeat (first | exact (Kd.C_below HR0.out HB.out) | (with_reducible refine Kd.C_alloc ?_ _) | (with_reducible refine Kd.C_drewN ?_ _) | (with_reducible refine Kd.C_drew ?_)))
  (case side2 => exact HC0.out)
  rintro e w28 ⟨rfl, hb⟩
  refine ⟨_, rfl, ?_⟩
  have n0_ := Aside0.mk (below_step (by repeat (first | (with_reducible first | exact HB.out | apply below_alloc | apply pw_below_drewN | apply below_drew1) | exact HB.out)) hb)
  clear HB
  have HB := n0_
  clear n0_
  (try clear hb)
  (try clear hb2)
  (try clear hk)
  (try clear hi)
  refine hK.out _ _ trivial (fun hHeld => ?_)
  clear hK K
  refine nm_ 16 ?_
  refine pv_ 36 2 17 7 rfl rfl HT_ ?_; refine pu_ 36 3 18 15 rfl rfl HT_ ?_; refine pu_ 36 4 19 31 rfl rfl HT_ ?_; refine pv_ 36 5 20 63 rfl rfl HT_ ?_; refine pv_ 36 6 21 127 rfl rfl HT_ ?_; refine pu_ 36 7 22 255 rfl rfl HT_ ?_; refine pu_ 36 8 23 511 rfl rfl HT_ ?_; refine pv_ 36 9 24 1023 rfl rfl HT_ ?_; refine pv_ 36 10 25 2047 rfl rfl HT_ ?_; refine pu_ 36 11 26 4095 rfl rfl HT_ ?_; refine pu_ 36 12 27 8191 rfl rfl HT_ ?_; refine pu_ 36 13 28 16383 rfl rfl HT_ ?_; refine pv_ 36 14 29 32767 rfl rfl HT_ ?_; refine pv_ 36 15 30 65535 rfl rfl HT_ ?_; refine pu_ 36 16 31 131071 rfl rfl HT_ ?_; refine pu_ 36 17 32 262143 rfl rfl HT_ ?_; refine pu_ 36 18 33 524287 rfl rfl HT_ ?_; refine pu_ 36 19 34 1048575 rfl rfl HT_ ?_; refine pu_ 36 20 35 2097151 rfl rfl HT_ ?_; refine pu_ 36 21 36 4194303 rfl rfl HT_ ?_; refine pu_ 36 22 37 8388607 rfl rfl HT_ ?_; refine pu_ 36 23 38 16777215 rfl rfl HT_ ?_
  refine pu_ 36 24 39 33554431 rfl rfl HT_ ?_; refine pu_ 36 25 40 67108863 rfl rfl HT_ ?_; refine pu_ 36 26 41 134217727 rfl rfl HT_ ?_; refine pv_ 36 27 42 268435455 rfl rfl HT_ ?_; refine pv_ 36 28 43 536870911 rfl rfl HT_ ?_; refine pu_ 36 29 44 1073741823 rfl rfl HT_ ?_; refine pu_ 36 30 45 2147483647 rfl rfl HT_ ?_; refine pu_ 36 31 46 4294967295 rfl rfl HT_ ?_; refine pu_ 36 32 47 8589934591 rfl rfl HT_ ?_; refine pu_ 36 33 48 17179869183 rfl rfl HT_ ?_; refine pv_ 36 34 49 34359738367 rfl rfl HT_ ?_; refine pv_ 36 35 6 68719476735 rfl rfl HT_ ?_
  refine done_ (done_of HT_.out (by kernel_rfl)) ?_
  try go_wp2
  all_goals (go_ret; exact ⟨by first | rfl | (simp [errW_none, errW_some] <;> rfl) | (simp [*, errW_none, errW_some] <;> rfl), by repeat (first | (with_reducible first | exact HB.out | apply below_alloc | apply pw_below_drewN | apply below_drew1) | exact HB.out)⟩)

 subst c7
 have H1 : (if t237 ≥ 0 then (if t238 ≥ 0 then (if t237 = t238 then (some false) else (if 0 ≤ t237 then (if t237 < (l0.length : Int) then (if 0 ≤ t238 then (if t238 < (l0.length : Int) then (if ((rd_T61 l0 t237).f1) = ((rd_T61 l0 t238).f1) then (some false) else ((spec_HaveMet.f k l0 a1 a2).bind fun t242 => (some (!t242)))) else (none)) else (none)) else (none)) else (none))) else (some false)) else (some false)) = some r := by rw [if_pos rfl] at H; exact H
 clear H
 have H := H1
 clear H1
 by_cases c8 : t237 ≥ 0
 rotate_left
 ·
  rw [if_neg c8] at H
  have c8b0 : decide (0 ≤ t237) = false := decide_eq_false c8
  clear c8
  obtain rfl := Option.some.inj H
  go_enter Try.func26, Try.ntmps26
  try go_wp2_with (first | ((with_reducible refine gate_callee (f := 16) rfl ?_); refine goesL_ (some 11) rfl rfl Try.func16 (by kernel_rfl) rfl #[.slice A0 l0.length c0, .int .i64 a1] rfl (by (try simp only [List.map_toArray, List.map_cons, List.map_nil]); first | done | rfl | (simp only [List.length_drop, List.length_take]; rfl)) ?_; (with_reducible refine (spec_FindTeam.calls k _ _ l0 a1 t237 _ ?side1 ?side2 A4.out).mono ?_); (case side1 => repeat (first | exact HR0.out | (with_reducible refine Kd.C_alloc ?_ _) | (with_reducible refine Kd.C_drewN ?_ _) | (with_reducible refine Kd.C_drew ?_))); (case side2 => exact HC0.out); rintro e w' ⟨rfl, ⟨nd, rfl⟩⟩; refine ⟨_, rfl, ?_⟩) | ((with_reducible refine gate_callee (f := 16) rfl ?_); refine goesL_ (some 14) rfl rfl Try.func16 (by kernel_rfl) rfl #[.slice A0 l0.length c0, .int .i64 a2] rfl (by (try simp only [List.map_toArray, List.map_cons, List.map_nil]); first | done | rfl | (simp only [List.length_drop, List.length_take]; rfl)) ?_; (with_reducible refine (spec_FindTeam.calls k _ _ l0 a2 t238 _ ?side1 ?side2 A5.out).mono ?_); (case side1 => repeat (first | exact HR0.out | (with_reducible refine Kd.C_alloc ?_ _) | (with_reducible refine Kd.C_drewN ?_ _) | (with_reducible refine Kd.C_drew ?_))); (case side2 => exact HC0.out); rintro e w' ⟨rfl, ⟨nd, rfl⟩⟩; refine ⟨_, rfl, ?_⟩))
  generalize hq_ : World.drewN _ _ = wq
  have n0_ : Aside0 (Below w.heap.size w wq) := ⟨by rw [← hq_]; repeat (first | exact HB.out | apply below_drew1 | apply pw_below_drewN)⟩
  clear HB hq_
  have HB := n0_
  clear n0_
  have n0_ := Aside0.mk (below_drew1 HB.out)
  clear HB
  have HB := n0_
  clear n0_
  refine start_ (n := 36) (S := fun w' => True) (ds := []) (bv 36 0) (by kernel_rfl) rfl rfl trivial (fun hHeld => ?_); refine with_tabW spec_MayMeet.tab3 spec_MayMeet.bits3 (fun HT_ HW_ => ?_)
  generalize wq.drew = w25 at HB hHeld ⊢
  refine pv_ 36 0 15 1 rfl rfl HT_ ?_
  refine one_ (i := 1) (N := some 16) (bv 36 3) rfl rfl (one_of HT_.out (by kernel_rfl)) (by decide) (fun K hK => ?_)
  refine goes_ Try.func20 (by kernel_rfl) rfl #[.slice A0 l0.length c0] (by rfl) rfl rfl (by (try simp only [List.map_toArray, List.map_cons, List.map_nil]); first | done | rfl | (simp only [List.length_drop, List.length_take]; rfl)) ?_
  with_reducible refine (spec_AreTeams.calls k _ _ l0 true _ ?side1 ?side2 A6.out).mono ?_
  (case side1 => repeat (first | exact (Kd.C_below HR0.out HB.out) | (with_reducible refine Kd.C_alloc ?_ _) | (with_reducible refine Kd.C_drewN ?_ _) | (with_reducible refine Kd.C_drew ?_)))
  (case side2 => exact HC0.out)
  rintro e w26 ⟨rfl, hb⟩
  refine ⟨_, rfl, ?_⟩
  have n0_ := Aside0.mk (below_step (by repeat (first | (with_reducible first | exact HB.out | apply below_alloc | apply pw_below_drewN | apply below_drew1) | exact HB.out)) hb)
  clear HB
  have HB := n0_
  clear n0_
  (try clear hb)
  (try clear hb2)
  (try clear hk)
  (try clear hi)
  refine hK.out _ _ trivial (fun hHeld => ?_)
  clear hK K
  refine nm_ 16 ?_
  refine pv_ 36 2 17 7 rfl rfl HT_ ?_; refine pv_ 36 3 18 15 rfl rfl HT_ ?_; refine pv_ 36 4 19 31 rfl rfl HT_ ?_; refine pv_ 36 5 20 63 rfl rfl HT_ ?_; refine pv_ 36 6 21 127 rfl rfl HT_ ?_; refine pu_ 36 7 22 255 rfl rfl HT_ ?_; refine pu_ 36 8 23 511 rfl rfl HT_ ?_; refine pv_ 36 9 24 1023 rfl rfl HT_ ?_; refine pv_ 36 10 25 2047 rfl rfl HT_ ?_; refine pu_ 36 11 26 4095 rfl rfl HT_ ?_; refine pu_ 36 12 27 8191 rfl rfl HT_ ?_; refine pu_ 36 13 28 16383 rfl rfl HT_ ?_; refine pv_ 36 14 29 32767 rfl rfl HT_ ?_; refine pv_ 36 15 30 65535 rfl rfl HT_ ?_; refine pu_ 36 16 31 131071 rfl rfl HT_ ?_; refine pu_ 36 17 32 262143 rfl rfl HT_ ?_; refine pu_ 36 18 33 524287 rfl rfl HT_ ?_; refine pu_ 36 19 34 1048575 rfl rfl HT_ ?_; refine pu_ 36 20 35 2097151 rfl rfl HT_ ?_; refine pu_ 36 21 36 4194303 rfl rfl HT_ ?_; refine pu_ 36 22 37 8388607 rfl rfl HT_ ?_; refine pu_ 36 23 38 16777215 rfl rfl HT_ ?_
  refine pu_ 36 24 39 33554431 rfl rfl HT_ ?_; refine pu_ 36 25 40 67108863 rfl rfl HT_ ?_; refine pu_ 36 26 41 134217727 rfl rfl HT_ ?_; refine pv_ 36 27 42 268435455 rfl rfl HT_ ?_; refine pv_ 36 28 43 536870911 rfl rfl HT_ ?_; refine pu_ 36 29 44 1073741823 rfl rfl HT_ ?_; refine pu_ 36 30 45 2147483647 rfl rfl HT_ ?_; refine pu_ 36 31 46 4294967295 rfl rfl HT_ ?_; refine pu_ 36 32 47 8589934591 rfl rfl HT_ ?_; refine pu_ 36 33 48 17179869183 rfl rfl HT_ ?_; refine pv_ 36 34 49 34359738367 rfl rfl HT_ ?_; refine pv_ 36 35 6 68719476735 rfl rfl HT_ ?_
  refine done_ (done_of HT_.out (by kernel_rfl)) ?_
  try go_wp2
  all_goals (go_ret; exact ⟨by first | rfl | (simp [errW_none, errW_some] <;> rfl) | (simp [*, errW_none, errW_some] <;> rfl), by repeat (first | (with_reducible first | exact HB.out | apply below_alloc | apply pw_below_drewN | apply below_drew1) | exact HB.out)⟩)
 rw [if_pos c8] at H
 have c8b0 : decide (0 ≤ t237) = true := decide_eq_true c8
 clear c8
 by_cases c9 : t238 ≥ 0
 rotate_left
 ·
  rw [if_neg c9] at H
  have c9b0 : decide (0 ≤ t238) = false := decide_eq_false c9
  clear c9
  obtain rfl := Option.some.inj H
  go_enter Try.func26, Try.ntmps26
  try go_wp2_with (first | ((with_reducible refine gate_callee (f := 16) rfl ?_); refine goesL_ (some 11) rfl rfl Try.func16 (by kernel_rfl) rfl #[.slice A0 l0.length c0, .int .i64 a1] rfl (by (try simp only [List.map_toArray, List.map_cons, List.map_nil]); first | done | rfl | (simp only [List.length_drop, List.length_take]; rfl)) ?_; (with_reducible refine (spec_FindTeam.calls k _ _ l0 a1 t237 _ ?side1 ?side2 A4.out).mono ?_); (case side1 => repeat (first | exact HR0.out | (with_reducible refine Kd.C_alloc ?_ _) | (with_reducible refine Kd.C_drewN ?_ _) | (with_reducible refine Kd.C_drew ?_))); (case side2 => exact HC0.out); rintro e w' ⟨rfl, ⟨nd, rfl⟩⟩; refine ⟨_, rfl, ?_⟩) | ((with_reducible refine gate_callee (f := 16) rfl ?_); refine goesL_ (some 14) rfl rfl Try.func16 (by kernel_rfl) rfl #[.slice A0 l0.length c0, .int .i64 a2] rfl (by (try simp only [List.map_toArray, List.map_cons, List.map_nil]); first | done | rfl | (simp only [List.length_drop, List.length_take]; rfl)) ?_; (with_reducible refine (spec_FindTeam.calls k _ _ l0 a2 t238 _ ?side1 ?side2 A5.out).mono ?_); (case side1 => repeat (first | exact HR0.out | (with_reducible refine Kd.C_alloc ?_ _) | (with_reducible refine Kd.C_drewN ?_ _) | (with_reducible refine Kd.C_drew ?_))); (case side2 => exact HC0.out); rintro e w' ⟨rfl, ⟨nd, rfl⟩⟩; refine ⟨_, rfl, ?_⟩))
  generalize hq_ : World.drewN _ _ = wq
  have n0_ : Aside0 (Below w.heap.size w wq) := ⟨by rw [← hq_]; repeat (first | exact HB.out | apply below_drew1 | apply pw_below_drewN)⟩
  clear HB hq_
  have HB := n0_
  clear n0_
  have n0_ := Aside0.mk (below_drew1 HB.out)
  clear HB
  have HB := n0_
  clear n0_
  refine start_ (n := 36) (S := fun w' => True) (ds := []) (bv 36 0) (by kernel_rfl) rfl rfl trivial (fun hHeld => ?_); refine with_tabW spec_MayMeet.tab3 spec_MayMeet.bits3 (fun HT_ HW_ => ?_)
  generalize wq.drew = w23 at HB hHeld ⊢
  refine pv_ 36 0 15 1 rfl rfl HT_ ?_
  refine one_ (i := 1) (N := some 16) (bv 36 3) rfl rfl (one_of HT_.out (by kernel_rfl)) (by decide) (fun K hK => ?_)
  refine goes_ Try.func20 (by kernel_rfl) rfl #[.slice A0 l0.length c0] (by rfl) rfl rfl (by (try simp only [List.map_toArray, List.map_cons, List.map_nil]); first | done | rfl | (simp only [List.length_drop, List.length_take]; rfl)) ?_
  with_reducible refine (spec_AreTeams.calls k _ _ l0 true _ ?side1 ?side2 A6.out).mono ?_
  (case side1 => repeat (first | exact (Kd.C_below HR0.out HB.out) | (with_reducible refine Kd.C_alloc ?_ _) | (with_reducible refine Kd.C_drewN ?_ _) | (with_reducible refine Kd.C_drew ?_)))
  (case side2 => exact HC0.out)
  rintro e w24 ⟨rfl, hb⟩
  refine ⟨_, rfl, ?_⟩
  have n0_ := Aside0.mk (below_step (by repeat (first | (with_reducible first | exact HB.out | apply below_alloc | apply pw_below_drewN | apply below_drew1) | exact HB.out)) hb)
  clear HB
  have HB := n0_
  clear n0_
  (try clear hb)
  (try clear hb2)
  (try clear hk)
  (try clear hi)
  refine hK.out _ _ trivial (fun hHeld => ?_)
  clear hK K
  refine nm_ 16 ?_
  refine pv_ 36 2 17 7 rfl rfl HT_ ?_; refine pv_ 36 3 18 15 rfl rfl HT_ ?_; refine pv_ 36 4 19 31 rfl rfl HT_ ?_; refine pv_ 36 5 20 63 rfl rfl HT_ ?_; refine pv_ 36 6 21 127 rfl rfl HT_ ?_; refine pv_ 36 7 22 255 rfl rfl HT_ ?_; refine pv_ 36 8 23 511 rfl rfl HT_ ?_; refine pv_ 36 9 24 1023 rfl rfl HT_ ?_; refine pv_ 36 10 25 2047 rfl rfl HT_ ?_; refine pu_ 36 11 26 4095 rfl rfl HT_ ?_; refine pu_ 36 12 27 8191 rfl rfl HT_ ?_; refine pu_ 36 13 28 16383 rfl rfl HT_ ?_; refine pv_ 36 14 29 32767 rfl rfl HT_ ?_; refine pv_ 36 15 30 65535 rfl rfl HT_ ?_; refine pu_ 36 16 31 131071 rfl rfl HT_ ?_; refine pu_ 36 17 32 262143 rfl rfl HT_ ?_; refine pu_ 36 18 33 524287 rfl rfl HT_ ?_; refine pu_ 36 19 34 1048575 rfl rfl HT_ ?_; refine pu_ 36 20 35 2097151 rfl rfl HT_ ?_; refine pu_ 36 21 36 4194303 rfl rfl HT_ ?_; refine pu_ 36 22 37 8388607 rfl rfl HT_ ?_; refine pu_ 36 23 38 16777215 rfl rfl HT_ ?_
  refine pu_ 36 24 39 33554431 rfl rfl HT_ ?_; refine pu_ 36 25 40 67108863 rfl rfl HT_ ?_; refine pu_ 36 26 41 134217727 rfl rfl HT_ ?_; refine pv_ 36 27 42 268435455 rfl rfl HT_ ?_; refine pv_ 36 28 43 536870911 rfl rfl HT_ ?_; refine pu_ 36 29 44 1073741823 rfl rfl HT_ ?_; refine pu_ 36 30 45 2147483647 rfl rfl HT_ ?_; refine pu_ 36 31 46 4294967295 rfl rfl HT_ ?_; refine pu_ 36 32 47 8589934591 rfl rfl HT_ ?_; refine pu_ 36 33 48 17179869183 rfl rfl HT_ ?_; refine pv_ 36 34 49 34359738367 rfl rfl HT_ ?_; refine pv_ 36 35 6 68719476735 rfl rfl HT_ ?_
  refine done_ (done_of HT_.out (by kernel_rfl)) ?_
  try go_wp2
  all_goals (go_ret; exact ⟨by first | rfl | (simp [errW_none, errW_some] <;> rfl) | (simp [*, errW_none, errW_some] <;> rfl), by repeat (first | (with_reducible first | exact HB.out | apply below_alloc | apply pw_below_drewN | apply below_drew1) | exact HB.out)⟩)
 rw [if_pos c9] at H
 have c9b0 : decide (0 ≤ t238) = true := decide_eq_true c9
 clear c9
 by_cases c10 : t237 = t238
 rotate_left
 ·
  rw [if_neg c10] at H
  have c10b0 : (t237 == t238) = false := beq_eq_false_iff_ne.mpr c10
  have c10b1 : (t237 != t238) = true := bne_iff_ne.mpr c10
  by_cases c13 : 0 ≤ t237
  rotate_left
  ·
   rw [if_neg c13] at H
   exact absurd H (by simp)
  rw [if_pos c13] at H
  have c13b0 : decide (0 ≤ t237) = true := decide_eq_true c13
  clear c13
  by_cases c14 : t237 < (l0.length : Int)
  rotate_left
  ·
   rw [if_neg c14] at H
   exact absurd H (by simp)
  rw [if_pos c14] at H
  have c14b0 : decide (t237 < (l0.length : Int)) = true := decide_eq_true c14
  clear c14
  by_cases c15 : 0 ≤ t238
  rotate_left
  ·
   rw [if_neg c15] at H
   exact absurd H (by simp)
  rw [if_pos c15] at H
  have c15b0 : decide (0 ≤ t238) = true := decide_eq_true c15
  clear c15
  by_cases c16 : t238 < (l0.length : Int)
  rotate_left
  ·
   rw [if_neg c16] at H
   exact absurd H (by simp)
  rw [if_pos c16] at H
  have c16b0 : decide (t238 < (l0.length : Int)) = true := decide_eq_true c16
  clear c16
  by_cases c17 : ((rd_T61 l0 t237).f1) = ((rd_T61 l0 t238).f1)
  rotate_left
  ·
   rw [if_neg c17] at H
   have c17b0 : (((rd_T61 l0 t237).f1) == ((rd_T61 l0 t238).f1)) = false := beq_eq_false_iff_ne.mpr c17
   have c17b1 : (((rd_T61 l0 t237).f1) != ((rd_T61 l0 t238).f1)) = true := bne_iff_ne.mpr c17
   replace H := Option.bind_eq_some_iff.mp H
   obtain ⟨t242, A200, H⟩ := H
   replace H : (some (!t242)) = some r := H
   have A20 := Aside0.mk A200
   clear A200
   obtain rfl := Option.some.inj H
   go_enter Try.func26, Try.ntmps26
   try go_wp2_with (first | ((with_reducible refine gate_callee (f := 16) rfl ?_); refine goesL_ (some 11) rfl rfl Try.func16 (by kernel_rfl) rfl #[.slice A0 l0.length c0, .int .i64 a1] rfl (by (try simp only [List.map_toArray, List.map_cons, List.map_nil]); first | done | rfl | (simp only [List.length_drop, List.length_take]; rfl)) ?_; (with_reducible refine (spec_FindTeam.calls k _ _ l0 a1 t237 _ ?side1 ?side2 A4.out).mono ?_); (case side1 => repeat (first | exact HR0.out | (with_reducible refine Kd.C_alloc ?_ _) | (with_reducible refine Kd.C_drewN ?_ _) | (with_reducible refine Kd.C_drew ?_))); (case side2 => exact HC0.out); rintro e w' ⟨rfl, ⟨nd, rfl⟩⟩; refine ⟨_, rfl, ?_⟩) | ((with_reducible refine gate_callee (f := 16) rfl ?_); refine goesL_ (some 14) rfl rfl Try.func16 (by kernel_rfl) rfl #[.slice A0 l0.length c0, .int .i64 a2] rfl (by (try simp only [List.map_toArray, List.map_cons, List.map_nil]); first | done | rfl | (simp only [List.length_drop, List.length_take]; rfl)) ?_; (with_reducible refine (spec_FindTeam.calls k _ _ l0 a2 t238 _ ?side1 ?side2 A5.out).mono ?_); (case side1 => repeat (first | exact HR0.out | (with_reducible refine Kd.C_alloc ?_ _) | (with_reducible refine Kd.C_drewN ?_ _) | (with_reducible refine Kd.C_drew ?_))); (case side2 => exact HC0.out); rintro e w' ⟨rfl, ⟨nd, rfl⟩⟩; refine ⟨_, rfl, ?_⟩))
   generalize hq_ : World.drewN _ _ = wq
   have n0_ : Aside0 (Below w.heap.size w wq) := ⟨by rw [← hq_]; repeat (first | exact HB.out | apply below_drew1 | apply pw_below_drewN)⟩
   clear HB hq_
   have HB := n0_
   clear n0_
   have n0_ := Aside0.mk (below_drew1 HB.out)
   clear HB
   have HB := n0_
   clear n0_
   have p240 : 0 ≤ (t237 : Int) := of_decide_eq_true (by first | (with_reducible assumption) | assumption)
   have q240 : t237 < (l0.length : Int) := of_decide_eq_true (by first | (with_reducible assumption) | assumption)
   obtain ⟨ad240, A240_5, c240_5, e240, hx240_0, hx240_1, hx240_2, hx240_3, hx240_4, hx240_5, hl240_5, hi240_5⟩ := at_T61 HR0.out t237 p240 q240
   have hw240_5 := hx240_5
   have hw240_4 := hx240_4
   have hw240_3 := hx240_3
   have hw240_2 := hx240_2
   have hw240_1 := hx240_1
   have hw240_0 := hx240_0
   cases e240
   replace hx240_0 := (HB.out.cell (World.block_lt_of_cell? w _ hx240_0)).trans hx240_0
   replace hx240_1 := (HB.out.cell (World.block_lt_of_cell? w _ hx240_1)).trans hx240_1
   replace hx240_2 := (HB.out.cell (World.block_lt_of_cell? w _ hx240_2)).trans hx240_2
   replace hx240_3 := (HB.out.cell (World.block_lt_of_cell? w _ hx240_3)).trans hx240_3
   replace hx240_4 := (HB.out.cell (World.block_lt_of_cell? w _ hx240_4)).trans hx240_4
   replace hx240_5 := (HB.out.cell (World.block_lt_of_cell? w _ hx240_5)).trans hx240_5
   have HR240_5 := Aside0.mk hi240_5
   have HC240_5 := Aside0.mk hl240_5
   clear hi240_5 hl240_5
   replace p240 := eq_true p240
   replace q240 := eq_true q240
   have p241 : 0 ≤ (t238 : Int) := of_decide_eq_true (by first | (with_reducible assumption) | assumption)
   have q241 : t238 < (l0.length : Int) := of_decide_eq_true (by first | (with_reducible assumption) | assumption)
   obtain ⟨ad241, A241_5, c241_5, e241, hx241_0, hx241_1, hx241_2, hx241_3, hx241_4, hx241_5, hl241_5, hi241_5⟩ := at_T61 HR0.out t238 p241 q241
   have hw241_5 := hx241_5
   have hw241_4 := hx241_4
   have hw241_3 := hx241_3
   have hw241_2 := hx241_2
   have hw241_1 := hx241_1
   have hw241_0 := hx241_0
   obtain rfl : ad240 = ad241 := (by injection e241)
   replace hx241_0 := (HB.out.cell (World.block_lt_of_cell? w _ hx241_0)).trans hx241_0
   replace hx241_1 := (HB.out.cell (World.block_lt_of_cell? w _ hx241_1)).trans hx241_1
   replace hx241_2 := (HB.out.cell (World.block_lt_of_cell? w _ hx241_2)).trans hx241_2
   replace hx241_3 := (HB.out.cell (World.block_lt_of_cell? w _ hx241_3)).trans hx241_3
   replace hx241_4 := (HB.out.cell (World.block_lt_of_cell? w _ hx241_4)).trans hx241_4
   replace hx241_5 := (HB.out.cell (World.block_lt_of_cell? w _ hx241_5)).trans hx241_5
   have HR241_5 := Aside0.mk hi241_5
   have HC241_5 := Aside0.mk hl241_5
   clear hi241_5 hl241_5
   replace p241 := eq_true p241
   replace q241 := eq_true q241
   refine start_ (n := 36) (S := fun w' => w'.cell? (ad240.add ((t237).toNat * 6)) = some (.int .i64 ((rd_T61 l0 t237).f0)) ∧ w'.cell? ⟨(ad240.add ((t237).toNat * 6)).block, (ad240.add ((t237).toNat * 6)).off + 1, none⟩ = some (.int .i64 ((rd_T61 l0 t237).f1)) ∧ w'.cell? ⟨(ad240.add ((t237).toNat * 6)).block, (ad240.add ((t237).toNat * 6)).off + 2, none⟩ = some (.int .i64 ((rd_T61 l0 t237).f2)) ∧ w'.cell? ⟨(ad240.add ((t237).toNat * 6)).block, (ad240.add ((t237).toNat * 6)).off + 3, none⟩ = some (.int .i64 ((rd_T61 l0 t237).f3)) ∧ w'.cell? ⟨(ad240.add ((t237).toNat * 6)).block, (ad240.add ((t237).toNat * 6)).off + 4, none⟩ = some (.int .i64 ((rd_T61 l0 t237).f4)) ∧ w'.cell? ⟨(ad240.add ((t237).toNat * 6)).block, (ad240.add ((t237).toNat * 6)).off + 5, none⟩ = some (.slice A240_5 ((rd_T61 l0 t237).f5).length c240_5) ∧ w'.cell? (ad240.add ((t238).toNat * 6)) = some (.int .i64 ((rd_T61 l0 t238).f0)) ∧ w'.cell? ⟨(ad240.add ((t238).toNat * 6)).block, (ad240.add ((t238).toNat * 6)).off + 1, none⟩ = some (.int .i64 ((rd_T61 l0 t238).f1)) ∧ w'.cell? ⟨(ad240.add ((t238).toNat * 6)).block, (ad240.add ((t238).toNat * 6)).off + 2, none⟩ = some (.int .i64 ((rd_T61 l0 t238).f2)) ∧ w'.cell? ⟨(ad240.add ((t238).toNat * 6)).block, (ad240.add ((t238).toNat * 6)).off + 3, none⟩ = some (.int .i64 ((rd_T61 l0 t238).f3)) ∧ w'.cell? ⟨(ad240.add ((t238).toNat * 6)).block, (ad240.add ((t238).toNat * 6)).off + 4, none⟩ = some (.int .i64 ((rd_T61 l0 t238).f4)) ∧ w'.cell? ⟨(ad240.add ((t238).toNat * 6)).block, (ad240.add ((t238).toNat * 6)).off + 5, none⟩ = some (.slice A241_5 ((rd_T61 l0 t238).f5).length c241_5)) (ds := []) (bv 36 0) (by kernel_rfl) rfl rfl ⟨((HB.out.cell (World.block_lt_of_cell? w _ hw240_0)).trans hw240_0), ((HB.out.cell (World.block_lt_of_cell? w _ hw240_1)).trans hw240_1), ((HB.out.cell (World.block_lt_of_cell? w _ hw240_2)).trans hw240_2), ((HB.out.cell (World.block_lt_of_cell? w _ hw240_3)).trans hw240_3), ((HB.out.cell (World.block_lt_of_cell? w _ hw240_4)).trans hw240_4), ((HB.out.cell (World.block_lt_of_cell? w _ hw240_5)).trans hw240_5), ((HB.out.cell (World.block_lt_of_cell? w _ hw241_0)).trans hw241_0), ((HB.out.cell (World.block_lt_of_cell? w _ hw241_1)).trans hw241_1), ((HB.out.cell (World.block_lt_of_cell? w _ hw241_2)).trans hw241_2), ((HB.out.cell (World.block_lt_of_cell? w _ hw241_3)).trans hw241_3), ((HB.out.cell (World.block_lt_of_cell? w _ hw241_4)).trans hw241_4), ((HB.out.cell (World.block_lt_of_cell? w _ hw241_5)).trans hw241_5)⟩ (fun hHeld => ?_); refine with_tabW spec_MayMeet.tab3 spec_MayMeet.bits3 (fun HT_ HW_ => ?_)
   generalize wq.drew = w21 at HB HR240_5 HR241_5 hx240_0 hx240_1 hx240_2 hx240_3 hx240_4 hx240_5 hx241_0 hx241_1 hx241_2 hx241_3 hx241_4 hx241_5 hHeld ⊢
   refine pv_ 36 0 15 1 rfl rfl HT_ ?_
   refine one_ (i := 1) (N := some 16) (bv 36 3) rfl rfl (one_of HT_.out (by kernel_rfl)) (by decide) (fun K hK => ?_)
   refine goes_ Try.func20 (by kernel_rfl) rfl #[.slice (some ad240) l0.length c0] (by rfl) rfl rfl (by (try simp only [List.map_toArray, List.map_cons, List.map_nil]); first | done | rfl | (simp only [List.length_drop, List.length_take]; rfl)) ?_
   with_reducible refine (spec_AreTeams.calls k _ _ l0 true _ ?side1 ?side2 A6.out).mono ?_
   (case side1 => repeat (first | exact (Kd.C_below HR0.out HB.out) | (with_reducible refine Kd.C_alloc ?_ _) | (with_reducible refine Kd.C_drewN ?_ _) | (with_reducible refine Kd.C_drew ?_)))
   (case side2 => exact HC0.out)
   rintro e w22 ⟨rfl, hb⟩
   refine ⟨_, rfl, ?_⟩
   have n0_ := Aside0.mk (below_step (by repeat (first | (with_reducible first | exact HB.out | apply below_alloc | apply pw_below_drewN | apply below_drew1) | exact HB.out)) hb)
   clear HB
   have HB := n0_
   clear n0_
   (try clear hb)
   (try clear hb2)
   (try clear hk)
   (try clear hi)
   refine hK.out _ _ ⟨((HB.out.cell (World.block_lt_of_cell? w _ hw240_0)).trans hw240_0), ((HB.out.cell (World.block_lt_of_cell? w _ hw240_1)).trans hw240_1), ((HB.out.cell (World.block_lt_of_cell? w _ hw240_2)).trans hw240_2), ((HB.out.cell (World.block_lt_of_cell? w _ hw240_3)).trans hw240_3), ((HB.out.cell (World.block_lt_of_cell? w _ hw240_4)).trans hw240_4), ((HB.out.cell (World.block_lt_of_cell? w _ hw240_5)).trans hw240_5), ((HB.out.cell (World.block_lt_of_cell? w _ hw241_0)).trans hw241_0), ((HB.out.cell (World.block_lt_of_cell? w _ hw241_1)).trans hw241_1), ((HB.out.cell (World.block_lt_of_cell? w _ hw241_2)).trans hw241_2), ((HB.out.cell (World.block_lt_of_cell? w _ hw241_3)).trans hw241_3), ((HB.out.cell (World.block_lt_of_cell? w _ hw241_4)).trans hw241_4), ((HB.out.cell (World.block_lt_of_cell? w _ hw241_5)).trans hw241_5)⟩ (fun hHeld => ?_)
   clear hK K
   refine nm_ 16 ?_
   refine pv_ 36 2 17 7 rfl rfl HT_ ?_; refine pv_ 36 3 18 15 rfl rfl HT_ ?_; refine pv_ 36 4 19 31 rfl rfl HT_ ?_; refine pv_ 36 5 20 63 rfl rfl HT_ ?_; refine pv_ 36 6 21 127 rfl rfl HT_ ?_; refine pv_ 36 7 22 255 rfl rfl HT_ ?_; refine pv_ 36 8 23 511 rfl rfl HT_ ?_; refine pv_ 36 9 24 1023 rfl rfl HT_ ?_; refine pv_ 36 10 25 2047 rfl rfl HT_ ?_; refine pv_ 36 11 26 4095 rfl rfl HT_ ?_; refine pv_ 36 12 27 8191 rfl rfl HT_ ?_; refine pv_ 36 13 28 16383 rfl rfl HT_ ?_; refine pv_ 36 14 29 32767 rfl rfl HT_ ?_; refine pv_ 36 15 30 65535 rfl rfl HT_ ?_; refine pv_ 36 16 31 131071 rfl rfl HT_ ?_; refine pv_ 36 17 32 262143 rfl rfl HT_ ?_; refine pv_ 36 18 33 524287 rfl rfl HT_ ?_; refine pv_ 36 19 34 1048575 rfl rfl HT_ ?_; refine pv_ 36 21 36 3145727 rfl rfl HT_ ?_; refine pv_ 36 22 37 7340031 rfl rfl HT_ ?_; refine pv_ 36 23 38 15728639 rfl rfl HT_ ?_; refine pv_ 36 24 39 32505855 rfl rfl HT_ ?_
   refine tv_ 36 20 35 33554431 rfl rfl HT_ HW_ hHeld (by rintro w' ⟨s0, s1, s2, s3, s4, s5, s6, s7, s8, s9, s10, s11⟩; go_simp; with_reducible rfl) ?_
   refine tv_ 36 25 40 67108863 rfl rfl HT_ HW_ hHeld (by rintro w' ⟨s0, s1, s2, s3, s4, s5, s6, s7, s8, s9, s10, s11⟩; go_simp; with_reducible rfl) ?_
   refine pv_ 36 26 41 134217727 rfl rfl HT_ ?_; refine pv_ 36 27 42 268435455 rfl rfl HT_ ?_; refine pv_ 36 28 43 536870911 rfl rfl HT_ ?_; refine pv_ 36 29 44 1073741823 rfl rfl HT_ ?_; refine pv_ 36 30 45 2147483647 rfl rfl HT_ ?_; refine pv_ 36 31 46 4294967295 rfl rfl HT_ ?_
   refine one_ (i := 32) (N := some 47) (bv 36 8589934591) rfl rfl (one_of HT_.out (by kernel_rfl)) (by decide) (fun K hK => ?_)
   refine goes_ Try.func22 (by kernel_rfl) rfl #[.slice (some ad240) l0.length c0, .int .i64 a1, .int .i64 a2] (by rfl) rfl rfl (by (try simp only [List.map_toArray, List.map_cons, List.map_nil]); first | done | rfl | (simp only [List.length_drop, List.length_take]; rfl)) ?_
   with_reducible refine (spec_HaveMet.calls k _ _ l0 a1 a2 t242 _ ?side1 ?side2 A20.out).mono ?_
   (case side1 => repeat (first | exact (Kd.C_below HR0.out HB.out) | (with_reducible refine Kd.C_alloc ?_ _) | (with_reducible refine Kd.C_drewN ?_ _) | (with_reducible refine Kd.C_drew ?_)))
   (case side2 => exact HC0.out)
   rintro e w' ⟨rfl, ⟨nd, rfl⟩⟩
   refine ⟨_, rfl, ?_⟩
   refine hK.out _ _ ⟨((HB.out.cell (World.block_lt_of_cell? w _ hw240_0)).trans hw240_0), ((HB.out.cell (World.block_lt_of_cell? w _ hw240_1)).trans hw240_1), ((HB.out.cell (World.block_lt_of_cell? w _ hw240_2)).trans hw240_2), ((HB.out.cell (World.block_lt_of_cell? w _ hw240_3)).trans hw240_3), ((HB.out.cell (World.block_lt_of_cell? w _ hw240_4)).trans hw240_4), ((HB.out.cell (World.block_lt_of_cell? w _ hw240_5)).trans hw240_5), ((HB.out.cell (World.block_lt_of_cell? w _ hw241_0)).trans hw241_0), ((HB.out.cell (World.block_lt_of_cell? w _ hw241_1)).trans hw241_1), ((HB.out.cell (World.block_lt_of_cell? w _ hw241_2)).trans hw241_2), ((HB.out.cell (World.block_lt_of_cell? w _ hw241_3)).trans hw241_3), ((HB.out.cell (World.block_lt_of_cell? w _ hw241_4)).trans hw241_4), ((HB.out.cell (World.block_lt_of_cell? w _ hw241_5)).trans hw241_5)⟩ (fun hHeld => ?_)
   clear hK K
   refine nm_ 47 ?_
   refine pv_ 36 33 48 17179869183 rfl rfl HT_ ?_; refine pv_ 36 34 49 34359738367 rfl rfl HT_ ?_; refine pv_ 36 35 6 68719476735 rfl rfl HT_ ?_
   refine done_ (done_of HT_.out (by kernel_rfl)) ?_
   try go_wp2
   all_goals (go_ret; exact ⟨by first | rfl | (simp [errW_none, errW_some] <;> rfl) | (simp [*, errW_none, errW_some] <;> rfl), by repeat (first | (with_reducible first | exact HB.out | apply below_alloc | apply pw_below_drewN | apply below_drew1) | exact HB.out)⟩)
  rw [if_pos c17] at H
  have c17b0 : (((rd_T61 l0 t237).f1) == ((rd_T61 l0 t238).f1)) = true := beq_iff_eq.mpr c17
  have c17b1 : (((rd_T61 l0 t237).f1) != ((rd_T61 l0 t238).f1)) = false := bne_eq_false_iff_eq.mpr c17
  clear c17
  obtain rfl := Option.some.inj H
  go_enter Try.func26, Try.ntmps26
  try go_wp2_with (first | ((with_reducible refine gate_callee (f := 16) rfl ?_); refine goesL_ (some 11) rfl rfl Try.func16 (by kernel_rfl) rfl #[.slice A0 l0.length c0, .int .i64 a1] rfl (by (try simp only [List.map_toArray, List.map_cons, List.map_nil]); first | done | rfl | (simp only [List.length_drop, List.length_take]; rfl)) ?_; (with_reducible refine (spec_FindTeam.calls k _ _ l0 a1 t237 _ ?side1 ?side2 A4.out).mono ?_); (case side1 => repeat (first | exact HR0.out | (with_reducible refine Kd.C_alloc ?_ _) | (with_reducible refine Kd.C_drewN ?_ _) | (with_reducible refine Kd.C_drew ?_))); (case side2 => exact HC0.out); rintro e w' ⟨rfl, ⟨nd, rfl⟩⟩; refine ⟨_, rfl, ?_⟩) | ((with_reducible refine gate_callee (f := 16) rfl ?_); refine goesL_ (some 14) rfl rfl Try.func16 (by kernel_rfl) rfl #[.slice A0 l0.length c0, .int .i64 a2] rfl (by (try simp only [List.map_toArray, List.map_cons, List.map_nil]); first | done | rfl | (simp only [List.length_drop, List.length_take]; rfl)) ?_; (with_reducible refine (spec_FindTeam.calls k _ _ l0 a2 t238 _ ?side1 ?side2 A5.out).mono ?_); (case side1 => repeat (first | exact HR0.out | (with_reducible refine Kd.C_alloc ?_ _) | (with_reducible refine Kd.C_drewN ?_ _) | (with_reducible refine Kd.C_drew ?_))); (case side2 => exact HC0.out); rintro e w' ⟨rfl, ⟨nd, rfl⟩⟩; refine ⟨_, rfl, ?_⟩))
  generalize hq_ : World.drewN _ _ = wq
  have n0_ : Aside0 (Below w.heap.size w wq) := ⟨by rw [← hq_]; repeat (first | exact HB.out | apply below_drew1 | apply pw_below_drewN)⟩
  clear HB hq_
  have HB := n0_
  clear n0_
  have n0_ := Aside0.mk (below_drew1 HB.out)
  clear HB
  have HB := n0_
  clear n0_
  have p240 : 0 ≤ (t237 : Int) := of_decide_eq_true (by first | (with_reducible assumption) | assumption)
  have q240 : t237 < (l0.length : Int) := of_decide_eq_true (by first | (with_reducible assumption) | assumption)
  obtain ⟨ad240, A240_5, c240_5, e240, hx240_0, hx240_1, hx240_2, hx240_3, hx240_4, hx240_5, hl240_5, hi240_5⟩ := at_T61 HR0.out t237 p240 q240
  have hw240_5 := hx240_5
  have hw240_4 := hx240_4
  have hw240_3 := hx240_3
  have hw240_2 := hx240_2
  have hw240_1 := hx240_1
  have hw240_0 := hx240_0
  cases e240
  replace hx240_0 := (HB.out.cell (World.block_lt_of_cell? w _ hx240_0)).trans hx240_0
  replace hx240_1 := (HB.out.cell (World.block_lt_of_cell? w _ hx240_1)).trans hx240_1
  replace hx240_2 := (HB.out.cell (World.block_lt_of_cell? w _ hx240_2)).trans hx240_2
  replace hx240_3 := (HB.out.cell (World.block_lt_of_cell? w _ hx240_3)).trans hx240_3
  replace hx240_4 := (HB.out.cell (World.block_lt_of_cell? w _ hx240_4)).trans hx240_4
  replace hx240_5 := (HB.out.cell (World.block_lt_of_cell? w _ hx240_5)).trans hx240_5
  have HR240_5 := Aside0.mk hi240_5
  have HC240_5 := Aside0.mk hl240_5
  clear hi240_5 hl240_5
  replace p240 := eq_true p240
  replace q240 := eq_true q240
  have p241 : 0 ≤ (t238 : Int) := of_decide_eq_true (by first | (with_reducible assumption) | assumption)
  have q241 : t238 < (l0.length : Int) := of_decide_eq_true (by first | (with_reducible assumption) | assumption)
  obtain ⟨ad241, A241_5, c241_5, e241, hx241_0, hx241_1, hx241_2, hx241_3, hx241_4, hx241_5, hl241_5, hi241_5⟩ := at_T61 HR0.out t238 p241 q241
  have hw241_5 := hx241_5
  have hw241_4 := hx241_4
  have hw241_3 := hx241_3
  have hw241_2 := hx241_2
  have hw241_1 := hx241_1
  have hw241_0 := hx241_0
  obtain rfl : ad240 = ad241 := (by injection e241)
  replace hx241_0 := (HB.out.cell (World.block_lt_of_cell? w _ hx241_0)).trans hx241_0
  replace hx241_1 := (HB.out.cell (World.block_lt_of_cell? w _ hx241_1)).trans hx241_1
  replace hx241_2 := (HB.out.cell (World.block_lt_of_cell? w _ hx241_2)).trans hx241_2
  replace hx241_3 := (HB.out.cell (World.block_lt_of_cell? w _ hx241_3)).trans hx241_3
  replace hx241_4 := (HB.out.cell (World.block_lt_of_cell? w _ hx241_4)).trans hx241_4
  replace hx241_5 := (HB.out.cell (World.block_lt_of_cell? w _ hx241_5)).trans hx241_5
  have HR241_5 := Aside0.mk hi241_5
  have HC241_5 := Aside0.mk hl241_5
  clear hi241_5 hl241_5
  replace p241 := eq_true p241
  replace q241 := eq_true q241
  refine start_ (n := 36) (S := fun w' => w'.cell? (ad240.add ((t237).toNat * 6)) = some (.int .i64 ((rd_T61 l0 t237).f0)) ∧ w'.cell? ⟨(ad240.add ((t237).toNat * 6)).block, (ad240.add ((t237).toNat * 6)).off + 1, none⟩ = some (.int .i64 ((rd_T61 l0 t237).f1)) ∧ w'.cell? ⟨(ad240.add ((t237).toNat * 6)).block, (ad240.add ((t237).toNat * 6)).off + 2, none⟩ = some (.int .i64 ((rd_T61 l0 t237).f2)) ∧ w'.cell? ⟨(ad240.add ((t237).toNat * 6)).block, (ad240.add ((t237).toNat * 6)).off + 3, none⟩ = some (.int .i64 ((rd_T61 l0 t237).f3)) ∧ w'.cell? ⟨(ad240.add ((t237).toNat * 6)).block, (ad240.add ((t237).toNat * 6)).off + 4, none⟩ = some (.int .i64 ((rd_T61 l0 t237).f4)) ∧ w'.cell? ⟨(ad240.add ((t237).toNat * 6)).block, (ad240.add ((t237).toNat * 6)).off + 5, none⟩ = some (.slice A240_5 ((rd_T61 l0 t237).f5).length c240_5) ∧ w'.cell? (ad240.add ((t238).toNat * 6)) = some (.int .i64 ((rd_T61 l0 t238).f0)) ∧ w'.cell? ⟨(ad240.add ((t238).toNat * 6)).block, (ad240.add ((t238).toNat * 6)).off + 1, none⟩ = some (.int .i64 ((rd_T61 l0 t238).f1)) ∧ w'.cell? ⟨(ad240.add ((t238).toNat * 6)).block, (ad240.add ((t238).toNat * 6)).off + 2, none⟩ = some (.int .i64 ((rd_T61 l0 t238).f2)) ∧ w'.cell? ⟨(ad240.add ((t238).toNat * 6)).block, (ad240.add ((t238).toNat * 6)).off + 3, none⟩ = some (.int .i64 ((rd_T61 l0 t238).f3)) ∧ w'.cell? ⟨(ad240.add ((t238).toNat * 6)).block, (ad240.add ((t238).toNat * 6)).off + 4, none⟩ = some (.int .i64 ((rd_T61 l0 t238).f4)) ∧ w'.cell? ⟨(ad240.add ((t238).toNat * 6)).block, (ad240.add ((t238).toNat * 6)).off + 5, none⟩ = some (.slice A241_5 ((rd_T61 l0 t238).f5).length c241_5)) (ds := []) (bv 36 0) (by kernel_rfl) rfl rfl ⟨((HB.out.cell (World.block_lt_of_cell? w _ hw240_0)).trans hw240_0), ((HB.out.cell (World.block_lt_of_cell? w _ hw240_1)).trans hw240_1), ((HB.out.cell (World.block_lt_of_cell? w _ hw240_2)).trans hw240_2), ((HB.out.cell (World.block_lt_of_cell? w _ hw240_3)).trans hw240_3), ((HB.out.cell (World.block_lt_of_cell? w _ hw240_4)).trans hw240_4), ((HB.out.cell (World.block_lt_of_cell? w _ hw240_5)).trans hw240_5), ((HB.out.cell (World.block_lt_of_cell? w _ hw241_0)).trans hw241_0), ((HB.out.cell (World.block_lt_of_cell? w _ hw241_1)).trans hw241_1), ((HB.out.cell (World.block_lt_of_cell? w _ hw241_2)).trans hw241_2), ((HB.out.cell (World.block_lt_of_cell? w _ hw241_3)).trans hw241_3), ((HB.out.cell (World.block_lt_of_cell? w _ hw241_4)).trans hw241_4), ((HB.out.cell (World.block_lt_of_cell? w _ hw241_5)).trans hw241_5)⟩ (fun hHeld => ?_); refine with_tabW spec_MayMeet.tab3 spec_MayMeet.bits3 (fun HT_ HW_ => ?_)
  generalize wq.drew = w18 at HB HR240_5 HR241_5 hx240_0 hx240_1 hx240_2 hx240_3 hx240_4 hx240_5 hx241_0 hx241_1 hx241_2 hx241_3 hx241_4 hx241_5 hHeld ⊢
  refine pv_ 36 0 15 1 rfl rfl HT_ ?_
  refine one_ (i := 1) (N := some 16) (bv 36 3) rfl rfl (one_of HT_.out (by kernel_rfl)) (by decide) (fun K hK => ?_)
  refine goes_ Try.func20 (by kernel_rfl) rfl #[.slice (some ad240) l0.length c0] (by rfl) rfl rfl (by (try simp only [List.map_toArray, List.map_cons, List.map_nil]); first | done | rfl | (simp only [List.length_drop, List.length_take]; rfl)) ?_
  with_reducible refine (spec_AreTeams.calls k _ _ l0 true _ ?side1 ?side2 A6.out).mono ?_
  (case side1 => repeat (first | exact (Kd.C_below HR0.out HB.out) | (with_reducible refine Kd.C_alloc ?_ _) | (with_reducible refine Kd.C_drewN ?_ _) | (with_reducible refine Kd.C_drew ?_)))
  (case side2 => exact HC0.out)
  rintro e w19 ⟨rfl, hb⟩
  refine ⟨_, rfl, ?_⟩
  have n0_ := Aside0.mk (below_step (by repeat (first | (with_reducible first | exact HB.out | apply below_alloc | apply pw_below_drewN | apply below_drew1) | exact HB.out)) hb)
  clear HB
  have HB := n0_
  clear n0_
  (try clear hb)
  (try clear hb2)
  (try clear hk)
  (try clear hi)
  refine hK.out _ _ ⟨((HB.out.cell (World.block_lt_of_cell? w _ hw240_0)).trans hw240_0), ((HB.out.cell (World.block_lt_of_cell? w _ hw240_1)).trans hw240_1), ((HB.out.cell (World.block_lt_of_cell? w _ hw240_2)).trans hw240_2), ((HB.out.cell (World.block_lt_of_cell? w _ hw240_3)).trans hw240_3), ((HB.out.cell (World.block_lt_of_cell? w _ hw240_4)).trans hw240_4), ((HB.out.cell (World.block_lt_of_cell? w _ hw240_5)).trans hw240_5), ((HB.out.cell (World.block_lt_of_cell? w _ hw241_0)).trans hw241_0), ((HB.out.cell (World.block_lt_of_cell? w _ hw241_1)).trans hw241_1), ((HB.out.cell (World.block_lt_of_cell? w _ hw241_2)).trans hw241_2), ((HB.out.cell (World.block_lt_of_cell? w _ hw241_3)).trans hw241_3), ((HB.out.cell (World.block_lt_of_cell? w _ hw241_4)).trans hw241_4), ((HB.out.cell (World.block_lt_of_cell? w _ hw241_5)).trans hw241_5)⟩ (fun hHeld => ?_)
  clear hK K
  refine nm_ 16 ?_
  refine pv_ 36 2 17 7 rfl rfl HT_ ?_; refine pv_ 36 3 18 15 rfl rfl HT_ ?_; refine pv_ 36 4 19 31 rfl rfl HT_ ?_; refine pv_ 36 5 20 63 rfl rfl HT_ ?_; refine pv_ 36 6 21 127 rfl rfl HT_ ?_; refine pv_ 36 7 22 255 rfl rfl HT_ ?_; refine pv_ 36 8 23 511 rfl rfl HT_ ?_; refine pv_ 36 9 24 1023 rfl rfl HT_ ?_; refine pv_ 36 10 25 2047 rfl rfl HT_ ?_; refine pv_ 36 11 26 4095 rfl rfl HT_ ?_; refine pv_ 36 12 27 8191 rfl rfl HT_ ?_; refine pv_ 36 13 28 16383 rfl rfl HT_ ?_; refine pv_ 36 14 29 32767 rfl rfl HT_ ?_; refine pv_ 36 15 30 65535 rfl rfl HT_ ?_; refine pv_ 36 16 31 131071 rfl rfl HT_ ?_; refine pv_ 36 17 32 262143 rfl rfl HT_ ?_; refine pv_ 36 18 33 524287 rfl rfl HT_ ?_; refine pv_ 36 19 34 1048575 rfl rfl HT_ ?_; refine pv_ 36 21 36 3145727 rfl rfl HT_ ?_; refine pv_ 36 22 37 7340031 rfl rfl HT_ ?_; refine pv_ 36 23 38 15728639 rfl rfl HT_ ?_; refine pv_ 36 24 39 32505855 rfl rfl HT_ ?_
  refine tv_ 36 20 35 33554431 rfl rfl HT_ HW_ hHeld (by rintro w' ⟨s0, s1, s2, s3, s4, s5, s6, s7, s8, s9, s10, s11⟩; go_simp; with_reducible rfl) ?_
  refine tv_ 36 25 40 67108863 rfl rfl HT_ HW_ hHeld (by rintro w' ⟨s0, s1, s2, s3, s4, s5, s6, s7, s8, s9, s10, s11⟩; go_simp; with_reducible rfl) ?_
  refine pv_ 36 26 41 134217727 rfl rfl HT_ ?_; refine pv_ 36 27 42 268435455 rfl rfl HT_ ?_; refine pv_ 36 28 43 536870911 rfl rfl HT_ ?_; refine pu_ 36 29 44 1073741823 rfl rfl HT_ ?_; refine pu_ 36 30 45 2147483647 rfl rfl HT_ ?_; refine pu_ 36 31 46 4294967295 rfl rfl HT_ ?_; refine pu_ 36 32 47 8589934591 rfl rfl HT_ ?_; refine pu_ 36 33 48 17179869183 rfl rfl HT_ ?_; refine pv_ 36 34 49 34359738367 rfl rfl HT_ ?_; refine pv_ 36 35 6 68719476735 rfl rfl HT_ ?_
  refine done_ (done_of HT_.out (by kernel_rfl)) ?_
  try go_wp2
  all_goals (go_ret; exact ⟨by first | rfl | (simp [errW_none, errW_some] <;> rfl) | (simp [*, errW_none, errW_some] <;> rfl), by repeat (first | (with_reducible first | exact HB.out | apply below_alloc | apply pw_below_drewN | apply below_drew1) | exact HB.out)⟩)
 rw [if_pos c10] at H
 have c10b0 : (t237 == t238) = true := beq_iff_eq.mpr c10
 have c10b1 : (t237 != t238) = false := bne_eq_false_iff_eq.mpr c10
 clear c10
 obtain rfl := Option.some.inj H
 go_enter Try.func26, Try.ntmps26
 try go_wp2_with (first | ((with_reducible refine gate_callee (f := 16) rfl ?_); refine goesL_ (some 11) rfl rfl Try.func16 (by kernel_rfl) rfl #[.slice A0 l0.length c0, .int .i64 a1] rfl (by (try simp only [List.map_toArray, List.map_cons, List.map_nil]); first | done | rfl | (simp only [List.length_drop, List.length_take]; rfl)) ?_; (with_reducible refine (spec_FindTeam.calls k _ _ l0 a1 t237 _ ?side1 ?side2 A4.out).mono ?_); (case side1 => repeat (first | exact HR0.out | (with_reducible refine Kd.C_alloc ?_ _) | (with_reducible refine Kd.C_drewN ?_ _) | (with_reducible refine Kd.C_drew ?_))); (case side2 => exact HC0.out); rintro e w' ⟨rfl, ⟨nd, rfl⟩⟩; refine ⟨_, rfl, ?_⟩) | ((with_reducible refine gate_callee (f := 16) rfl ?_); refine goesL_ (some 14) rfl rfl Try.func16 (by kernel_rfl) rfl #[.slice A0 l0.length c0, .int .i64 a2] rfl (by (try simp only [List.map_toArray, List.map_cons, List.map_nil]); first | done | rfl | (simp only [List.length_drop, List.length_take]; rfl)) ?_; (with_reducible refine (spec_FindTeam.calls k _ _ l0 a2 t238 _ ?side1 ?side2 A5.out).mono ?_); (case side1 => repeat (first | exact HR0.out | (with_reducible refine Kd.C_alloc ?_ _) | (with_reducible refine Kd.C_drewN ?_ _) | (with_reducible refine Kd.C_drew ?_))); (case side2 => exact HC0.out); rintro e w' ⟨rfl, ⟨nd, rfl⟩⟩; refine ⟨_, rfl, ?_⟩))
 generalize hq_ : World.drewN _ _ = wq
 have n0_ : Aside0 (Below w.heap.size w wq) := ⟨by rw [← hq_]; repeat (first | exact HB.out | apply below_drew1 | apply pw_below_drewN)⟩
 clear HB hq_
 have HB := n0_
 clear n0_
 have n0_ := Aside0.mk (below_drew1 HB.out)
 clear HB
 have HB := n0_
 clear n0_
 refine start_ (n := 36) (S := fun w' => True) (ds := []) (bv 36 0) (by kernel_rfl) rfl rfl trivial (fun hHeld => ?_); refine with_tabW spec_MayMeet.tab3 spec_MayMeet.bits3 (fun HT_ HW_ => ?_)
 generalize wq.drew = w11 at HB hHeld ⊢
 refine pv_ 36 0 15 1 rfl rfl HT_ ?_
 refine one_ (i := 1) (N := some 16) (bv 36 3) rfl rfl (one_of HT_.out (by kernel_rfl)) (by decide) (fun K hK => ?_)
 refine goes_ Try.func20 (by kernel_rfl) rfl #[.slice A0 l0.length c0] (by rfl) rfl rfl (by (try simp only [List.map_toArray, List.map_cons, List.map_nil]); first | done | rfl | (simp only [List.length_drop, List.length_take]; rfl)) ?_
 with_reducible refine (spec_AreTeams.calls k _ _ l0 true _ ?side1 ?side2 A6.out).mono ?_
 (case side1 => repeat (first | exact (Kd.C_below HR0.out HB.out) | (with_reducible refine Kd.C_alloc ?_ _) | (with_reducible refine Kd.C_drewN ?_ _) | (with_reducible refine Kd.C_drew ?_)))
 (case side2 => exact HC0.out)
 rintro e w12 ⟨rfl, hb⟩
 refine ⟨_, rfl, ?_⟩
 have n0_ := Aside0.mk (below_step (by repeat (first | (with_reducible first | exact HB.out | apply below_alloc | apply pw_below_drewN | apply below_drew1) | exact HB.out)) hb)
 clear HB
 have HB := n0_
 clear n0_
 (try clear hb)
 (try clear hb2)
 (try clear hk)
 (try clear hi)
 refine hK.out _ _ trivial (fun hHeld => ?_)
 clear hK K
 refine nm_ 16 ?_
 refine pv_ 36 2 17 7 rfl rfl HT_ ?_; refine pv_ 36 3 18 15 rfl rfl HT_ ?_; refine pv_ 36 4 19 31 rfl rfl HT_ ?_; refine pv_ 36 5 20 63 rfl rfl HT_ ?_; refine pv_ 36 6 21 127 rfl rfl HT_ ?_; refine pv_ 36 7 22 255 rfl rfl HT_ ?_; refine pv_ 36 8 23 511 rfl rfl HT_ ?_; refine pv_ 36 9 24 1023 rfl rfl HT_ ?_; refine pv_ 36 10 25 2047 rfl rfl HT_ ?_; refine pv_ 36 11 26 4095 rfl rfl HT_ ?_; refine pv_ 36 12 27 8191 rfl rfl HT_ ?_; refine pv_ 36 13 28 16383 rfl rfl HT_ ?_; refine pv_ 36 14 29 32767 rfl rfl HT_ ?_; refine pv_ 36 15 30 65535 rfl rfl HT_ ?_; refine pu_ 36 16 31 131071 rfl rfl HT_ ?_; refine pu_ 36 17 32 262143 rfl rfl HT_ ?_; refine pu_ 36 18 33 524287 rfl rfl HT_ ?_; refine pu_ 36 19 34 1048575 rfl rfl HT_ ?_; refine pu_ 36 20 35 2097151 rfl rfl HT_ ?_; refine pu_ 36 21 36 4194303 rfl rfl HT_ ?_; refine pu_ 36 22 37 8388607 rfl rfl HT_ ?_; refine pu_ 36 23 38 16777215 rfl rfl HT_ ?_
 refine pu_ 36 24 39 33554431 rfl rfl HT_ ?_; refine pu_ 36 25 40 67108863 rfl rfl HT_ ?_; refine pu_ 36 26 41 134217727 rfl rfl HT_ ?_; refine pv_ 36 27 42 268435455 rfl rfl HT_ ?_; refine pv_ 36 28 43 536870911 rfl rfl HT_ ?_; refine pu_ 36 29 44 1073741823 rfl rfl HT_ ?_; refine pu_ 36 30 45 2147483647 rfl rfl HT_ ?_; refine pu_ 36 31 46 4294967295 rfl rfl HT_ ?_; refine pu_ 36 32 47 8589934591 rfl rfl HT_ ?_; refine pu_ 36 33 48 17179869183 rfl rfl HT_ ?_; refine pv_ 36 34 49 34359738367 rfl rfl HT_ ?_; refine pv_ 36 35 6 68719476735 rfl rfl HT_ ?_
 refine done_ (done_of HT_.out (by kernel_rfl)) ?_
 try go_wp2
 all_goals (go_ret; exact ⟨by first | rfl | (simp [errW_none, errW_some] <;> rfl) | (simp [*, errW_none, errW_some] <;> rfl), by repeat (first | (with_reducible first | exact HB.out | apply below_alloc | apply pw_below_drewN | apply below_drew1) | exact HB.out)⟩)
end Go.Proofs.Ytiimiogpiflkdaa.A
end
