/- What the row FnExactSideFor rests on, put together: A19, LHStand, A23. No condition. -/
import Derived.Test.YtiimiogpiflkdaaSFnExactSideForx0
import Derived.Test.YtiimiogpiflkdaaSFnExactSideForx1
import Derived.Test.YtiimiogpiflkdaaSFnExactSideForx2
section
namespace Go.Proofs.Ytiimiogpiflkdaa.A
open Go.RowKit Go.Proofs.YtiimiogpiflkdaaW.PrintWords Go.Proofs.YtiimiogpiflkdaaW.PrintLast Go.Proofs.YtiimiogpiflkdaaW.PrintMore
attribute [local go_sem] max2_int min2_int max_two min_two max_three min_three max_four min_four   -- for this text's walks alone
set_option linter.unusedVariables false
set_option linter.unusedSimpArgs false
mutual
def impl_AreTeams.l0 : Nat → List (S61) → List (S61) → Int → Int → Option (Bool)
  | 0, _, _, _, _ => none
  | k + 1, x0, x12, x13, x14 => if x14 < x13 then (if 0 ≤ x14 then (if x14 < (x12.length : Int) then ((impl_InRange.f ((rd_T61 x12 x14).f0) 1 99).bind fun t169 => (if t169 = true then (if x14 > 0 then (if 0 ≤ (wrap64 (x14 - 1)) then (if (wrap64 (x14 - 1)) < (x0.length : Int) then (if ((rd_T61 x12 x14).f0) ≤ ((rd_T61 x0 (wrap64 (x14 - 1))).f0) then (impl_AreTeams.j1 k x0 x12 x13 x14 true ((rd_T61 x12 x14).f0) ((rd_T61 x12 x14).f1) ((rd_T61 x12 x14).f2) ((rd_T61 x12 x14).f3) ((rd_T61 x12 x14).f4) ((rd_T61 x12 x14).f5)) else ((impl_InRange.f ((rd_T61 x12 x14).f1) 1 99).bind fun t171 => (if t171 = true then (if (((rd_T61 x12 x14).f5).length : Int) > 20 then (impl_AreTeams.j1 k x0 x12 x13 x14 true ((rd_T61 x12 x14).f0) ((rd_T61 x12 x14).f1) ((rd_T61 x12 x14).f2) ((rd_T61 x12 x14).f3) ((rd_T61 x12 x14).f4) ((rd_T61 x12 x14).f5)) else ((impl_InRange.f ((rd_T61 x12 x14).f2) 0 (((rd_T61 x12 x14).f5).length : Int)).bind fun t172 => (if t172 = true then ((impl_InRange.f ((rd_T61 x12 x14).f4) 0 (((rd_T61 x12 x14).f5).length : Int)).bind fun t173 => (if t173 = true then ((impl_InRange.f ((rd_T61 x12 x14).f3) 0 100000).bind fun t174 => (impl_AreTeams.j1 k x0 x12 x13 x14 (!t174) ((rd_T61 x12 x14).f0) ((rd_T61 x12 x14).f1) ((rd_T61 x12 x14).f2) ((rd_T61 x12 x14).f3) ((rd_T61 x12 x14).f4) ((rd_T61 x12 x14).f5))) else (impl_AreTeams.j1 k x0 x12 x13 x14 true ((rd_T61 x12 x14).f0) ((rd_T61 x12 x14).f1) ((rd_T61 x12 x14).f2) ((rd_T61 x12 x14).f3) ((rd_T61 x12 x14).f4) ((rd_T61 x12 x14).f5)))) else (impl_AreTeams.j1 k x0 x12 x13 x14 true ((rd_T61 x12 x14).f0) ((rd_T61 x12 x14).f1) ((rd_T61 x12 x14).f2) ((rd_T61 x12 x14).f3) ((rd_T61 x12 x14).f4) ((rd_T61 x12 x14).f5))))) else (impl_AreTeams.j1 k x0 x12 x13 x14 true ((rd_T61 x12 x14).f0) ((rd_T61 x12 x14).f1) ((rd_T61 x12 x14).f2) ((rd_T61 x12 x14).f3) ((rd_T61 x12 x14).f4) ((rd_T61 x12 x14).f5))))) else (none)) else (none)) else ((impl_InRange.f ((rd_T61 x12 x14).f1) 1 99).bind fun t175 => (if t175 = true then (if (((rd_T61 x12 x14).f5).length : Int) > 20 then (impl_AreTeams.j1 k x0 x12 x13 x14 true ((rd_T61 x12 x14).f0) ((rd_T61 x12 x14).f1) ((rd_T61 x12 x14).f2) ((rd_T61 x12 x14).f3) ((rd_T61 x12 x14).f4) ((rd_T61 x12 x14).f5)) else ((impl_InRange.f ((rd_T61 x12 x14).f2) 0 (((rd_T61 x12 x14).f5).length : Int)).bind fun t176 => (if t176 = true then ((impl_InRange.f ((rd_T61 x12 x14).f4) 0 (((rd_T61 x12 x14).f5).length : Int)).bind fun t177 => (if t177 = true then ((impl_InRange.f ((rd_T61 x12 x14).f3) 0 100000).bind fun t178 => (impl_AreTeams.j1 k x0 x12 x13 x14 (!t178) ((rd_T61 x12 x14).f0) ((rd_T61 x12 x14).f1) ((rd_T61 x12 x14).f2) ((rd_T61 x12 x14).f3) ((rd_T61 x12 x14).f4) ((rd_T61 x12 x14).f5))) else (impl_AreTeams.j1 k x0 x12 x13 x14 true ((rd_T61 x12 x14).f0) ((rd_T61 x12 x14).f1) ((rd_T61 x12 x14).f2) ((rd_T61 x12 x14).f3) ((rd_T61 x12 x14).f4) ((rd_T61 x12 x14).f5)))) else (impl_AreTeams.j1 k x0 x12 x13 x14 true ((rd_T61 x12 x14).f0) ((rd_T61 x12 x14).f1) ((rd_T61 x12 x14).f2) ((rd_T61 x12 x14).f3) ((rd_T61 x12 x14).f4) ((rd_T61 x12 x14).f5))))) else (impl_AreTeams.j1 k x0 x12 x13 x14 true ((rd_T61 x12 x14).f0) ((rd_T61 x12 x14).f1) ((rd_T61 x12 x14).f2) ((rd_T61 x12 x14).f3) ((rd_T61 x12 x14).f4) ((rd_T61 x12 x14).f5))))) else (impl_AreTeams.j1 k x0 x12 x13 x14 true ((rd_T61 x12 x14).f0) ((rd_T61 x12 x14).f1) ((rd_T61 x12 x14).f2) ((rd_T61 x12 x14).f3) ((rd_T61 x12 x14).f4) ((rd_T61 x12 x14).f5)))) else (none)) else (none)) else (some true)
def impl_AreTeams.j1 : Nat → List (S61) → List (S61) → Int → Int → Bool → Int → Int → Int → Int → Int → List Int → Option (Bool)
  | 0, _, _, _, _, _, _, _, _, _, _, _ => none
  | k + 1, x0, x12, x13, x14, x70, x169000, x169001, x169002, x169003, x169004, x169005 => if x70 = true then (some false) else (impl_AreTeams.l1 k x0 x12 x13 x14 x169005 (x169005.length : Int) 0 x169000 x169001 x169002 x169003 x169004 x169005)
def impl_AreTeams.l1 : Nat → List (S61) → List (S61) → Int → Int → List Int → Int → Int → Int → Int → Int → Int → Int → List Int → Option (Bool)
  | 0, _, _, _, _, _, _, _, _, _, _, _, _, _ => none
  | k + 1, x0, x12, x13, x14, x72, x73, x74, x169000, x169001, x169002, x169003, x169004, x169005 => if x74 < x73 then (if 0 ≤ x74 then (if x74 < (x72.length : Int) then ((impl_FindTeam.f x0 (rd x72 x74)).bind fun t180 => (if t180 < 0 then (some false) else (if (rd x72 x74) = x169000 then (some false) else ((impl_times.f k x169005 (rd x72 x74)).bind fun t181 => (if 0 ≤ t180 then (if t180 < (x0.length : Int) then ((impl_times.f k ((rd_T61 x0 t180).f5) x169000).bind fun t183 => (if t181 = t183 then (impl_AreTeams.l1 k x0 x12 x13 x14 x72 x73 (wrap64 (x74 + 1)) x169000 x169001 x169002 x169003 x169004 x169005) else (some false))) else (none)) else (none)))))) else (none)) else (none)) else (impl_AreTeams.l0 k x0 x12 x13 (wrap64 (x14 + 1)))
end
def impl_AreTeams.f (k : Nat) (l0 : List (S61)) : Option (Bool) := if (l0.length : Int) > 10 then (some false) else (impl_AreTeams.l0 k l0 l0 (l0.length : Int) 0)
def impl_AreTeams.T7 : Bool × List (List Nat × List Nat) := (true, [([], []), ([0], [0]), ([1], [1]), ([2], [2]), ([3, 2], [3]), ([4], [4]), ([5, 4], [4, 5]), ([6, 4, 4], [4, 6]), ([7], [7]), ([8, 7], [7, 8]), ([7], [7]), ([7], [7]), ([11, 7], [7, 11]), ([10, 12, 7], [7, 10, 12]), ([13, 7], [7, 13]), ([14, 7], [7, 14]), ([9, 15, 7], [7, 9, 15]), ([7, 16, 4], [4, 7, 16]), ([4, 17], [4, 17]), ([18, 7], [18]), ([19], [19]), ([20, 19], [19, 20]), ([21, 19, 19], [19, 21]), ([22, 19], [19, 22]), ([19, 23], [19, 23]), ([24, 22], [24]), ([25], [25]), ([26, 25], [25, 26]), ([25, 27], [25, 27]), ([28, 25], [28]), ([29], [29]), ([30, 29], [29, 30]), ([29], [29]), ([31, 32, 29, 29], [29, 31, 32]), ([33, 29], [29, 33]), ([29, 34], [29, 34]), ([35, 33], [35]), ([36], [36]), ([37, 36], [36, 37]), ([36], [36]), ([38, 39, 36, 36], [36, 38, 39]), ([40, 36], [36, 40]), ([36, 41], [36, 41]), ([42, 40], [42]), ([43], [43]), ([44, 43], [43, 44]), ([45, 43, 43], [43, 45]), ([46, 43], [43, 46]), ([43, 47], [43, 47])])
def impl_AreTeams.B7 : List Nat := [0, 1, 3, 7, 15, 31, 63, 127, 255, 511, 255, 255, 2303, 7423, 15615, 31999, 65535, 131071, 262143, 524287, 1048575, 2097151, 4194303, 8388607, 16777215, 33554431, 67108863, 134217727, 268435455, 536870911, 1073741823, 2147483647, 1073741823, 8589934591, 17179869183, 34359738367, 68719476735, 137438953471, 274877906943, 137438953471, 1099511627775, 2199023255551, 4398046511103, 8796093022207, 17592186044415, 35184372088831, 70368744177663, 140737488355327, 281474976710655]
theorem impl_AreTeams.tab7 : rtab .any (opsOf Try.f21 7) = impl_AreTeams.T7 := by kernel_rfl
theorem impl_AreTeams.bits7 : waitsOk impl_AreTeams.T7.2 impl_AreTeams.B7 = true := by kernel_rfl
def impl_AreTeams.T13 : Bool × List (List Nat × List Nat) := (true, [([], []), ([0], [0]), ([1], [1]), ([2], [2]), ([2], [2]), ([4, 2], [2, 4]), ([3, 5, 2], [2, 3, 5]), ([2, 6], [2, 6]), ([7, 2], [7]), ([8], [8]), ([9, 8], [8, 9]), ([8], [8]), ([10, 11, 8, 8], [8, 10, 11]), ([8], [8]), ([8], [8]), ([13, 14, 8], [8, 13, 14]), ([15, 8], [8, 15]), ([16, 8], [8, 16]), ([8], [8]), ([18, 8], [8, 18]), ([17, 19, 12, 8], [8, 17, 19]), ([12, 20, 8], [8, 12, 20]), ([8, 21], [8, 21])])
def impl_AreTeams.B13 : List Nat := [0, 1, 3, 7, 7, 23, 63, 127, 255, 511, 1023, 511, 4095, 511, 511, 25087, 57855, 123391, 511, 262655, 1048575, 2097151, 4194303]
theorem impl_AreTeams.tab13 : rtab .any (opsOf Try.f21 13) = impl_AreTeams.T13 := by kernel_rfl
theorem impl_AreTeams.bits13 : waitsOk impl_AreTeams.T13.2 impl_AreTeams.B13 = true := by kernel_rfl
set_option maxHeartbeats 8000000 in
set_option maxRecDepth 100000 in
theorem impl_AreTeams.calls (k : Nat) (A0 : Option Addr) (c0 : Nat) (l0 : List (S61)) (r : Bool) (w : World) (hr0 : Kd.C k61 w A0 l0.length l0) (hc0 : l0.length ≤ c0) (h : impl_AreTeams.f k l0 = some r) :
  Calls Try.prog 21 #[.slice A0 l0.length c0] w fun e w' => e = .returned (.bool r) ∧ Below w.heap.size w w' := by
 have hu61 := Try.underlying61
 have HR0 := Aside0.mk hr0
 have HC0 := Aside0.mk hc0
 clear hr0 hc0
 have HB := Aside0.mk (Below.refl w.heap.size w)
 have H : (if (l0.length : Int) > 10 then (some false) else (impl_AreTeams.l0 k l0 l0 (l0.length : Int) 0)) = some r := h
 clear h
 by_cases c2 : (l0.length : Int) > 10
 rotate_left
 ·
  rw [if_neg c2] at H
  have c2b0 : decide (10 < (l0.length : Int)) = false := decide_eq_false c2
  have c2b1 : decide (10 < l0.length) = false := decide_eq_false (by omega)
  clear c2
  have H' := Aside0.mk H
  clear H
  go_enter Try.func21, Try.ntmps21
  go_wp2
  go_loopg [14] k (fun kq v14 w' => ∃ (x14_1 : Int), v14 = .int .i64 x14_1 ∧ Aside0 (impl_AreTeams.l0 kq l0 l0 (l0.length : Int) x14_1 = some r) ∧ Aside0 (kq ≤ k) ∧ Aside0 (Below w.heap.size w w'))
  case atStart => exact ⟨(0), (by first | rfl | (simp; done) | (simp [*]; done)), H', ⟨Nat.le_refl _⟩, ⟨by repeat (first | (with_reducible first | exact HB.out | apply below_alloc | apply pw_below_drewN | apply below_drew1) | exact HB.out)⟩⟩
  case round =>
   clear H'
   try clear c2
   try clear c2b0
   try clear c2b1
   try clear p2
   obtain ⟨x14_1, rfl, HA, HK1, HB⟩ := hrel
   cases gk with
   | zero => exact absurd HA.out (by simp [impl_AreTeams.l0])
   | succ k1 =>
    have H := HA.out
    clear HA
    simp only [impl_AreTeams.l0] at H
    by_cases c3 : x14_1 < (l0.length : Int)
    rotate_left
    ·
     rw [if_neg c3] at H
     have c3b0 : decide (x14_1 < (l0.length : Int)) = false := decide_eq_false c3
     clear c3
     obtain rfl := Option.some.inj H
     go_wp2
     go_ret
     exact ⟨by first | rfl | (simp [errW_none, errW_some] <;> rfl) | (simp [*, errW_none, errW_some] <;> rfl), by repeat (first | (with_reducible first | exact HB.out | apply below_alloc | apply pw_below_drewN | apply below_drew1) | exact HB.out)⟩

    rw [if_pos c3] at H
    have c3b0 : decide (x14_1 < (l0.length : Int)) = true := decide_eq_true c3
    clear c3
    by_cases c4 : 0 ≤ x14_1
    rotate_left
    ·
     rw [if_neg c4] at H
     exact absurd H (by simp)
    rw [if_pos c4] at H
    have c4b0 : decide (0 ≤ x14_1) = true := decide_eq_true c4
    clear c4
    by_cases c5 : x14_1 < (l0.length : Int)
    rotate_left
    ·
     rw [if_neg c5] at H
     exact absurd H (by simp)
    rw [if_pos c5] at H
    have c5b0 : decide (x14_1 < (l0.length : Int)) = true := decide_eq_true c5
    clear c5
    have HC6 := Aside0.mk H
    clear H
    have p167 : 0 ≤ (x14_1 : Int) := of_decide_eq_true (by first | (with_reducible assumption) | assumption)
    have q167 : x14_1 < (l0.length : Int) := of_decide_eq_true (by first | (with_reducible assumption) | assumption)
    obtain ⟨ad167, A167_5, c167_5, e167, hx167_0, hx167_1, hx167_2, hx167_3, hx167_4, hx167_5, hl167_5, hi167_5⟩ := at_T61 HR0.out x14_1 p167 q167
    cases e167
    replace hx167_0 := (HB.out.cell (World.block_lt_of_cell? w _ hx167_0)).trans hx167_0
    replace hx167_1 := (HB.out.cell (World.block_lt_of_cell? w _ hx167_1)).trans hx167_1
    replace hx167_2 := (HB.out.cell (World.block_lt_of_cell? w _ hx167_2)).trans hx167_2
    replace hx167_3 := (HB.out.cell (World.block_lt_of_cell? w _ hx167_3)).trans hx167_3
    replace hx167_4 := (HB.out.cell (World.block_lt_of_cell? w _ hx167_4)).trans hx167_4
    replace hx167_5 := (HB.out.cell (World.block_lt_of_cell? w _ hx167_5)).trans hx167_5
    have HR167_5 := Aside0.mk hi167_5
    have HC167_5 := Aside0.mk hl167_5
    clear hi167_5 hl167_5
    replace p167 := eq_true p167
    replace q167 := eq_true q167
    go_upto_region 7 with (first | ((with_reducible refine gate_dst (N := 4) rfl ?_); refine box_event ?hg (N := 4) ?hd (cs := #[.int .i64 0, .int .i64 0, .int .i64 0, .int .i64 0, .int .i64 0, .slice none 0 0]) (t := 61) ?hr ?_; (case hd => rfl); (case hg => rfl); (case hr => first | (go_simp; done) | (go_simp; rfl)); intro gb168 hg w7 hbox hb; have n0_ := Aside0.mk (below_step (by repeat (first | (with_reducible first | exact HB.out | apply below_alloc | apply pw_below_drewN | apply below_drew1) | exact HB.out)) hb); have n1_ := Aside0.mk (hbox); have n2_ := Aside0.mk ((by rw [hg]; exact (below_size (by repeat (first | (with_reducible first | exact HB.out | apply below_alloc | apply pw_below_drewN | apply below_drew1) | exact HB.out))) : w.heap.size ≤ gb168)); have n3_ := Aside0.mk ((by rw [hg]; exact (below_size (by repeat (first | (with_reducible first | exact HB.out | apply below_alloc | apply pw_below_drewN | apply below_drew1) | exact HB.out))) : w.heap.size ≤ gb168)); clear HB; have HB := n0_; have BK168 := n1_; have GW168 := n2_; have GE168 := n3_; clear n0_ n1_ n2_ n3_; clear hb hbox hg; have hcz8_0 : w7.cell? ⟨gb168, 0, none⟩ = some (.int .i64 0) := (blk_cell BK168.out 0).trans rfl; have hcz8_1 : w7.cell? ⟨gb168, 1, none⟩ = some (.int .i64 0) := (blk_cell BK168.out 1).trans rfl; have hcz8_2 : w7.cell? ⟨gb168, 2, none⟩ = some (.int .i64 0) := (blk_cell BK168.out 2).trans rfl; have hcz8_3 : w7.cell? ⟨gb168, 3, none⟩ = some (.int .i64 0) := (blk_cell BK168.out 3).trans rfl; have hcz8_4 : w7.cell? ⟨gb168, 4, none⟩ = some (.int .i64 0) := (blk_cell BK168.out 4).trans rfl; have hcz8_5 : w7.cell? ⟨gb168, 5, none⟩ = some (.slice none 0 0) := (blk_cell BK168.out 5).trans rfl; have hfz8_0 := blk_frozen BK168.out 0; have hfz8_1 := blk_frozen BK168.out 1; have hfz8_2 := blk_frozen BK168.out 2; have hfz8_3 := blk_frozen BK168.out 3; have hfz8_4 := blk_frozen BK168.out 4; have hfz8_5 := blk_frozen BK168.out 5))
    (try simp only [Act.put, Z1, Z2, Z3])
    go_cut [70] (fun v70 wc => ∃ (kq : Nat) (x70_5 : Bool), v70 = .bool x70_5 ∧ Aside0 (impl_AreTeams.j1 kq l0 l0 (l0.length : Int) x14_1 x70_5 ((rd_T61 l0 x14_1).f0) ((rd_T61 l0 x14_1).f1) ((rd_T61 l0 x14_1).f2) ((rd_T61 l0 x14_1).f3) ((rd_T61 l0 x14_1).f4) ((rd_T61 l0 x14_1).f5) = some r) ∧ Aside0 (kq ≤ k1) ∧ Aside0 (wc.heap[gb168]? = some (.cells #[.int .i64 ((rd_T61 l0 x14_1).f0), .int .i64 ((rd_T61 l0 x14_1).f1), .int .i64 ((rd_T61 l0 x14_1).f2), .int .i64 ((rd_T61 l0 x14_1).f3), .int .i64 ((rd_T61 l0 x14_1).f4), (.slice A167_5 ((rd_T61 l0 x14_1).f5).length c167_5)] 61 (0, 0))) ∧ Aside0 (Below w.heap.size w wc))
    case first =>
     have H := HC6.out
     clear HC6
     replace H := Option.bind_eq_some_iff.mp H
     obtain ⟨t169, A90, H⟩ := H
     replace H : (if t169 = true then (if x14_1 > 0 then (if 0 ≤ (wrap64 (x14_1 - 1)) then (if (wrap64 (x14_1 - 1)) < (l0.length : Int) then (if ((rd_T61 l0 x14_1).f0) ≤ ((rd_T61 l0 (wrap64 (x14_1 - 1))).f0) then (impl_AreTeams.j1 k1 l0 l0 (l0.length : Int) x14_1 true ((rd_T61 l0 x14_1).f0) ((rd_T61 l0 x14_1).f1) ((rd_T61 l0 x14_1).f2) ((rd_T61 l0 x14_1).f3) ((rd_T61 l0 x14_1).f4) ((rd_T61 l0 x14_1).f5)) else ((impl_InRange.f ((rd_T61 l0 x14_1).f1) 1 99).bind fun t171 => (if t171 = true then (if (((rd_T61 l0 x14_1).f5).length : Int) > 20 then (impl_AreTeams.j1 k1 l0 l0 (l0.length : Int) x14_1 true ((rd_T61 l0 x14_1).f0) ((rd_T61 l0 x14_1).f1) ((rd_T61 l0 x14_1).f2) ((rd_T61 l0 x14_1).f3) ((rd_T61 l0 x14_1).f4) ((rd_T61 l0 x14_1).f5)) else ((impl_InRange.f ((rd_T61 l0 x14_1).f2) 0 (((rd_T61 l0 x14_1).f5).length : Int)).bind fun t172 => (if t172 = true then ((impl_InRange.f ((rd_T61 l0 x14_1).f4) 0 (((rd_T61 l0 x14_1).f5).length : Int)).bind fun t173 => (if t173 = true then ((impl_InRange.f ((rd_T61 l0 x14_1).f3) 0 100000).bind fun t174 => (impl_AreTeams.j1 k1 l0 l0 (l0.length : Int) x14_1 (!t174) ((rd_T61 l0 x14_1).f0) ((rd_T61 l0 x14_1).f1) ((rd_T61 l0 x14_1).f2) ((rd_T61 l0 x14_1).f3) ((rd_T61 l0 x14_1).f4) ((rd_T61 l0 x14_1).f5))) else (impl_AreTeams.j1 k1 l0 l0 (l0.length : Int) x14_1 true ((rd_T61 l0 x14_1).f0) ((rd_T61 l0 x14_1).f1) ((rd_T61 l0 x14_1).f2) ((rd_T61 l0 x14_1).f3) ((rd_T61 l0 x14_1).f4) ((rd_T61 l0 x14_1).f5)))) else (impl_AreTeams.j1 k1 l0 l0 (l0.length : Int) x14_1 true ((rd_T61 l0 x14_1).f0) ((rd_T61 l0 x14_1).f1) ((rd_T61 l0 x14_1).f2) ((rd_T61 l0 x14_1).f3) ((rd_T61 l0 x14_1).f4) ((rd_T61 l0 x14_1).f5))))) else (impl_AreTeams.j1 k1 l0 l0 (l0.length : Int) x14_1 true ((rd_T61 l0 x14_1).f0) ((rd_T61 l0 x14_1).f1) ((rd_T61 l0 x14_1).f2) ((rd_T61 l0 x14_1).f3) ((rd_T61 l0 x14_1).f4) ((rd_T61 l0 x14_1).f5))))) else (none)) else (none)) else ((impl_InRange.f ((rd_T61 l0 x14_1).f1) 1 99).bind fun t175 => (if t175 = true then (if (((rd_T61 l0 x14_1).f5).length : Int) > 20 then (impl_AreTeams.j1 k1 l0 l0 (l0.length : Int) x14_1 true ((rd_T61 l0 x14_1).f0) ((rd_T61 l0 x14_1).f1) ((rd_T61 l0 x14_1).f2) ((rd_T61 l0 x14_1).f3) ((rd_T61 l0 x14_1).f4) ((rd_T61 l0 x14_1).f5)) else ((impl_InRange.f ((rd_T61 l0 x14_1).f2) 0 (((rd_T61 l0 x14_1).f5).length : Int)).bind fun t176 => (if t176 = true then ((impl_InRange.f ((rd_T61 l0 x14_1).f4) 0 (((rd_T61 l0 x14_1).f5).length : Int)).bind fun t177 => (if t177 = true then ((impl_InRange.f ((rd_T61 l0 x14_1).f3) 0 100000).bind fun t178 => (impl_AreTeams.j1 k1 l0 l0 (l0.length : Int) x14_1 (!t178) ((rd_T61 l0 x14_1).f0) ((rd_T61 l0 x14_1).f1) ((rd_T61 l0 x14_1).f2) ((rd_T61 l0 x14_1).f3) ((rd_T61 l0 x14_1).f4) ((rd_T61 l0 x14_1).f5))) else (impl_AreTeams.j1 k1 l0 l0 (l0.length : Int) x14_1 true ((rd_T61 l0 x14_1).f0) ((rd_T61 l0 x14_1).f1) ((rd_T61 l0 x14_1).f2) ((rd_T61 l0 x14_1).f3) ((rd_T61 l0 x14_1).f4) ((rd_T61 l0 x14_1).f5)))) else (impl_AreTeams.j1 k1 l0 l0 (l0.length : Int) x14_1 true ((rd_T61 l0 x14_1).f0) ((rd_T61 l0 x14_1).f1) ((rd_T61 l0 x14_1).f2) ((rd_T61 l0 x14_1).f3) ((rd_T61 l0 x14_1).f4) ((rd_T61 l0 x14_1).f5))))) else (impl_AreTeams.j1 k1 l0 l0 (l0.length : Int) x14_1 true ((rd_T61 l0 x14_1).f0) ((rd_T61 l0 x14_1).f1) ((rd_T61 l0 x14_1).f2) ((rd_T61 l0 x14_1).f3) ((rd_T61 l0 x14_1).f4) ((rd_T61 l0 x14_1).f5))))) else (impl_AreTeams.j1 k1 l0 l0 (l0.length : Int) x14_1 true ((rd_T61 l0 x14_1).f0) ((rd_T61 l0 x14_1).f1) ((rd_T61 l0 x14_1).f2) ((rd_T61 l0 x14_1).f3) ((rd_T61 l0 x14_1).f4) ((rd_T61 l0 x14_1).f5))) = some r := H
     have A9 := Aside0.mk A90
     clear A90
     by_cases c10 : t169 = true
     rotate_left
     ·
      replace c10 := Bool.eq_false_iff.mpr c10
      subst c10
      have H1 : (impl_AreTeams.j1 k1 l0 l0 (l0.length : Int) x14_1 true ((rd_T61 l0 x14_1).f0) ((rd_T61 l0 x14_1).f1) ((rd_T61 l0 x14_1).f2) ((rd_T61 l0 x14_1).f3) ((rd_T61 l0 x14_1).f4) ((rd_T61 l0 x14_1).f5)) = some r := by rw [if_neg (show ¬ (false = true) by decide)] at H; exact H
      clear H
      have H := H1
      clear H1
      have H' := Aside0.mk H
      clear H
      try go_wp2
      have n0_ : Aside0 (((((((w7.setCell ⟨gb168, 0, none⟩ (.int .i64 ((rd_T61 l0 x14_1).f0))).setCell ⟨gb168, 1, none⟩ (.int .i64 ((rd_T61 l0 x14_1).f1))).setCell ⟨gb168, 2, none⟩ (.int .i64 ((rd_T61 l0 x14_1).f2))).setCell ⟨gb168, 3, none⟩ (.int .i64 ((rd_T61 l0 x14_1).f3))).setCell ⟨gb168, 4, none⟩ (.int .i64 ((rd_T61 l0 x14_1).f4))).setCell ⟨gb168, 5, none⟩ (.slice A167_5 ((rd_T61 l0 x14_1).f5).length c167_5)).heap[gb168]? = some (.cells #[.int .i64 ((rd_T61 l0 x14_1).f0), .int .i64 ((rd_T61 l0 x14_1).f1), .int .i64 ((rd_T61 l0 x14_1).f2), .int .i64 ((rd_T61 l0 x14_1).f3), .int .i64 ((rd_T61 l0 x14_1).f4), .slice A167_5 ((rd_T61 l0 x14_1).f5).length c167_5] 61 (0, 0))) := ⟨by (with_reducible repeat (first | refine blk_drewN ?_ _ | refine blk_drew ?_ | refine blk_alloc ?_ _)); refine blk_put (cs := #[.int .i64 ((rd_T61 l0 x14_1).f0), .int .i64 ((rd_T61 l0 x14_1).f1), .int .i64 ((rd_T61 l0 x14_1).f2), .int .i64 ((rd_T61 l0 x14_1).f3), .int .i64 ((rd_T61 l0 x14_1).f4), .slice none 0 0]) ?_ 5 _ rfl; (with_reducible repeat (first | refine blk_drewN ?_ _ | refine blk_drew ?_ | refine blk_alloc ?_ _)); refine blk_put (cs := #[.int .i64 ((rd_T61 l0 x14_1).f0), .int .i64 ((rd_T61 l0 x14_1).f1), .int .i64 ((rd_T61 l0 x14_1).f2), .int .i64 ((rd_T61 l0 x14_1).f3), .int .i64 0, .slice none 0 0]) ?_ 4 _ rfl; (with_reducible repeat (first | refine blk_drewN ?_ _ | refine blk_drew ?_ | refine blk_alloc ?_ _)); refine blk_put (cs := #[.int .i64 ((rd_T61 l0 x14_1).f0), .int .i64 ((rd_T61 l0 x14_1).f1), .int .i64 ((rd_T61 l0 x14_1).f2), .int .i64 0, .int .i64 0, .slice none 0 0]) ?_ 3 _ rfl; (with_reducible repeat (first | refine blk_drewN ?_ _ | refine blk_drew ?_ | refine blk_alloc ?_ _)); refine blk_put (cs := #[.int .i64 ((rd_T61 l0 x14_1).f0), .int .i64 ((rd_T61 l0 x14_1).f1), .int .i64 0, .int .i64 0, .int .i64 0, .slice none 0 0]) ?_ 2 _ rfl; (with_reducible repeat (first | refine blk_drewN ?_ _ | refine blk_drew ?_ | refine blk_alloc ?_ _)); refine blk_put (cs := #[.int .i64 ((rd_T61 l0 x14_1).f0), .int .i64 0, .int .i64 0, .int .i64 0, .int .i64 0, .slice none 0 0]) ?_ 1 _ rfl; (with_reducible repeat (first | refine blk_drewN ?_ _ | refine blk_drew ?_ | refine blk_alloc ?_ _)); refine blk_put (cs := #[.int .i64 0, .int .i64 0, .int .i64 0, .int .i64 0, .int .i64 0, .slice none 0 0]) ?_ 0 _ rfl; (with_reducible repeat (first | refine blk_drewN ?_ _ | refine blk_drew ?_ | refine blk_alloc ?_ _)); exact BK168.out⟩
      have n1_ : Aside0 (Below w.heap.size w ((((((w7.setCell ⟨gb168, 0, none⟩ (.int .i64 ((rd_T61 l0 x14_1).f0))).setCell ⟨gb168, 1, none⟩ (.int .i64 ((rd_T61 l0 x14_1).f1))).setCell ⟨gb168, 2, none⟩ (.int .i64 ((rd_T61 l0 x14_1).f2))).setCell ⟨gb168, 3, none⟩ (.int .i64 ((rd_T61 l0 x14_1).f3))).setCell ⟨gb168, 4, none⟩ (.int .i64 ((rd_T61 l0 x14_1).f4))).setCell ⟨gb168, 5, none⟩ (.slice A167_5 ((rd_T61 l0 x14_1).f5).length c167_5))) := ⟨by repeat (first | (with_reducible first | exact HB.out | apply below_alloc | apply pw_below_drewN | apply below_drew1 | refine below_set ?_ GE168.out) | exact HB.out)⟩
      (try clear BK168)
      (try clear HB)
      generalize ((((((w7.setCell ⟨gb168, 0, none⟩ (.int .i64 ((rd_T61 l0 x14_1).f0))).setCell ⟨gb168, 1, none⟩ (.int .i64 ((rd_T61 l0 x14_1).f1))).setCell ⟨gb168, 2, none⟩ (.int .i64 ((rd_T61 l0 x14_1).f2))).setCell ⟨gb168, 3, none⟩ (.int .i64 ((rd_T61 l0 x14_1).f3))).setCell ⟨gb168, 4, none⟩ (.int .i64 ((rd_T61 l0 x14_1).f4))).setCell ⟨gb168, 5, none⟩ (.slice A167_5 ((rd_T61 l0 x14_1).f5).length c167_5)) = w54 at n0_ n1_ ⊢
      have BK168 := n0_
      have HB := n1_
      clear n0_ n1_
      have n0_ := Aside0.mk (blk_drew BK168.out)
      have n1_ := Aside0.mk (below_drew1 HB.out)
      clear BK168
      clear HB
      have BK168 := n0_
      have HB := n1_
      clear n0_ n1_
      refine start_ (n := 49) (S := fun w' => w'.cell? ⟨gb168, 0, none⟩ = some (.int .i64 ((rd_T61 l0 x14_1).f0)) ∧ w'.cell? ⟨gb168, 1, none⟩ = some (.int .i64 ((rd_T61 l0 x14_1).f1)) ∧ w'.cell? ⟨gb168, 2, none⟩ = some (.int .i64 ((rd_T61 l0 x14_1).f2)) ∧ w'.cell? ⟨gb168, 3, none⟩ = some (.int .i64 ((rd_T61 l0 x14_1).f3)) ∧ w'.cell? ⟨gb168, 4, none⟩ = some (.int .i64 ((rd_T61 l0 x14_1).f4)) ∧ w'.cell? ⟨gb168, 5, none⟩ = some (.slice A167_5 ((rd_T61 l0 x14_1).f5).length c167_5)) (ds := []) (bv 49 0) (by kernel_rfl) rfl rfl ⟨(blk_cell BK168.out 0).trans rfl, (blk_cell BK168.out 1).trans rfl, (blk_cell BK168.out 2).trans rfl, (blk_cell BK168.out 3).trans rfl, (blk_cell BK168.out 4).trans rfl, (blk_cell BK168.out 5).trans rfl⟩ (fun hHeld => ?_); refine with_tabW impl_AreTeams.tab7 impl_AreTeams.bits7 (fun HT_ HW_ => ?_)
      generalize w54.drew = w55 at BK168 HB hHeld ⊢
      refine pv_ 49 0 22 1 rfl rfl HT_ ?_
      refine tv_ 49 1 23 3 rfl rfl HT_ HW_ hHeld (by rintro w' ⟨s0, s1, s2, s3, s4, s5⟩; go_simp; with_reducible rfl) ?_
      refine one_ (i := 2) (N := some 24) (bv 49 7) rfl rfl (one_of HT_.out (by kernel_rfl)) (by decide) (fun K hK => ?_)
      refine goes_ Try.func61 (by kernel_rfl) rfl #[.int .i64 ((rd_T61 l0 x14_1).f0), .int .i64 1, .int .i64 99] (by rfl) rfl rfl (by (try simp only [List.map_toArray, List.map_cons, List.map_nil]); first | done | rfl | (simp only [List.length_drop, List.length_take]; rfl)) ?_
      with_reducible refine (impl_InRange.calls ((rd_T61 l0 x14_1).f0) 1 99 false _ A9.out).mono ?_
      rintro e w' ⟨rfl, ⟨nd, rfl⟩⟩
      refine ⟨_, rfl, ?_⟩
      refine hK.out _ _ ⟨(blk_cell BK168.out 0).trans rfl, (blk_cell BK168.out 1).trans rfl, (blk_cell BK168.out 2).trans rfl, (blk_cell BK168.out 3).trans rfl, (blk_cell BK168.out 4).trans rfl, (blk_cell BK168.out 5).trans rfl⟩ (fun hHeld => ?_)
      clear hK K
      refine nm_ 24 ?_
      refine pv_ 49 3 25 15 rfl rfl HT_ ?_; refine pv_ 49 4 26 31 rfl rfl HT_ ?_; refine pu_ 49 5 27 63 rfl rfl HT_ ?_; refine pu_ 49 6 28 127 rfl rfl HT_ ?_; refine pu_ 49 7 29 255 rfl rfl HT_ ?_; refine pu_ 49 8 30 511 rfl rfl HT_ ?_; refine pu_ 49 9 31 1023 rfl rfl HT_ ?_; refine pu_ 49 10 32 2047 rfl rfl HT_ ?_; refine pu_ 49 11 33 4095 rfl rfl HT_ ?_; refine pu_ 49 12 34 8191 rfl rfl HT_ ?_; refine pu_ 49 13 35 16383 rfl rfl HT_ ?_; refine pu_ 49 14 36 32767 rfl rfl HT_ ?_; refine pu_ 49 15 37 65535 rfl rfl HT_ ?_; refine pu_ 49 16 38 131071 rfl rfl HT_ ?_; refine pu_ 49 17 39 262143 rfl rfl HT_ ?_; refine pv_ 49 18 40 524287 rfl rfl HT_ ?_; refine pv_ 49 19 41 1048575 rfl rfl HT_ ?_; refine pu_ 49 20 42 2097151 rfl rfl HT_ ?_; refine pu_ 49 21 43 4194303 rfl rfl HT_ ?_; refine pu_ 49 22 44 8388607 rfl rfl HT_ ?_; refine pu_ 49 23 45 16777215 rfl rfl HT_ ?_; refine pv_ 49 24 46 33554431 rfl rfl HT_ ?_
      refine pv_ 49 25 47 67108863 rfl rfl HT_ ?_; refine pu_ 49 26 48 134217727 rfl rfl HT_ ?_; refine pu_ 49 27 49 268435455 rfl rfl HT_ ?_; refine pv_ 49 28 50 536870911 rfl rfl HT_ ?_; refine pv_ 49 29 51 1073741823 rfl rfl HT_ ?_; refine pu_ 49 30 52 2147483647 rfl rfl HT_ ?_; refine pu_ 49 31 53 4294967295 rfl rfl HT_ ?_; refine pu_ 49 32 54 8589934591 rfl rfl HT_ ?_; refine pu_ 49 33 55 17179869183 rfl rfl HT_ ?_; refine pu_ 49 34 56 34359738367 rfl rfl HT_ ?_; refine pv_ 49 35 57 68719476735 rfl rfl HT_ ?_; refine pv_ 49 36 58 137438953471 rfl rfl HT_ ?_; refine pu_ 49 37 59 274877906943 rfl rfl HT_ ?_; refine pu_ 49 38 60 549755813887 rfl rfl HT_ ?_; refine pu_ 49 39 61 1099511627775 rfl rfl HT_ ?_; refine pu_ 49 40 62 2199023255551 rfl rfl HT_ ?_; refine pu_ 49 41 63 4398046511103 rfl rfl HT_ ?_; refine pv_ 49 42 64 8796093022207 rfl rfl HT_ ?_; refine pv_ 49 43 65 17592186044415 rfl rfl HT_ ?_
      refine pu_ 49 44 66 35184372088831 rfl rfl HT_ ?_; refine pu_ 49 45 67 70368744177663 rfl rfl HT_ ?_; refine pu_ 49 46 68 140737488355327 rfl rfl HT_ ?_; refine pu_ 49 47 69 281474976710655 rfl rfl HT_ ?_; refine pv_ 49 48 70 562949953421311 rfl rfl HT_ ?_
      refine done_ (done_of HT_.out (by kernel_rfl)) ?_
      try go_wp2
      go_meet
      case rel => exact ⟨_, (true), (by first | rfl | (simp; done) | (simp [*]; done)), H', ⟨by have := HK1.out; first | omega | exact Nat.le_refl _⟩, ⟨by (with_reducible repeat (first | refine blk_drewN ?_ _ | refine blk_drew ?_ | refine blk_alloc ?_ _)); exact BK168.out⟩, ⟨by repeat (first | (with_reducible first | exact HB.out | apply below_alloc | apply pw_below_drewN | apply below_drew1 | refine below_set ?_ GE168.out) | exact HB.out)⟩⟩
     subst c10
     have H1 : (if x14_1 > 0 then (if 0 ≤ (wrap64 (x14_1 - 1)) then (if (wrap64 (x14_1 - 1)) < (l0.length : Int) then (if ((rd_T61 l0 x14_1).f0) ≤ ((rd_T61 l0 (wrap64 (x14_1 - 1))).f0) then (impl_AreTeams.j1 k1 l0 l0 (l0.length : Int) x14_1 true ((rd_T61 l0 x14_1).f0) ((rd_T61 l0 x14_1).f1) ((rd_T61 l0 x14_1).f2) ((rd_T61 l0 x14_1).f3) ((rd_T61 l0 x14_1).f4) ((rd_T61 l0 x14_1).f5)) else ((impl_InRange.f ((rd_T61 l0 x14_1).f1) 1 99).bind fun t171 => (if t171 = true then (if (((rd_T61 l0 x14_1).f5).length : Int) > 20 then (impl_AreTeams.j1 k1 l0 l0 (l0.length : Int) x14_1 true ((rd_T61 l0 x14_1).f0) ((rd_T61 l0 x14_1).f1) ((rd_T61 l0 x14_1).f2) ((rd_T61 l0 x14_1).f3) ((rd_T61 l0 x14_1).f4) ((rd_T61 l0 x14_1).f5)) else ((impl_InRange.f ((rd_T61 l0 x14_1).f2) 0 (((rd_T61 l0 x14_1).f5).length : Int)).bind fun t172 => (if t172 = true then ((impl_InRange.f ((rd_T61 l0 x14_1).f4) 0 (((rd_T61 l0 x14_1).f5).length : Int)).bind fun t173 => (if t173 = true then ((impl_InRange.f ((rd_T61 l0 x14_1).f3) 0 100000).bind fun t174 => (impl_AreTeams.j1 k1 l0 l0 (l0.length : Int) x14_1 (!t174) ((rd_T61 l0 x14_1).f0) ((rd_T61 l0 x14_1).f1) ((rd_T61 l0 x14_1).f2) ((rd_T61 l0 x14_1).f3) ((rd_T61 l0 x14_1).f4) ((rd_T61 l0 x14_1).f5))) else (impl_AreTeams.j1 k1 l0 l0 (l0.length : Int) x14_1 true ((rd_T61 l0 x14_1).f0) ((rd_T61 l0 x14_1).f1) ((rd_T61 l0 x14_1).f2) ((rd_T61 l0 x14_1).f3) ((rd_T61 l0 x14_1).f4) ((rd_T61 l0 x14_1).f5)))) else (impl_AreTeams.j1 k1 l0 l0 (l0.length : Int) x14_1 true ((rd_T61 l0 x14_1).f0) ((rd_T61 l0 x14_1).f1) ((rd_T61 l0 x14_1).f2) ((rd_T61 l0 x14_1).f3) ((rd_T61 l0 x14_1).f4) ((rd_T61 l0 x14_1).f5))))) else (impl_AreTeams.j1 k1 l0 l0 (l0.length : Int) x14_1 true ((rd_T61 l0 x14_1).f0) ((rd_T61 l0 x14_1).f1) ((rd_T61 l0 x14_1).f2) ((rd_T61 l0 x14_1).f3) ((rd_T61 l0 x14_1).f4) ((rd_T61 l0 x14_1).f5))))) else (none)) else (none)) else ((impl_InRange.f ((rd_T61 l0 x14_1).f1) 1 99).bind fun t175 => (if t175 = true then (if (((rd_T61 l0 x14_1).f5).length : Int) > 20 then (impl_AreTeams.j1 k1 l0 l0 (l0.length : Int) x14_1 true ((rd_T61 l0 x14_1).f0) ((rd_T61 l0 x14_1).f1) ((rd_T61 l0 x14_1).f2) ((rd_T61 l0 x14_1).f3) ((rd_T61 l0 x14_1).f4) ((rd_T61 l0 x14_1).f5)) else ((impl_InRange.f ((rd_T61 l0 x14_1).f2) 0 (((rd_T61 l0 x14_1).f5).length : Int)).bind fun t176 => (if t176 = true then ((impl_InRange.f ((rd_T61 l0 x14_1).f4) 0 (((rd_T61 l0 x14_1).f5).length : Int)).bind fun t177 => (if t177 = true then ((impl_InRange.f ((rd_T61 l0 x14_1).f3) 0 100000).bind fun t178 => (impl_AreTeams.j1 k1 l0 l0 (l0.length : Int) x14_1 (!t178) ((rd_T61 l0 x14_1).f0) ((rd_T61 l0 x14_1).f1) ((rd_T61 l0 x14_1).f2) ((rd_T61 l0 x14_1).f3) ((rd_T61 l0 x14_1).f4) ((rd_T61 l0 x14_1).f5))) else (impl_AreTeams.j1 k1 l0 l0 (l0.length : Int) x14_1 true ((rd_T61 l0 x14_1).f0) ((rd_T61 l0 x14_1).f1) ((rd_T61 l0 x14_1).f2) ((rd_T61 l0 x14_1).f3) ((rd_T61 l0 x14_1).f4) ((rd_T61 l0 x14_1).f5)))) else (impl_AreTeams.j1 k1 l0 l0 (l0.length : Int) x14_1 true ((rd_T61 l0 x14_1).f0) ((rd_T61 l0 x14_1).f1) ((rd_T61 l0 x14_1).f2) ((rd_T61 l0 x14_1).f3) ((rd_T61 l0 x14_1).f4) ((rd_T61 l0 x14_1).f5))))) else (impl_AreTeams.j1 k1 l0 l0 (l0.length : Int) x14_1 true ((rd_T61 l0 x14_1).f0) ((rd_T61 l0 x14_1).f1) ((rd_T61 l0 x14_1).f2) ((rd_T61 l0 x14_1).f3) ((rd_T61 l0 x14_1).f4) ((rd_T61 l0 x14_1).f5))))) = some r := by rw [if_pos rfl] at H; exact H
     clear H
     have H := H1
     clear H1
     by_cases c11 : x14_1 > 0
     rotate_left
     ·
      rw [if_neg c11] at H
      have c11b0 : decide (0 < x14_1) = false := decide_eq_false c11
      clear c11
      (first | rw [c11b0] | (simp only [i64_w, i32_w]; rw [c11b0]) | skip)
      replace H := Option.bind_eq_some_iff.mp H
      obtain ⟨t175, A360, H⟩ := H
      replace H : (if t175 = true then (if (((rd_T61 l0 x14_1).f5).length : Int) > 20 then (impl_AreTeams.j1 k1 l0 l0 (l0.length : Int) x14_1 true ((rd_T61 l0 x14_1).f0) ((rd_T61 l0 x14_1).f1) ((rd_T61 l0 x14_1).f2) ((rd_T61 l0 x14_1).f3) ((rd_T61 l0 x14_1).f4) ((rd_T61 l0 x14_1).f5)) else ((impl_InRange.f ((rd_T61 l0 x14_1).f2) 0 (((rd_T61 l0 x14_1).f5).length : Int)).bind fun t176 => (if t176 = true then ((impl_InRange.f ((rd_T61 l0 x14_1).f4) 0 (((rd_T61 l0 x14_1).f5).length : Int)).bind fun t177 => (if t177 = true then ((impl_InRange.f ((rd_T61 l0 x14_1).f3) 0 100000).bind fun t178 => (impl_AreTeams.j1 k1 l0 l0 (l0.length : Int) x14_1 (!t178) ((rd_T61 l0 x14_1).f0) ((rd_T61 l0 x14_1).f1) ((rd_T61 l0 x14_1).f2) ((rd_T61 l0 x14_1).f3) ((rd_T61 l0 x14_1).f4) ((rd_T61 l0 x14_1).f5))) else (impl_AreTeams.j1 k1 l0 l0 (l0.length : Int) x14_1 true ((rd_T61 l0 x14_1).f0) ((rd_T61 l0 x14_1).f1) ((rd_T61 l0 x14_1).f2) ((rd_T61 l0 x14_1).f3) ((rd_T61 l0 x14_1).f4) ((rd_T61 l0 x14_1).f5)))) else (impl_AreTeams.j1 k1 l0 l0 (l0.length : Int) x14_1 true ((rd_T61 l0 x14_1).f0) ((rd_T61 l0 x14_1).f1) ((rd_T61 l0 x14_1).f2) ((rd_T61 l0 x14_1).f3) ((rd_T61 l0 x14_1).f4) ((rd_T61 l0 x14_1).f5))))) else (impl_AreTeams.j1 k1 l0 l0 (l0.length : Int) x14_1 true ((rd_T61 l0 x14_1).f0) ((rd_T61 l0 x14_1).f1) ((rd_T61 l0 x14_1).f2) ((rd_T61 l0 x14_1).f3) ((rd_T61 l0 x14_1).f4) ((rd_T61 l0 x14_1).f5))) = some r := H
      have A36 := Aside0.mk A360
      clear A360
      by_cases c37 : t175 = true
      rotate_left
      ·
       replace c37 := Bool.eq_false_iff.mpr c37
       subst c37
       have H1 : (impl_AreTeams.j1 k1 l0 l0 (l0.length : Int) x14_1 true ((rd_T61 l0 x14_1).f0) ((rd_T61 l0 x14_1).f1) ((rd_T61 l0 x14_1).f2) ((rd_T61 l0 x14_1).f3) ((rd_T61 l0 x14_1).f4) ((rd_T61 l0 x14_1).f5)) = some r := by rw [if_neg (show ¬ (false = true) by decide)] at H; exact H
       clear H
       have H := H1
       clear H1
       have H' := Aside0.mk H
       clear H
       try go_wp2
       have n0_ : Aside0 (((((((w7.setCell ⟨gb168, 0, none⟩ (.int .i64 ((rd_T61 l0 x14_1).f0))).setCell ⟨gb168, 1, none⟩ (.int .i64 ((rd_T61 l0 x14_1).f1))).setCell ⟨gb168, 2, none⟩ (.int .i64 ((rd_T61 l0 x14_1).f2))).setCell ⟨gb168, 3, none⟩ (.int .i64 ((rd_T61 l0 x14_1).f3))).setCell ⟨gb168, 4, none⟩ (.int .i64 ((rd_T61 l0 x14_1).f4))).setCell ⟨gb168, 5, none⟩ (.slice A167_5 ((rd_T61 l0 x14_1).f5).length c167_5)).heap[gb168]? = some (.cells #[.int .i64 ((rd_T61 l0 x14_1).f0), .int .i64 ((rd_T61 l0 x14_1).f1), .int .i64 ((rd_T61 l0 x14_1).f2), .int .i64 ((rd_T61 l0 x14_1).f3), .int .i64 ((rd_T61 l0 x14_1).f4), .slice A167_5 ((rd_T61 l0 x14_1).f5).length c167_5] 61 (0, 0))) := ⟨by (with_reducible repeat (first | refine blk_drewN ?_ _ | refine blk_drew ?_ | refine blk_alloc ?_ _)); refine blk_put (cs := #[.int .i64 ((rd_T61 l0 x14_1).f0), .int .i64 ((rd_T61 l0 x14_1).f1), .int .i64 ((rd_T61 l0 x14_1).f2), .int .i64 ((rd_T61 l0 x14_1).f3), .int .i64 ((rd_T61 l0 x14_1).f4), .slice none 0 0]) ?_ 5 _ rfl; (with_reducible repeat (first | refine blk_drewN ?_ _ | refine blk_drew ?_ | refine blk_alloc ?_ _)); refine blk_put (cs := #[.int .i64 ((rd_T61 l0 x14_1).f0), .int .i64 ((rd_T61 l0 x14_1).f1), .int .i64 ((rd_T61 l0 x14_1).f2), .int .i64 ((rd_T61 l0 x14_1).f3), .int .i64 0, .slice none 0 0]) ?_ 4 _ rfl; (with_reducible repeat (first | refine blk_drewN ?_ _ | refine blk_drew ?_ | refine blk_alloc ?_ _)); refine blk_put (cs := #[.int .i64 ((rd_T61 l0 x14_1).f0), .int .i64 ((rd_T61 l0 x14_1).f1), .int .i64 ((rd_T61 l0 x14_1).f2), .int .i64 0, .int .i64 0, .slice none 0 0]) ?_ 3 _ rfl; (with_reducible repeat (first | refine blk_drewN ?_ _ | refine blk_drew ?_ | refine blk_alloc ?_ _)); refine blk_put (cs := #[.int .i64 ((rd_T61 l0 x14_1).f0), .int .i64 ((rd_T61 l0 x14_1).f1), .int .i64 0, .int .i64 0, .int .i64 0, .slice none 0 0]) ?_ 2 _ rfl; (with_reducible repeat (first | refine blk_drewN ?_ _ | refine blk_drew ?_ | refine blk_alloc ?_ _)); refine blk_put (cs := #[.int .i64 ((rd_T61 l0 x14_1).f0), .int .i64 0, .int .i64 0, .int .i64 0, .int .i64 0, .slice none 0 0]) ?_ 1 _ rfl; (with_reducible repeat (first | refine blk_drewN ?_ _ | refine blk_drew ?_ | refine blk_alloc ?_ _)); refine blk_put (cs := #[.int .i64 0, .int .i64 0, .int .i64 0, .int .i64 0, .int .i64 0, .slice none 0 0]) ?_ 0 _ rfl; (with_reducible repeat (first | refine blk_drewN ?_ _ | refine blk_drew ?_ | refine blk_alloc ?_ _)); exact BK168.out⟩
       have n1_ : Aside0 (Below w.heap.size w ((((((w7.setCell ⟨gb168, 0, none⟩ (.int .i64 ((rd_T61 l0 x14_1).f0))).setCell ⟨gb168, 1, none⟩ (.int .i64 ((rd_T61 l0 x14_1).f1))).setCell ⟨gb168, 2, none⟩ (.int .i64 ((rd_T61 l0 x14_1).f2))).setCell ⟨gb168, 3, none⟩ (.int .i64 ((rd_T61 l0 x14_1).f3))).setCell ⟨gb168, 4, none⟩ (.int .i64 ((rd_T61 l0 x14_1).f4))).setCell ⟨gb168, 5, none⟩ (.slice A167_5 ((rd_T61 l0 x14_1).f5).length c167_5))) := ⟨by repeat (first | (with_reducible first | exact HB.out | apply below_alloc | apply pw_below_drewN | apply below_drew1 | refine below_set ?_ GE168.out) | exact HB.out)⟩
       (try clear BK168)
       (try clear HB)
       generalize ((((((w7.setCell ⟨gb168, 0, none⟩ (.int .i64 ((rd_T61 l0 x14_1).f0))).setCell ⟨gb168, 1, none⟩ (.int .i64 ((rd_T61 l0 x14_1).f1))).setCell ⟨gb168, 2, none⟩ (.int .i64 ((rd_T61 l0 x14_1).f2))).setCell ⟨gb168, 3, none⟩ (.int .i64 ((rd_T61 l0 x14_1).f3))).setCell ⟨gb168, 4, none⟩ (.int .i64 ((rd_T61 l0 x14_1).f4))).setCell ⟨gb168, 5, none⟩ (.slice A167_5 ((rd_T61 l0 x14_1).f5).length c167_5)) = w52 at n0_ n1_ ⊢
       have BK168 := n0_
       have HB := n1_
       clear n0_ n1_
       have n0_ := Aside0.mk (blk_drew BK168.out)
       have n1_ := Aside0.mk (below_drew1 HB.out)
       clear BK168
       clear HB
       have BK168 := n0_
       have HB := n1_
       clear n0_ n1_
       refine start_ (n := 49) (S := fun w' => w'.cell? ⟨gb168, 0, none⟩ = some (.int .i64 ((rd_T61 l0 x14_1).f0)) ∧ w'.cell? ⟨gb168, 1, none⟩ = some (.int .i64 ((rd_T61 l0 x14_1).f1)) ∧ w'.cell? ⟨gb168, 2, none⟩ = some (.int .i64 ((rd_T61 l0 x14_1).f2)) ∧ w'.cell? ⟨gb168, 3, none⟩ = some (.int .i64 ((rd_T61 l0 x14_1).f3)) ∧ w'.cell? ⟨gb168, 4, none⟩ = some (.int .i64 ((rd_T61 l0 x14_1).f4)) ∧ w'.cell? ⟨gb168, 5, none⟩ = some (.slice A167_5 ((rd_T61 l0 x14_1).f5).length c167_5)) (ds := []) (bv 49 0) (by kernel_rfl) rfl rfl ⟨(blk_cell BK168.out 0).trans rfl, (blk_cell BK168.out 1).trans rfl, (blk_cell BK168.out 2).trans rfl, (blk_cell BK168.out 3).trans rfl, (blk_cell BK168.out 4).trans rfl, (blk_cell BK168.out 5).trans rfl⟩ (fun hHeld => ?_); refine with_tabW impl_AreTeams.tab7 impl_AreTeams.bits7 (fun HT_ HW_ => ?_)
       generalize w52.drew = w53 at BK168 HB hHeld ⊢
       refine pv_ 49 0 22 1 rfl rfl HT_ ?_
       refine tv_ 49 1 23 3 rfl rfl HT_ HW_ hHeld (by rintro w' ⟨s0, s1, s2, s3, s4, s5⟩; go_simp; with_reducible rfl) ?_
       refine one_ (i := 2) (N := some 24) (bv 49 7) rfl rfl (one_of HT_.out (by kernel_rfl)) (by decide) (fun K hK => ?_)
       refine goes_ Try.func61 (by kernel_rfl) rfl #[.int .i64 ((rd_T61 l0 x14_1).f0), .int .i64 1, .int .i64 99] (by rfl) rfl rfl (by (try simp only [List.map_toArray, List.map_cons, List.map_nil]); first | done | rfl | (simp only [List.length_drop, List.length_take]; rfl)) ?_
       with_reducible refine (impl_InRange.calls ((rd_T61 l0 x14_1).f0) 1 99 true _ A9.out).mono ?_
       rintro e w' ⟨rfl, ⟨nd, rfl⟩⟩
       refine ⟨_, rfl, ?_⟩
       refine hK.out _ _ ⟨(blk_cell BK168.out 0).trans rfl, (blk_cell BK168.out 1).trans rfl, (blk_cell BK168.out 2).trans rfl, (blk_cell BK168.out 3).trans rfl, (blk_cell BK168.out 4).trans rfl, (blk_cell BK168.out 5).trans rfl⟩ (fun hHeld => ?_)
       clear hK K
       refine nm_ 24 ?_
       refine pv_ 49 3 25 15 rfl rfl HT_ ?_; refine pv_ 49 4 26 31 rfl rfl HT_ ?_; refine pv_ 49 5 27 63 rfl rfl HT_ ?_; refine pv_ 49 6 28 127 rfl rfl HT_ ?_; refine pv_ 49 7 29 255 rfl rfl HT_ ?_; refine pu_ 49 8 30 511 rfl rfl HT_ ?_; refine pu_ 49 9 31 1023 rfl rfl HT_ ?_; refine pu_ 49 10 32 2047 rfl rfl HT_ ?_; refine pu_ 49 11 33 4095 rfl rfl HT_ ?_; refine pu_ 49 12 34 8191 rfl rfl HT_ ?_; refine pu_ 49 13 35 16383 rfl rfl HT_ ?_; refine pu_ 49 14 36 32767 rfl rfl HT_ ?_; refine pu_ 49 15 37 65535 rfl rfl HT_ ?_; refine pu_ 49 16 38 131071 rfl rfl HT_ ?_; refine pv_ 49 17 39 262143 rfl rfl HT_ ?_; refine pv_ 49 18 40 524287 rfl rfl HT_ ?_; refine pv_ 49 19 41 1048575 rfl rfl HT_ ?_; refine pv_ 49 20 42 2097151 rfl rfl HT_ ?_
       refine tv_ 49 21 43 4194303 rfl rfl HT_ HW_ hHeld (by rintro w' ⟨s0, s1, s2, s3, s4, s5⟩; go_simp; with_reducible rfl) ?_
       refine one_ (i := 22) (N := some 44) (bv 49 8388607) rfl rfl (one_of HT_.out (by kernel_rfl)) (by decide) (fun K hK => ?_)
       refine goes_ Try.func61 (by kernel_rfl) rfl #[.int .i64 ((rd_T61 l0 x14_1).f1), .int .i64 1, .int .i64 99] (by rfl) rfl rfl (by (try simp only [List.map_toArray, List.map_cons, List.map_nil]); first | done | rfl | (simp only [List.length_drop, List.length_take]; rfl)) ?_
       with_reducible refine (impl_InRange.calls ((rd_T61 l0 x14_1).f1) 1 99 false _ A36.out).mono ?_
       rintro e w' ⟨rfl, ⟨nd, rfl⟩⟩
       refine ⟨_, rfl, ?_⟩
       refine hK.out _ _ ⟨(blk_cell BK168.out 0).trans rfl, (blk_cell BK168.out 1).trans rfl, (blk_cell BK168.out 2).trans rfl, (blk_cell BK168.out 3).trans rfl, (blk_cell BK168.out 4).trans rfl, (blk_cell BK168.out 5).trans rfl⟩ (fun hHeld => ?_)
       clear hK K
       refine nm_ 44 ?_
       refine pv_ 49 23 45 16777215 rfl rfl HT_ ?_; refine pv_ 49 24 46 33554431 rfl rfl HT_ ?_; refine pv_ 49 25 47 67108863 rfl rfl HT_ ?_; refine pu_ 49 26 48 134217727 rfl rfl HT_ ?_; refine pu_ 49 27 49 268435455 rfl rfl HT_ ?_; refine pv_ 49 28 50 536870911 rfl rfl HT_ ?_; refine pv_ 49 29 51 1073741823 rfl rfl HT_ ?_; refine pu_ 49 30 52 2147483647 rfl rfl HT_ ?_; refine pu_ 49 31 53 4294967295 rfl rfl HT_ ?_; refine pu_ 49 32 54 8589934591 rfl rfl HT_ ?_; refine pu_ 49 33 55 17179869183 rfl rfl HT_ ?_; refine pu_ 49 34 56 34359738367 rfl rfl HT_ ?_; refine pv_ 49 35 57 68719476735 rfl rfl HT_ ?_; refine pv_ 49 36 58 137438953471 rfl rfl HT_ ?_; refine pu_ 49 37 59 274877906943 rfl rfl HT_ ?_; refine pu_ 49 38 60 549755813887 rfl rfl HT_ ?_; refine pu_ 49 39 61 1099511627775 rfl rfl HT_ ?_; refine pu_ 49 40 62 2199023255551 rfl rfl HT_ ?_; refine pu_ 49 41 63 4398046511103 rfl rfl HT_ ?_
       refine pv_ 49 42 64 8796093022207 rfl rfl HT_ ?_; refine pv_ 49 43 65 17592186044415 rfl rfl HT_ ?_; refine pu_ 49 44 66 35184372088831 rfl rfl HT_ ?_; refine pu_ 49 45 67 70368744177663 rfl rfl HT_ ?_; refine pu_ 49 46 68 140737488355327 rfl rfl HT_ ?_; refine pu_ 49 47 69 281474976710655 rfl rfl HT_ ?_; refine pv_ 49 48 70 562949953421311 rfl rfl HT_ ?_
       refine done_ (done_of HT_.out (by kernel_rfl)) ?_
       try go_wp2
       go_meet
       case rel => exact ⟨_, (true), (by first | rfl | (simp; done) | (simp [*]; done)), H', ⟨by have := HK1.out; first | omega | exact Nat.le_refl _⟩, ⟨by (with_reducible repeat (first | refine blk_drewN ?_ _ | refine blk_drew ?_ | refine blk_alloc ?_ _)); exact BK168.out⟩, ⟨by repeat (first | (with_reducible first | exact HB.out | apply below_alloc | apply pw_below_drewN | apply below_drew1 | refine below_set ?_ GE168.out) | exact HB.out)⟩⟩
      subst c37
      have H1 : (if (((rd_T61 l0 x14_1).f5).length : Int) > 20 then (impl_AreTeams.j1 k1 l0 l0 (l0.length : Int) x14_1 true ((rd_T61 l0 x14_1).f0) ((rd_T61 l0 x14_1).f1) ((rd_T61 l0 x14_1).f2) ((rd_T61 l0 x14_1).f3) ((rd_T61 l0 x14_1).f4) ((rd_T61 l0 x14_1).f5)) else ((impl_InRange.f ((rd_T61 l0 x14_1).f2) 0 (((rd_T61 l0 x14_1).f5).length : Int)).bind fun t176 => (if t176 = true then ((impl_InRange.f ((rd_T61 l0 x14_1).f4) 0 (((rd_T61 l0 x14_1).f5).length : Int)).bind fun t177 => (if t177 = true then ((impl_InRange.f ((rd_T61 l0 x14_1).f3) 0 100000).bind fun t178 => (impl_AreTeams.j1 k1 l0 l0 (l0.length : Int) x14_1 (!t178) ((rd_T61 l0 x14_1).f0) ((rd_T61 l0 x14_1).f1) ((rd_T61 l0 x14_1).f2) ((rd_T61 l0 x14_1).f3) ((rd_T61 l0 x14_1).f4) ((rd_T61 l0 x14_1).f5))) else (impl_AreTeams.j1 k1 l0 l0 (l0.length : Int) x14_1 true ((rd_T61 l0 x14_1).f0) ((rd_T61 l0 x14_1).f1) ((rd_T61 l0 x14_1).f2) ((rd_T61 l0 x14_1).f3) ((rd_T61 l0 x14_1).f4) ((rd_T61 l0 x14_1).f5)))) else (impl_AreTeams.j1 k1 l0 l0 (l0.length : Int) x14_1 true ((rd_T61 l0 x14_1).f0) ((rd_T61 l0 x14_1).f1) ((rd_T61 l0 x14_1).f2) ((rd_T61 l0 x14_1).f3) ((rd_T61 l0 x14_1).f4) ((rd_T61 l0 x14_1).f5))))) = some r := by rw [if_pos rfl] at H; exact H
      clear H
      have H := H1
      clear H1
      by_cases c38 : (((rd_T61 l0 x14_1).f5).length : Int) > 20
      rotate_left
      ·
       rw [if_neg c38] at H
       have c38b0 : decide (20 < (((rd_T61 l0 x14_1).f5).length : Int)) = false := decide_eq_false c38
       have c38b1 : decide (20 < ((rd_T61 l0 x14_1).f5).length) = false := decide_eq_false (by omega)
       clear c38
       replace H := Option.bind_eq_some_iff.mp H
       obtain ⟨t176, A410, H⟩ := H
       replace H : (if t176 = true then ((impl_InRange.f ((rd_T61 l0 x14_1).f4) 0 (((rd_T61 l0 x14_1).f5).length : Int)).bind fun t177 => (if t177 = true then ((impl_InRange.f ((rd_T61 l0 x14_1).f3) 0 100000).bind fun t178 => (impl_AreTeams.j1 k1 l0 l0 (l0.length : Int) x14_1 (!t178) ((rd_T61 l0 x14_1).f0) ((rd_T61 l0 x14_1).f1) ((rd_T61 l0 x14_1).f2) ((rd_T61 l0 x14_1).f3) ((rd_T61 l0 x14_1).f4) ((rd_T61 l0 x14_1).f5))) else (impl_AreTeams.j1 k1 l0 l0 (l0.length : Int) x14_1 true ((rd_T61 l0 x14_1).f0) ((rd_T61 l0 x14_1).f1) ((rd_T61 l0 x14_1).f2) ((rd_T61 l0 x14_1).f3) ((rd_T61 l0 x14_1).f4) ((rd_T61 l0 x14_1).f5)))) else (impl_AreTeams.j1 k1 l0 l0 (l0.length : Int) x14_1 true ((rd_T61 l0 x14_1).f0) ((rd_T61 l0 x14_1).f1) ((rd_T61 l0 x14_1).f2) ((rd_T61 l0 x14_1).f3) ((rd_T61 l0 x14_1).f4) ((rd_T61 l0 x14_1).f5))) = some r := H
       have A41 := Aside0.mk A410
       clear A410
       by_cases c42 : t176 = true
       rotate_left
       ·
        replace c42 := Bool.eq_false_iff.mpr c42
        subst c42
        have H1 : (impl_AreTeams.j1 k1 l0 l0 (l0.length : Int) x14_1 true ((rd_T61 l0 x14_1).f0) ((rd_T61 l0 x14_1).f1) ((rd_T61 l0 x14_1).f2) ((rd_T61 l0 x14_1).f3) ((rd_T61 l0 x14_1).f4) ((rd_T61 l0 x14_1).f5)) = some r := by rw [if_neg (show ¬ (false = true) by decide)] at H; exact H
        clear H
        have H := H1
        clear H1
        have H' := Aside0.mk H
        clear H
        try go_wp2
        have n0_ : Aside0 (((((((w7.setCell ⟨gb168, 0, none⟩ (.int .i64 ((rd_T61 l0 x14_1).f0))).setCell ⟨gb168, 1, none⟩ (.int .i64 ((rd_T61 l0 x14_1).f1))).setCell ⟨gb168, 2, none⟩ (.int .i64 ((rd_T61 l0 x14_1).f2))).setCell ⟨gb168, 3, none⟩ (.int .i64 ((rd_T61 l0 x14_1).f3))).setCell ⟨gb168, 4, none⟩ (.int .i64 ((rd_T61 l0 x14_1).f4))).setCell ⟨gb168, 5, none⟩ (.slice A167_5 ((rd_T61 l0 x14_1).f5).length c167_5)).heap[gb168]? = some (.cells #[.int .i64 ((rd_T61 l0 x14_1).f0), .int .i64 ((rd_T61 l0 x14_1).f1), .int .i64 ((rd_T61 l0 x14_1).f2), .int .i64 ((rd_T61 l0 x14_1).f3), .int .i64 ((rd_T61 l0 x14_1).f4), .slice A167_5 ((rd_T61 l0 x14_1).f5).length c167_5] 61 (0, 0))) := ⟨by (with_reducible repeat (first | refine blk_drewN ?_ _ | refine blk_drew ?_ | refine blk_alloc ?_ _)); refine blk_put (cs := #[.int .i64 ((rd_T61 l0 x14_1).f0), .int .i64 ((rd_T61 l0 x14_1).f1), .int .i64 ((rd_T61 l0 x14_1).f2), .int .i64 ((rd_T61 l0 x14_1).f3), .int .i64 ((rd_T61 l0 x14_1).f4), .slice none 0 0]) ?_ 5 _ rfl; (with_reducible repeat (first | refine blk_drewN ?_ _ | refine blk_drew ?_ | refine blk_alloc ?_ _)); refine blk_put (cs := #[.int .i64 ((rd_T61 l0 x14_1).f0), .int .i64 ((rd_T61 l0 x14_1).f1), .int .i64 ((rd_T61 l0 x14_1).f2), .int .i64 ((rd_T61 l0 x14_1).f3), .int .i64 0, .slice none 0 0]) ?_ 4 _ rfl; (with_reducible repeat (first | refine blk_drewN ?_ _ | refine blk_drew ?_ | refine blk_alloc ?_ _)); refine blk_put (cs := #[.int .i64 ((rd_T61 l0 x14_1).f0), .int .i64 ((rd_T61 l0 x14_1).f1), .int .i64 ((rd_T61 l0 x14_1).f2), .int .i64 0, .int .i64 0, .slice none 0 0]) ?_ 3 _ rfl; (with_reducible repeat (first | refine blk_drewN ?_ _ | refine blk_drew ?_ | refine blk_alloc ?_ _)); refine blk_put (cs := #[.int .i64 ((rd_T61 l0 x14_1).f0), .int .i64 ((rd_T61 l0 x14_1).f1), .int .i64 0, .int .i64 0, .int .i64 0, .slice none 0 0]) ?_ 2 _ rfl; (with_reducible repeat (first | refine blk_drewN ?_ _ | refine blk_drew ?_ | refine blk_alloc ?_ _)); refine blk_put (cs := #[.int .i64 ((rd_T61 l0 x14_1).f0), .int .i64 0, .int .i64 0, .int .i64 0, .int .i64 0, .slice none 0 0]) ?_ 1 _ rfl; (with_reducible repeat (first | refine blk_drewN ?_ _ | refine blk_drew ?_ | refine blk_alloc ?_ _)); refine blk_put (cs := #[.int .i64 0, .int .i64 0, .int .i64 0, .int .i64 0, .int .i64 0, .slice none 0 0]) ?_ 0 _ rfl; (with_reducible repeat (first | refine blk_drewN ?_ _ | refine blk_drew ?_ | refine blk_alloc ?_ _)); exact BK168.out⟩
        have n1_ : Aside0 (Below w.heap.size w ((((((w7.setCell ⟨gb168, 0, none⟩ (.int .i64 ((rd_T61 l0 x14_1).f0))).setCell ⟨gb168, 1, none⟩ (.int .i64 ((rd_T61 l0 x14_1).f1))).setCell ⟨gb168, 2, none⟩ (.int .i64 ((rd_T61 l0 x14_1).f2))).setCell ⟨gb168, 3, none⟩ (.int .i64 ((rd_T61 l0 x14_1).f3))).setCell ⟨gb168, 4, none⟩ (.int .i64 ((rd_T61 l0 x14_1).f4))).setCell ⟨gb168, 5, none⟩ (.slice A167_5 ((rd_T61 l0 x14_1).f5).length c167_5))) := ⟨by repeat (first | (with_reducible first | exact HB.out | apply below_alloc | apply pw_below_drewN | apply below_drew1 | refine below_set ?_ GE168.out) | exact HB.out)⟩
        (try clear BK168)
        (try clear HB)
        generalize ((((((w7.setCell ⟨gb168, 0, none⟩ (.int .i64 ((rd_T61 l0 x14_1).f0))).setCell ⟨gb168, 1, none⟩ (.int .i64 ((rd_T61 l0 x14_1).f1))).setCell ⟨gb168, 2, none⟩ (.int .i64 ((rd_T61 l0 x14_1).f2))).setCell ⟨gb168, 3, none⟩ (.int .i64 ((rd_T61 l0 x14_1).f3))).setCell ⟨gb168, 4, none⟩ (.int .i64 ((rd_T61 l0 x14_1).f4))).setCell ⟨gb168, 5, none⟩ (.slice A167_5 ((rd_T61 l0 x14_1).f5).length c167_5)) = w50 at n0_ n1_ ⊢
        have BK168 := n0_
        have HB := n1_
        clear n0_ n1_
        have n0_ := Aside0.mk (blk_drew BK168.out)
        have n1_ := Aside0.mk (below_drew1 HB.out)
        clear BK168
        clear HB
        have BK168 := n0_
        have HB := n1_
        clear n0_ n1_
        refine start_ (n := 49) (S := fun w' => w'.cell? ⟨gb168, 0, none⟩ = some (.int .i64 ((rd_T61 l0 x14_1).f0)) ∧ w'.cell? ⟨gb168, 1, none⟩ = some (.int .i64 ((rd_T61 l0 x14_1).f1)) ∧ w'.cell? ⟨gb168, 2, none⟩ = some (.int .i64 ((rd_T61 l0 x14_1).f2)) ∧ w'.cell? ⟨gb168, 3, none⟩ = some (.int .i64 ((rd_T61 l0 x14_1).f3)) ∧ w'.cell? ⟨gb168, 4, none⟩ = some (.int .i64 ((rd_T61 l0 x14_1).f4)) ∧ w'.cell? ⟨gb168, 5, none⟩ = some (.slice A167_5 ((rd_T61 l0 x14_1).f5).length c167_5)) (ds := []) (bv 49 0) (by kernel_rfl) rfl rfl ⟨(blk_cell BK168.out 0).trans rfl, (blk_cell BK168.out 1).trans rfl, (blk_cell BK168.out 2).trans rfl, (blk_cell BK168.out 3).trans rfl, (blk_cell BK168.out 4).trans rfl, (blk_cell BK168.out 5).trans rfl⟩ (fun hHeld => ?_); refine with_tabW impl_AreTeams.tab7 impl_AreTeams.bits7 (fun HT_ HW_ => ?_)
        generalize w50.drew = w51 at BK168 HB hHeld ⊢
        refine pv_ 49 0 22 1 rfl rfl HT_ ?_
        refine tv_ 49 1 23 3 rfl rfl HT_ HW_ hHeld (by rintro w' ⟨s0, s1, s2, s3, s4, s5⟩; go_simp; with_reducible rfl) ?_
        refine one_ (i := 2) (N := some 24) (bv 49 7) rfl rfl (one_of HT_.out (by kernel_rfl)) (by decide) (fun K hK => ?_)
        refine goes_ Try.func61 (by kernel_rfl) rfl #[.int .i64 ((rd_T61 l0 x14_1).f0), .int .i64 1, .int .i64 99] (by rfl) rfl rfl (by (try simp only [List.map_toArray, List.map_cons, List.map_nil]); first | done | rfl | (simp only [List.length_drop, List.length_take]; rfl)) ?_
        with_reducible refine (impl_InRange.calls ((rd_T61 l0 x14_1).f0) 1 99 true _ A9.out).mono ?_
        rintro e w' ⟨rfl, ⟨nd, rfl⟩⟩
        refine ⟨_, rfl, ?_⟩
        refine hK.out _ _ ⟨(blk_cell BK168.out 0).trans rfl, (blk_cell BK168.out 1).trans rfl, (blk_cell BK168.out 2).trans rfl, (blk_cell BK168.out 3).trans rfl, (blk_cell BK168.out 4).trans rfl, (blk_cell BK168.out 5).trans rfl⟩ (fun hHeld => ?_)
        clear hK K
        refine nm_ 24 ?_
        refine pv_ 49 3 25 15 rfl rfl HT_ ?_; refine pv_ 49 4 26 31 rfl rfl HT_ ?_; refine pv_ 49 5 27 63 rfl rfl HT_ ?_; refine pv_ 49 6 28 127 rfl rfl HT_ ?_; refine pv_ 49 7 29 255 rfl rfl HT_ ?_; refine pu_ 49 8 30 511 rfl rfl HT_ ?_; refine pu_ 49 9 31 1023 rfl rfl HT_ ?_; refine pu_ 49 10 32 2047 rfl rfl HT_ ?_; refine pu_ 49 11 33 4095 rfl rfl HT_ ?_; refine pu_ 49 12 34 8191 rfl rfl HT_ ?_; refine pu_ 49 13 35 16383 rfl rfl HT_ ?_; refine pu_ 49 14 36 32767 rfl rfl HT_ ?_; refine pu_ 49 15 37 65535 rfl rfl HT_ ?_; refine pu_ 49 16 38 131071 rfl rfl HT_ ?_; refine pv_ 49 17 39 262143 rfl rfl HT_ ?_; refine pv_ 49 18 40 524287 rfl rfl HT_ ?_; refine pv_ 49 19 41 1048575 rfl rfl HT_ ?_; refine pv_ 49 20 42 2097151 rfl rfl HT_ ?_
        refine tv_ 49 21 43 4194303 rfl rfl HT_ HW_ hHeld (by rintro w' ⟨s0, s1, s2, s3, s4, s5⟩; go_simp; with_reducible rfl) ?_
        refine one_ (i := 22) (N := some 44) (bv 49 8388607) rfl rfl (one_of HT_.out (by kernel_rfl)) (by decide) (fun K hK => ?_)
        refine goes_ Try.func61 (by kernel_rfl) rfl #[.int .i64 ((rd_T61 l0 x14_1).f1), .int .i64 1, .int .i64 99] (by rfl) rfl rfl (by (try simp only [List.map_toArray, List.map_cons, List.map_nil]); first | done | rfl | (simp only [List.length_drop, List.length_take]; rfl)) ?_
        with_reducible refine (impl_InRange.calls ((rd_T61 l0 x14_1).f1) 1 99 true _ A36.out).mono ?_
        rintro e w' ⟨rfl, ⟨nd, rfl⟩⟩
        refine ⟨_, rfl, ?_⟩
        refine hK.out _ _ ⟨(blk_cell BK168.out 0).trans rfl, (blk_cell BK168.out 1).trans rfl, (blk_cell BK168.out 2).trans rfl, (blk_cell BK168.out 3).trans rfl, (blk_cell BK168.out 4).trans rfl, (blk_cell BK168.out 5).trans rfl⟩ (fun hHeld => ?_)
        clear hK K
        refine nm_ 44 ?_
        refine pv_ 49 23 45 16777215 rfl rfl HT_ ?_; refine pv_ 49 24 46 33554431 rfl rfl HT_ ?_; refine pv_ 49 25 47 67108863 rfl rfl HT_ ?_; refine pv_ 49 26 48 134217727 rfl rfl HT_ ?_; refine pv_ 49 27 49 268435455 rfl rfl HT_ ?_; refine pv_ 49 28 50 536870911 rfl rfl HT_ ?_; refine pv_ 49 29 51 1073741823 rfl rfl HT_ ?_; refine pv_ 49 30 52 2147483647 rfl rfl HT_ ?_; refine pv_ 49 32 54 6442450943 rfl rfl HT_ ?_
        refine tv_ 49 31 53 8589934591 rfl rfl HT_ HW_ hHeld (by rintro w' ⟨s0, s1, s2, s3, s4, s5⟩; go_simp; with_reducible rfl) ?_
        refine one_ (i := 33) (N := some 55) (bv 49 17179869183) rfl rfl (one_of HT_.out (by kernel_rfl)) (by decide) (fun K hK => ?_)
        refine goes_ Try.func61 (by kernel_rfl) rfl #[.int .i64 ((rd_T61 l0 x14_1).f2), .int .i64 0, .int .i64 (((rd_T61 l0 x14_1).f5).length : Int)] (by rfl) rfl rfl (by (try simp only [List.map_toArray, List.map_cons, List.map_nil]); first | done | rfl | (simp only [List.length_drop, List.length_take]; rfl)) ?_
        with_reducible refine (impl_InRange.calls ((rd_T61 l0 x14_1).f2) 0 (((rd_T61 l0 x14_1).f5).length : Int) false _ A41.out).mono ?_
        rintro e w' ⟨rfl, ⟨nd, rfl⟩⟩
        refine ⟨_, rfl, ?_⟩
        refine hK.out _ _ ⟨(blk_cell BK168.out 0).trans rfl, (blk_cell BK168.out 1).trans rfl, (blk_cell BK168.out 2).trans rfl, (blk_cell BK168.out 3).trans rfl, (blk_cell BK168.out 4).trans rfl, (blk_cell BK168.out 5).trans rfl⟩ (fun hHeld => ?_)
        clear hK K
        refine nm_ 55 ?_
        refine pv_ 49 34 56 34359738367 rfl rfl HT_ ?_; refine pv_ 49 35 57 68719476735 rfl rfl HT_ ?_; refine pv_ 49 36 58 137438953471 rfl rfl HT_ ?_; refine pu_ 49 37 59 274877906943 rfl rfl HT_ ?_; refine pu_ 49 38 60 549755813887 rfl rfl HT_ ?_; refine pu_ 49 39 61 1099511627775 rfl rfl HT_ ?_; refine pu_ 49 40 62 2199023255551 rfl rfl HT_ ?_; refine pu_ 49 41 63 4398046511103 rfl rfl HT_ ?_; refine pv_ 49 42 64 8796093022207 rfl rfl HT_ ?_; refine pv_ 49 43 65 17592186044415 rfl rfl HT_ ?_; refine pu_ 49 44 66 35184372088831 rfl rfl HT_ ?_; refine pu_ 49 45 67 70368744177663 rfl rfl HT_ ?_; refine pu_ 49 46 68 140737488355327 rfl rfl HT_ ?_; refine pu_ 49 47 69 281474976710655 rfl rfl HT_ ?_; refine pv_ 49 48 70 562949953421311 rfl rfl HT_ ?_
        refine done_ (done_of HT_.out (by kernel_rfl)) ?_
        try go_wp2
        go_meet
        case rel => exact ⟨_, (true), (by first | rfl | (simp; done) | (simp [*]; done)), H', ⟨by have := HK1.out; first | omega | exact Nat.le_refl _⟩, ⟨by (with_reducible repeat (first | refine blk_drewN ?_ _ | refine blk_drew ?_ | refine blk_alloc ?_ _)); exact BK168.out⟩, ⟨by repeat (first | (with_reducible first | exact HB.out | apply below_alloc | apply pw_below_drewN | apply below_drew1 | refine below_set ?_ GE168.out) | exact HB.out)⟩⟩
       subst c42
       have H1 : ((impl_InRange.f ((rd_T61 l0 x14_1).f4) 0 (((rd_T61 l0 x14_1).f5).length : Int)).bind fun t177 => (if t177 = true then ((impl_InRange.f ((rd_T61 l0 x14_1).f3) 0 100000).bind fun t178 => (impl_AreTeams.j1 k1 l0 l0 (l0.length : Int) x14_1 (!t178) ((rd_T61 l0 x14_1).f0) ((rd_T61 l0 x14_1).f1) ((rd_T61 l0 x14_1).f2) ((rd_T61 l0 x14_1).f3) ((rd_T61 l0 x14_1).f4) ((rd_T61 l0 x14_1).f5))) else (impl_AreTeams.j1 k1 l0 l0 (l0.length : Int) x14_1 true ((rd_T61 l0 x14_1).f0) ((rd_T61 l0 x14_1).f1) ((rd_T61 l0 x14_1).f2) ((rd_T61 l0 x14_1).f3) ((rd_T61 l0 x14_1).f4) ((rd_T61 l0 x14_1).f5)))) = some r := by rw [if_pos rfl] at H; exact H
       clear H
       have H := H1
       clear H1
       replace H := Option.bind_eq_some_iff.mp H
       obtain ⟨t177, A430, H⟩ := H
       replace H : (if t177 = true then ((impl_InRange.f ((rd_T61 l0 x14_1).f3) 0 100000).bind fun t178 => (impl_AreTeams.j1 k1 l0 l0 (l0.length : Int) x14_1 (!t178) ((rd_T61 l0 x14_1).f0) ((rd_T61 l0 x14_1).f1) ((rd_T61 l0 x14_1).f2) ((rd_T61 l0 x14_1).f3) ((rd_T61 l0 x14_1).f4) ((rd_T61 l0 x14_1).f5))) else (impl_AreTeams.j1 k1 l0 l0 (l0.length : Int) x14_1 true ((rd_T61 l0 x14_1).f0) ((rd_T61 l0 x14_1).f1) ((rd_T61 l0 x14_1).f2) ((rd_T61 l0 x14_1).f3) ((rd_T61 l0 x14_1).f4) ((rd_T61 l0 x14_1).f5))) = some r := H
       have A43 := Aside0.mk A430
       clear A430
       by_cases c44 : t177 = true
       rotate_left
       ·
        replace c44 := Bool.eq_false_iff.mpr c44
        subst c44
        have H1 : (impl_AreTeams.j1 k1 l0 l0 (l0.length : Int) x14_1 true ((rd_T61 l0 x14_1).f0) ((rd_T61 l0 x14_1).f1) ((rd_T61 l0 x14_1).f2) ((rd_T61 l0 x14_1).f3) ((rd_T61 l0 x14_1).f4) ((rd_T61 l0 x14_1).f5)) = some r := by rw [if_neg (show ¬ (false = true) by decide)] at H; exact H
        clear H
        have H := H1
        clear H1
        have H' := Aside0.mk H
        clear H
        try go_wp2
        have n0_ : Aside0 (((((((w7.setCell ⟨gb168, 0, none⟩ (.int .i64 ((rd_T61 l0 x14_1).f0))).setCell ⟨gb168, 1, none⟩ (.int .i64 ((rd_T61 l0 x14_1).f1))).setCell ⟨gb168, 2, none⟩ (.int .i64 ((rd_T61 l0 x14_1).f2))).setCell ⟨gb168, 3, none⟩ (.int .i64 ((rd_T61 l0 x14_1).f3))).setCell ⟨gb168, 4, none⟩ (.int .i64 ((rd_T61 l0 x14_1).f4))).setCell ⟨gb168, 5, none⟩ (.slice A167_5 ((rd_T61 l0 x14_1).f5).length c167_5)).heap[gb168]? = some (.cells #[.int .i64 ((rd_T61 l0 x14_1).f0), .int .i64 ((rd_T61 l0 x14_1).f1), .int .i64 ((rd_T61 l0 x14_1).f2), .int .i64 ((rd_T61 l0 x14_1).f3), .int .i64 ((rd_T61 l0 x14_1).f4), .slice A167_5 ((rd_T61 l0 x14_1).f5).length c167_5] 61 (0, 0))) := ⟨by (with_reducible repeat (first | refine blk_drewN ?_ _ | refine blk_drew ?_ | refine blk_alloc ?_ _)); refine blk_put (cs := #[.int .i64 ((rd_T61 l0 x14_1).f0), .int .i64 ((rd_T61 l0 x14_1).f1), .int .i64 ((rd_T61 l0 x14_1).f2), .int .i64 ((rd_T61 l0 x14_1).f3), .int .i64 ((rd_T61 l0 x14_1).f4), .slice none 0 0]) ?_ 5 _ rfl; (with_reducible repeat (first | refine blk_drewN ?_ _ | refine blk_drew ?_ | refine blk_alloc ?_ _)); refine blk_put (cs := #[.int .i64 ((rd_T61 l0 x14_1).f0), .int .i64 ((rd_T61 l0 x14_1).f1), .int .i64 ((rd_T61 l0 x14_1).f2), .int .i64 ((rd_T61 l0 x14_1).f3), .int .i64 0, .slice none 0 0]) ?_ 4 _ rfl; (with_reducible repeat (first | refine blk_drewN ?_ _ | refine blk_drew ?_ | refine blk_alloc ?_ _)); refine blk_put (cs := #[.int .i64 ((rd_T61 l0 x14_1).f0), .int .i64 ((rd_T61 l0 x14_1).f1), .int .i64 ((rd_T61 l0 x14_1).f2), .int .i64 0, .int .i64 0, .slice none 0 0]) ?_ 3 _ rfl; (with_reducible repeat (first | refine blk_drewN ?_ _ | refine blk_drew ?_ | refine blk_alloc ?_ _)); refine blk_put (cs := #[.int .i64 ((rd_T61 l0 x14_1).f0), .int .i64 ((rd_T61 l0 x14_1).f1), .int .i64 0, .int .i64 0, .int .i64 0, .slice none 0 0]) ?_ 2 _ rfl; (with_reducible repeat (first | refine blk_drewN ?_ _ | refine blk_drew ?_ | refine blk_alloc ?_ _)); refine blk_put (cs := #[.int .i64 ((rd_T61 l0 x14_1).f0), .int .i64 0, .int .i64 0, .int .i64 0, .int .i64 0, .slice none 0 0]) ?_ 1 _ rfl; (with_reducible repeat (first | refine blk_drewN ?_ _ | refine blk_drew ?_ | refine blk_alloc ?_ _)); refine blk_put (cs := #[.int .i64 0, .int .i64 0, .int .i64 0, .int .i64 0, .int .i64 0, .slice none 0 0]) ?_ 0 _ rfl; (with_reducible repeat (first | refine blk_drewN ?_ _ | refine blk_drew ?_ | refine blk_alloc ?_ _)); exact BK168.out⟩
        have n1_ : Aside0 (Below w.heap.size w ((((((w7.setCell ⟨gb168, 0, none⟩ (.int .i64 ((rd_T61 l0 x14_1).f0))).setCell ⟨gb168, 1, none⟩ (.int .i64 ((rd_T61 l0 x14_1).f1))).setCell ⟨gb168, 2, none⟩ (.int .i64 ((rd_T61 l0 x14_1).f2))).setCell ⟨gb168, 3, none⟩ (.int .i64 ((rd_T61 l0 x14_1).f3))).setCell ⟨gb168, 4, none⟩ (.int .i64 ((rd_T61 l0 x14_1).f4))).setCell ⟨gb168, 5, none⟩ (.slice A167_5 ((rd_T61 l0 x14_1).f5).length c167_5))) := ⟨by repeat (first | (with_reducible first | exact HB.out | apply below_alloc | apply pw_below_drewN | apply below_drew1 | refine below_set ?_ GE168.out) | exact HB.out)⟩
        (try clear BK168)
        (try clear HB)
        generalize ((((((w7.setCell ⟨gb168, 0, none⟩ (.int .i64 ((rd_T61 l0 x14_1).f0))).setCell ⟨gb168, 1, none⟩ (.int .i64 ((rd_T61 l0 x14_1).f1))).setCell ⟨gb168, 2, none⟩ (.int .i64 ((rd_T61 l0 x14_1).f2))).setCell ⟨gb168, 3, none⟩ (.int .i64 ((rd_T61 l0 x14_1).f3))).setCell ⟨gb168, 4, none⟩ (.int .i64 ((rd_T61 l0 x14_1).f4))).setCell ⟨gb168, 5, none⟩ (.slice A167_5 ((rd_T61 l0 x14_1).f5).length c167_5)) = w48 at n0_ n1_ ⊢
        have BK168 := n0_
        have HB := n1_
        clear n0_ n1_
        have n0_ := Aside0.mk (blk_drew BK168.out)
        have n1_ := Aside0.mk (below_drew1 HB.out)
        clear BK168
        clear HB
        have BK168 := n0_
        have HB := n1_
        clear n0_ n1_
        refine start_ (n := 49) (S := fun w' => w'.cell? ⟨gb168, 0, none⟩ = some (.int .i64 ((rd_T61 l0 x14_1).f0)) ∧ w'.cell? ⟨gb168, 1, none⟩ = some (.int .i64 ((rd_T61 l0 x14_1).f1)) ∧ w'.cell? ⟨gb168, 2, none⟩ = some (.int .i64 ((rd_T61 l0 x14_1).f2)) ∧ w'.cell? ⟨gb168, 3, none⟩ = some (.int .i64 ((rd_T61 l0 x14_1).f3)) ∧ w'.cell? ⟨gb168, 4, none⟩ = some (.int .i64 ((rd_T61 l0 x14_1).f4)) ∧ w'.cell? ⟨gb168, 5, none⟩ = some (.slice A167_5 ((rd_T61 l0 x14_1).f5).length c167_5)) (ds := []) (bv 49 0) (by kernel_rfl) rfl rfl ⟨(blk_cell BK168.out 0).trans rfl, (blk_cell BK168.out 1).trans rfl, (blk_cell BK168.out 2).trans rfl, (blk_cell BK168.out 3).trans rfl, (blk_cell BK168.out 4).trans rfl, (blk_cell BK168.out 5).trans rfl⟩ (fun hHeld => ?_); refine with_tabW impl_AreTeams.tab7 impl_AreTeams.bits7 (fun HT_ HW_ => ?_)
        generalize w48.drew = w49 at BK168 HB hHeld ⊢
        refine pv_ 49 0 22 1 rfl rfl HT_ ?_
        refine tv_ 49 1 23 3 rfl rfl HT_ HW_ hHeld (by rintro w' ⟨s0, s1, s2, s3, s4, s5⟩; go_simp; with_reducible rfl) ?_
        refine one_ (i := 2) (N := some 24) (bv 49 7) rfl rfl (one_of HT_.out (by kernel_rfl)) (by decide) (fun K hK => ?_)
        refine goes_ Try.func61 (by kernel_rfl) rfl #[.int .i64 ((rd_T61 l0 x14_1).f0), .int .i64 1, .int .i64 99] (by rfl) rfl rfl (by (try simp only [List.map_toArray, List.map_cons, List.map_nil]); first | done | rfl | (simp only [List.length_drop, List.length_take]; rfl)) ?_
        with_reducible refine (impl_InRange.calls ((rd_T61 l0 x14_1).f0) 1 99 true _ A9.out).mono ?_
        rintro e w' ⟨rfl, ⟨nd, rfl⟩⟩
        refine ⟨_, rfl, ?_⟩
        refine hK.out _ _ ⟨(blk_cell BK168.out 0).trans rfl, (blk_cell BK168.out 1).trans rfl, (blk_cell BK168.out 2).trans rfl, (blk_cell BK168.out 3).trans rfl, (blk_cell BK168.out 4).trans rfl, (blk_cell BK168.out 5).trans rfl⟩ (fun hHeld => ?_)
        clear hK K
        refine nm_ 24 ?_
        refine pv_ 49 3 25 15 rfl rfl HT_ ?_; refine pv_ 49 4 26 31 rfl rfl HT_ ?_; refine pv_ 49 5 27 63 rfl rfl HT_ ?_; refine pv_ 49 6 28 127 rfl rfl HT_ ?_; refine pv_ 49 7 29 255 rfl rfl HT_ ?_; refine pu_ 49 8 30 511 rfl rfl HT_ ?_; refine pu_ 49 9 31 1023 rfl rfl HT_ ?_; refine pu_ 49 10 32 2047 rfl rfl HT_ ?_; refine pu_ 49 11 33 4095 rfl rfl HT_ ?_; refine pu_ 49 12 34 8191 rfl rfl HT_ ?_; refine pu_ 49 13 35 16383 rfl rfl HT_ ?_; refine pu_ 49 14 36 32767 rfl rfl HT_ ?_; refine pu_ 49 15 37 65535 rfl rfl HT_ ?_; refine pu_ 49 16 38 131071 rfl rfl HT_ ?_; refine pv_ 49 17 39 262143 rfl rfl HT_ ?_; refine pv_ 49 18 40 524287 rfl rfl HT_ ?_; refine pv_ 49 19 41 1048575 rfl rfl HT_ ?_; refine pv_ 49 20 42 2097151 rfl rfl HT_ ?_
        refine tv_ 49 21 43 4194303 rfl rfl HT_ HW_ hHeld (by rintro w' ⟨s0, s1, s2, s3, s4, s5⟩; go_simp; with_reducible rfl) ?_
        refine one_ (i := 22) (N := some 44) (bv 49 8388607) rfl rfl (one_of HT_.out (by kernel_rfl)) (by decide) (fun K hK => ?_)
        refine goes_ Try.func61 (by kernel_rfl) rfl #[.int .i64 ((rd_T61 l0 x14_1).f1), .int .i64 1, .int .i64 99] (by rfl) rfl rfl (by (try simp only [List.map_toArray, List.map_cons, List.map_nil]); first | done | rfl | (simp only [List.length_drop, List.length_take]; rfl)) ?_
        with_reducible refine (impl_InRange.calls ((rd_T61 l0 x14_1).f1) 1 99 true _ A36.out).mono ?_
        rintro e w' ⟨rfl, ⟨nd, rfl⟩⟩
        refine ⟨_, rfl, ?_⟩
        refine hK.out _ _ ⟨(blk_cell BK168.out 0).trans rfl, (blk_cell BK168.out 1).trans rfl, (blk_cell BK168.out 2).trans rfl, (blk_cell BK168.out 3).trans rfl, (blk_cell BK168.out 4).trans rfl, (blk_cell BK168.out 5).trans rfl⟩ (fun hHeld => ?_)
        clear hK K
        refine nm_ 44 ?_
        refine pv_ 49 23 45 16777215 rfl rfl HT_ ?_; refine pv_ 49 24 46 33554431 rfl rfl HT_ ?_; refine pv_ 49 25 47 67108863 rfl rfl HT_ ?_; refine pv_ 49 26 48 134217727 rfl rfl HT_ ?_; refine pv_ 49 27 49 268435455 rfl rfl HT_ ?_; refine pv_ 49 28 50 536870911 rfl rfl HT_ ?_; refine pv_ 49 29 51 1073741823 rfl rfl HT_ ?_; refine pv_ 49 30 52 2147483647 rfl rfl HT_ ?_; refine pv_ 49 32 54 6442450943 rfl rfl HT_ ?_
        refine tv_ 49 31 53 8589934591 rfl rfl HT_ HW_ hHeld (by rintro w' ⟨s0, s1, s2, s3, s4, s5⟩; go_simp; with_reducible rfl) ?_
        refine one_ (i := 33) (N := some 55) (bv 49 17179869183) rfl rfl (one_of HT_.out (by kernel_rfl)) (by decide) (fun K hK => ?_)
        refine goes_ Try.func61 (by kernel_rfl) rfl #[.int .i64 ((rd_T61 l0 x14_1).f2), .int .i64 0, .int .i64 (((rd_T61 l0 x14_1).f5).length : Int)] (by rfl) rfl rfl (by (try simp only [List.map_toArray, List.map_cons, List.map_nil]); first | done | rfl | (simp only [List.length_drop, List.length_take]; rfl)) ?_
        with_reducible refine (impl_InRange.calls ((rd_T61 l0 x14_1).f2) 0 (((rd_T61 l0 x14_1).f5).length : Int) true _ A41.out).mono ?_
        rintro e w' ⟨rfl, ⟨nd, rfl⟩⟩
        refine ⟨_, rfl, ?_⟩
        refine hK.out _ _ ⟨(blk_cell BK168.out 0).trans rfl, (blk_cell BK168.out 1).trans rfl, (blk_cell BK168.out 2).trans rfl, (blk_cell BK168.out 3).trans rfl, (blk_cell BK168.out 4).trans rfl, (blk_cell BK168.out 5).trans rfl⟩ (fun hHeld => ?_)
        clear hK K
        refine nm_ 55 ?_
        refine pv_ 49 34 56 34359738367 rfl rfl HT_ ?_; refine pv_ 49 35 57 68719476735 rfl rfl HT_ ?_; refine pv_ 49 36 58 137438953471 rfl rfl HT_ ?_; refine pv_ 49 37 59 274877906943 rfl rfl HT_ ?_; refine pv_ 49 39 61 824633720831 rfl rfl HT_ ?_
        refine tv_ 49 38 60 1099511627775 rfl rfl HT_ HW_ hHeld (by rintro w' ⟨s0, s1, s2, s3, s4, s5⟩; go_simp; with_reducible rfl) ?_
        refine one_ (i := 40) (N := some 62) (bv 49 2199023255551) rfl rfl (one_of HT_.out (by kernel_rfl)) (by decide) (fun K hK => ?_)
        refine goes_ Try.func61 (by kernel_rfl) rfl #[.int .i64 ((rd_T61 l0 x14_1).f4), .int .i64 0, .int .i64 (((rd_T61 l0 x14_1).f5).length : Int)] (by rfl) rfl rfl (by (try simp only [List.map_toArray, List.map_cons, List.map_nil]); first | done | rfl | (simp only [List.length_drop, List.length_take]; rfl)) ?_
        with_reducible refine (impl_InRange.calls ((rd_T61 l0 x14_1).f4) 0 (((rd_T61 l0 x14_1).f5).length : Int) false _ A43.out).mono ?_
        rintro e w' ⟨rfl, ⟨nd, rfl⟩⟩
        refine ⟨_, rfl, ?_⟩
        refine hK.out _ _ ⟨(blk_cell BK168.out 0).trans rfl, (blk_cell BK168.out 1).trans rfl, (blk_cell BK168.out 2).trans rfl, (blk_cell BK168.out 3).trans rfl, (blk_cell BK168.out 4).trans rfl, (blk_cell BK168.out 5).trans rfl⟩ (fun hHeld => ?_)
        clear hK K
        refine nm_ 62 ?_
        refine pv_ 49 41 63 4398046511103 rfl rfl HT_ ?_; refine pv_ 49 42 64 8796093022207 rfl rfl HT_ ?_; refine pv_ 49 43 65 17592186044415 rfl rfl HT_ ?_; refine pu_ 49 44 66 35184372088831 rfl rfl HT_ ?_; refine pu_ 49 45 67 70368744177663 rfl rfl HT_ ?_; refine pu_ 49 46 68 140737488355327 rfl rfl HT_ ?_; refine pu_ 49 47 69 281474976710655 rfl rfl HT_ ?_; refine pv_ 49 48 70 562949953421311 rfl rfl HT_ ?_
        refine done_ (done_of HT_.out (by kernel_rfl)) ?_
        try go_wp2
        go_meet
        case rel => exact ⟨_, (true), (by first | rfl | (simp; done) | (simp [*]; done)), H', ⟨by have := HK1.out; first | omega | exact Nat.le_refl _⟩, ⟨by (with_reducible repeat (first | refine blk_drewN ?_ _ | refine blk_drew ?_ | refine blk_alloc ?_ _)); exact BK168.out⟩, ⟨by repeat (first | (with_reducible first | exact HB.out | apply below_alloc | apply pw_below_drewN | apply below_drew1 | refine below_set ?_ GE168.out) | exact HB.out)⟩⟩
       subst c44
       have H1 : ((impl_InRange.f ((rd_T61 l0 x14_1).f3) 0 100000).bind fun t178 => (impl_AreTeams.j1 k1 l0 l0 (l0.length : Int) x14_1 (!t178) ((rd_T61 l0 x14_1).f0) ((rd_T61 l0 x14_1).f1) ((rd_T61 l0 x14_1).f2) ((rd_T61 l0 x14_1).f3) ((rd_T61 l0 x14_1).f4) ((rd_T61 l0 x14_1).f5))) = some r := by rw [if_pos rfl] at H; exact H
       clear H
       have H := H1
       clear H1
       replace H := Option.bind_eq_some_iff.mp H
       obtain ⟨t178, A450, H⟩ := H
       replace H : (impl_AreTeams.j1 k1 l0 l0 (l0.length : Int) x14_1 (!t178) ((rd_T61 l0 x14_1).f0) ((rd_T61 l0 x14_1).f1) ((rd_T61 l0 x14_1).f2) ((rd_T61 l0 x14_1).f3) ((rd_T61 l0 x14_1).f4) ((rd_T61 l0 x14_1).f5)) = some r := H
       have A45 := Aside0.mk A450
       clear A450
       have H' := Aside0.mk H
       clear H
       try go_wp2
       have n0_ : Aside0 (((((((w7.setCell ⟨gb168, 0, none⟩ (.int .i64 ((rd_T61 l0 x14_1).f0))).setCell ⟨gb168, 1, none⟩ (.int .i64 ((rd_T61 l0 x14_1).f1))).setCell ⟨gb168, 2, none⟩ (.int .i64 ((rd_T61 l0 x14_1).f2))).setCell ⟨gb168, 3, none⟩ (.int .i64 ((rd_T61 l0 x14_1).f3))).setCell ⟨gb168, 4, none⟩ (.int .i64 ((rd_T61 l0 x14_1).f4))).setCell ⟨gb168, 5, none⟩ (.slice A167_5 ((rd_T61 l0 x14_1).f5).length c167_5)).heap[gb168]? = some (.cells #[.int .i64 ((rd_T61 l0 x14_1).f0), .int .i64 ((rd_T61 l0 x14_1).f1), .int .i64 ((rd_T61 l0 x14_1).f2), .int .i64 ((rd_T61 l0 x14_1).f3), .int .i64 ((rd_T61 l0 x14_1).f4), .slice A167_5 ((rd_T61 l0 x14_1).f5).length c167_5] 61 (0, 0))) := ⟨by (with_reducible repeat (first | refine blk_drewN ?_ _ | refine blk_drew ?_ | refine blk_alloc ?_ _)); refine blk_put (cs := #[.int .i64 ((rd_T61 l0 x14_1).f0), .int .i64 ((rd_T61 l0 x14_1).f1), .int .i64 ((rd_T61 l0 x14_1).f2), .int .i64 ((rd_T61 l0 x14_1).f3), .int .i64 ((rd_T61 l0 x14_1).f4), .slice none 0 0]) ?_ 5 _ rfl; (with_reducible repeat (first | refine blk_drewN ?_ _ | refine blk_drew ?_ | refine blk_alloc ?_ _)); refine blk_put (cs := #[.int .i64 ((rd_T61 l0 x14_1).f0), .int .i64 ((rd_T61 l0 x14_1).f1), .int .i64 ((rd_T61 l0 x14_1).f2), .int .i64 ((rd_T61 l0 x14_1).f3), .int .i64 0, .slice none 0 0]) ?_ 4 _ rfl; (with_reducible repeat (first | refine blk_drewN ?_ _ | refine blk_drew ?_ | refine blk_alloc ?_ _)); refine blk_put (cs := #[.int .i64 ((rd_T61 l0 x14_1).f0), .int .i64 ((rd_T61 l0 x14_1).f1), .int .i64 ((rd_T61 l0 x14_1).f2), .int .i64 0, .int .i64 0, .slice none 0 0]) ?_ 3 _ rfl; (with_reducible repeat (first | refine blk_drewN ?_ _ | refine blk_drew ?_ | refine blk_alloc ?_ _)); refine blk_put (cs := #[.int .i64 ((rd_T61 l0 x14_1).f0), .int .i64 ((rd_T61 l0 x14_1).f1), .int .i64 0, .int .i64 0, .int .i64 0, .slice none 0 0]) ?_ 2 _ rfl; (with_reducible repeat (first | refine blk_drewN ?_ _ | refine blk_drew ?_ | refine blk_alloc ?_ _)); refine blk_put (cs := #[.int .i64 ((rd_T61 l0 x14_1).f0), .int .i64 0, .int .i64 0, .int .i64 0, .int .i64 0, .slice none 0 0]) ?_ 1 _ rfl; (with_reducible repeat (first | refine blk_drewN ?_ _ | refine blk_drew ?_ | refine blk_alloc ?_ _)); refine blk_put (cs := #[.int .i64 0, .int .i64 0, .int .i64 0, .int .i64 0, .int .i64 0, .slice none 0 0]) ?_ 0 _ rfl; (with_reducible repeat (first | refine blk_drewN ?_ _ | refine blk_drew ?_ | refine blk_alloc ?_ _)); exact BK168.out⟩
       have n1_ : Aside0 (Below w.heap.size w ((((((w7.setCell ⟨gb168, 0, none⟩ (.int .i64 ((rd_T61 l0 x14_1).f0))).setCell ⟨gb168, 1, none⟩ (.int .i64 ((rd_T61 l0 x14_1).f1))).setCell ⟨gb168, 2, none⟩ (.int .i64 ((rd_T61 l0 x14_1).f2))).setCell ⟨gb168, 3, none⟩ (.int .i64 ((rd_T61 l0 x14_1).f3))).setCell ⟨gb168, 4, none⟩ (.int .i64 ((rd_T61 l0 x14_1).f4))).setCell ⟨gb168, 5, none⟩ (.slice A167_5 ((rd_T61 l0 x14_1).f5).length c167_5))) := ⟨by repeat (first | (with_reducible first | exact HB.out | apply below_alloc | apply pw_below_drewN | apply below_drew1 | refine below_set ?_ GE168.out) | exact HB.out)⟩
       (try clear BK168)
       (try clear HB)
       generalize ((((((w7.setCell ⟨gb168, 0, none⟩ (.int .i64 ((rd_T61 l0 x14_1).f0))).setCell ⟨gb168, 1, none⟩ (.int .i64 ((rd_T61 l0 x14_1).f1))).setCell ⟨gb168, 2, none⟩ (.int .i64 ((rd_T61 l0 x14_1).f2))).setCell ⟨gb168, 3, none⟩ (.int .i64 ((rd_T61 l0 x14_1).f3))).setCell ⟨gb168, 4, none⟩ (.int .i64 ((rd_T61 l0 x14_1).f4))).setCell ⟨gb168, 5, none⟩ (.slice A167_5 ((rd_T61 l0 x14_1).f5).length c167_5)) = w46 at n0_ n1_ ⊢
       have BK168 := n0_
       have HB := n1_
       clear n0_ n1_
       have n0_ := Aside0.mk (blk_drew BK168.out)
       have n1_ := Aside0.mk (below_drew1 HB.out)
       clear BK168
       clear HB
       have BK168 := n0_
       have HB := n1_
       clear n0_ n1_
       refine start_ (n := 49) (S := fun w' => w'.cell? ⟨gb168, 0, none⟩ = some (.int .i64 ((rd_T61 l0 x14_1).f0)) ∧ w'.cell? ⟨gb168, 1, none⟩ = some (.int .i64 ((rd_T61 l0 x14_1).f1)) ∧ w'.cell? ⟨gb168, 2, none⟩ = some (.int .i64 ((rd_T61 l0 x14_1).f2)) ∧ w'.cell? ⟨gb168, 3, none⟩ = some (.int .i64 ((rd_T61 l0 x14_1).f3)) ∧ w'.cell? ⟨gb168, 4, none⟩ = some (.int .i64 ((rd_T61 l0 x14_1).f4)) ∧ w'.cell? ⟨gb168, 5, none⟩ = some (.slice A167_5 ((rd_T61 l0 x14_1).f5).length c167_5)) (ds := []) (bv 49 0) (by kernel_rfl) rfl rfl ⟨(blk_cell BK168.out 0).trans rfl, (blk_cell BK168.out 1).trans rfl, (blk_cell BK168.out 2).trans rfl, (blk_cell BK168.out 3).trans rfl, (blk_cell BK168.out 4).trans rfl, (blk_cell BK168.out 5).trans rfl⟩ (fun hHeld => ?_); refine with_tabW impl_AreTeams.tab7 impl_AreTeams.bits7 (fun HT_ HW_ => ?_)
       generalize w46.drew = w47 at BK168 HB hHeld ⊢
       refine pv_ 49 0 22 1 rfl rfl HT_ ?_
       refine tv_ 49 1 23 3 rfl rfl HT_ HW_ hHeld (by rintro w' ⟨s0, s1, s2, s3, s4, s5⟩; go_simp; with_reducible rfl) ?_
       refine one_ (i := 2) (N := some 24) (bv 49 7) rfl rfl (one_of HT_.out (by kernel_rfl)) (by decide) (fun K hK => ?_)
       refine goes_ Try.func61 (by kernel_rfl) rfl #[.int .i64 ((rd_T61 l0 x14_1).f0), .int .i64 1, .int .i64 99] (by rfl) rfl rfl (by (try simp only [List.map_toArray, List.map_cons, List.map_nil]); first | done | rfl | (simp only [List.length_drop, List.length_take]; rfl)) ?_
       with_reducible refine (impl_InRange.calls ((rd_T61 l0 x14_1).f0) 1 99 true _ A9.out).mono ?_
       rintro e w' ⟨rfl, ⟨nd, rfl⟩⟩
       refine ⟨_, rfl, ?_⟩
       refine hK.out _ _ ⟨(blk_cell BK168.out 0).trans rfl, (blk_cell BK168.out 1).trans rfl, (blk_cell BK168.out 2).trans rfl, (blk_cell BK168.out 3).trans rfl, (blk_cell BK168.out 4).trans rfl, (blk_cell BK168.out 5).trans rfl⟩ (fun hHeld => ?_)
       clear hK K
       refine nm_ 24 ?_
       refine pv_ 49 3 25 15 rfl rfl HT_ ?_; refine pv_ 49 4 26 31 rfl rfl HT_ ?_; refine pv_ 49 5 27 63 rfl rfl HT_ ?_; refine pv_ 49 6 28 127 rfl rfl HT_ ?_; refine pv_ 49 7 29 255 rfl rfl HT_ ?_; refine pu_ 49 8 30 511 rfl rfl HT_ ?_; refine pu_ 49 9 31 1023 rfl rfl HT_ ?_; refine pu_ 49 10 32 2047 rfl rfl HT_ ?_; refine pu_ 49 11 33 4095 rfl rfl HT_ ?_; refine pu_ 49 12 34 8191 rfl rfl HT_ ?_; refine pu_ 49 13 35 16383 rfl rfl HT_ ?_; refine pu_ 49 14 36 32767 rfl rfl HT_ ?_; refine pu_ 49 15 37 65535 rfl rfl HT_ ?_; refine pu_ 49 16 38 131071 rfl rfl HT_ ?_; refine pv_ 49 17 39 262143 rfl rfl HT_ ?_; refine pv_ 49 18 40 524287 rfl rfl HT_ ?_; refine pv_ 49 19 41 1048575 rfl rfl HT_ ?_; refine pv_ 49 20 42 2097151 rfl rfl HT_ ?_
       refine tv_ 49 21 43 4194303 rfl rfl HT_ HW_ hHeld (by rintro w' ⟨s0, s1, s2, s3, s4, s5⟩; go_simp; with_reducible rfl) ?_
       refine one_ (i := 22) (N := some 44) (bv 49 8388607) rfl rfl (one_of HT_.out (by kernel_rfl)) (by decide) (fun K hK => ?_)
       refine goes_ Try.func61 (by kernel_rfl) rfl #[.int .i64 ((rd_T61 l0 x14_1).f1), .int .i64 1, .int .i64 99] (by rfl) rfl rfl (by (try simp only [List.map_toArray, List.map_cons, List.map_nil]); first | done | rfl | (simp only [List.length_drop, List.length_take]; rfl)) ?_
       with_reducible refine (impl_InRange.calls ((rd_T61 l0 x14_1).f1) 1 99 true _ A36.out).mono ?_
       rintro e w' ⟨rfl, ⟨nd, rfl⟩⟩
       refine ⟨_, rfl, ?_⟩
       refine hK.out _ _ ⟨(blk_cell BK168.out 0).trans rfl, (blk_cell BK168.out 1).trans rfl, (blk_cell BK168.out 2).trans rfl, (blk_cell BK168.out 3).trans rfl, (blk_cell BK168.out 4).trans rfl, (blk_cell BK168.out 5).trans rfl⟩ (fun hHeld => ?_)
       clear hK K
       refine nm_ 44 ?_
       refine pv_ 49 23 45 16777215 rfl rfl HT_ ?_; refine pv_ 49 24 46 33554431 rfl rfl HT_ ?_; refine pv_ 49 25 47 67108863 rfl rfl HT_ ?_; refine pv_ 49 26 48 134217727 rfl rfl HT_ ?_; refine pv_ 49 27 49 268435455 rfl rfl HT_ ?_; refine pv_ 49 28 50 536870911 rfl rfl HT_ ?_; refine pv_ 49 29 51 1073741823 rfl rfl HT_ ?_; refine pv_ 49 30 52 2147483647 rfl rfl HT_ ?_; refine pv_ 49 32 54 6442450943 rfl rfl HT_ ?_
       refine tv_ 49 31 53 8589934591 rfl rfl HT_ HW_ hHeld (by rintro w' ⟨s0, s1, s2, s3, s4, s5⟩; go_simp; with_reducible rfl) ?_
       refine one_ (i := 33) (N := some 55) (bv 49 17179869183) rfl rfl (one_of HT_.out (by kernel_rfl)) (by decide) (fun K hK => ?_)
       refine goes_ Try.func61 (by kernel_rfl) rfl #[.int .i64 ((rd_T61 l0 x14_1).f2), .int .i64 0, .int .i64 (((rd_T61 l0 x14_1).f5).length : Int)] (by rfl) rfl rfl (by (try simp only [List.map_toArray, List.map_cons, List.map_nil]); first | done | rfl | (simp only [List.length_drop, List.length_take]; rfl)) ?_
       with_reducible refine (impl_InRange.calls ((rd_T61 l0 x14_1).f2) 0 (((rd_T61 l0 x14_1).f5).length : Int) true _ A41.out).mono ?_
       rintro e w' ⟨rfl, ⟨nd, rfl⟩⟩
       refine ⟨_, rfl, ?_⟩
       refine hK.out _ _ ⟨(blk_cell BK168.out 0).trans rfl, (blk_cell BK168.out 1).trans rfl, (blk_cell BK168.out 2).trans rfl, (blk_cell BK168.out 3).trans rfl, (blk_cell BK168.out 4).trans rfl, (blk_cell BK168.out 5).trans rfl⟩ (fun hHeld => ?_)
       clear hK K
       refine nm_ 55 ?_
       refine pv_ 49 34 56 34359738367 rfl rfl HT_ ?_; refine pv_ 49 35 57 68719476735 rfl rfl HT_ ?_; refine pv_ 49 36 58 137438953471 rfl rfl HT_ ?_; refine pv_ 49 37 59 274877906943 rfl rfl HT_ ?_; refine pv_ 49 39 61 824633720831 rfl rfl HT_ ?_
       refine tv_ 49 38 60 1099511627775 rfl rfl HT_ HW_ hHeld (by rintro w' ⟨s0, s1, s2, s3, s4, s5⟩; go_simp; with_reducible rfl) ?_
       refine one_ (i := 40) (N := some 62) (bv 49 2199023255551) rfl rfl (one_of HT_.out (by kernel_rfl)) (by decide) (fun K hK => ?_)
       refine goes_ Try.func61 (by kernel_rfl) rfl #[.int .i64 ((rd_T61 l0 x14_1).f4), .int .i64 0, .int .i64 (((rd_T61 l0 x14_1).f5).length : Int)] (by rfl) rfl rfl (by (try simp only [List.map_toArray, List.map_cons, List.map_nil]); first | done | rfl | (simp only [List.length_drop, List.length_take]; rfl)) ?_
       with_reducible refine (impl_InRange.calls ((rd_T61 l0 x14_1).f4) 0 (((rd_T61 l0 x14_1).f5).length : Int) true _ A43.out).mono ?_
       rintro e w' ⟨rfl, ⟨nd, rfl⟩⟩
       refine ⟨_, rfl, ?_⟩
       refine hK.out _ _ ⟨(blk_cell BK168.out 0).trans rfl, (blk_cell BK168.out 1).trans rfl, (blk_cell BK168.out 2).trans rfl, (blk_cell BK168.out 3).trans rfl, (blk_cell BK168.out 4).trans rfl, (blk_cell BK168.out 5).trans rfl⟩ (fun hHeld => ?_)
       clear hK K
       refine nm_ 62 ?_
       refine pv_ 49 41 63 4398046511103 rfl rfl HT_ ?_; refine pv_ 49 42 64 8796093022207 rfl rfl HT_ ?_; refine pv_ 49 43 65 17592186044415 rfl rfl HT_ ?_; refine pv_ 49 44 66 35184372088831 rfl rfl HT_ ?_
       refine tv_ 49 45 67 70368744177663 rfl rfl HT_ HW_ hHeld (by rintro w' ⟨s0, s1, s2, s3, s4, s5⟩; go_simp; with_reducible rfl) ?_
       refine one_ (i := 46) (N := some 68) (bv 49 140737488355327) rfl rfl (one_of HT_.out (by kernel_rfl)) (by decide) (fun K hK => ?_)
       refine goes_ Try.func61 (by kernel_rfl) rfl #[.int .i64 ((rd_T61 l0 x14_1).f3), .int .i64 0, .int .i64 100000] (by rfl) rfl rfl (by (try simp only [List.map_toArray, List.map_cons, List.map_nil]); first | done | rfl | (simp only [List.length_drop, List.length_take]; rfl)) ?_
       with_reducible refine (impl_InRange.calls ((rd_T61 l0 x14_1).f3) 0 100000 t178 _ A45.out).mono ?_
       rintro e w' ⟨rfl, ⟨nd, rfl⟩⟩
       refine ⟨_, rfl, ?_⟩
       refine hK.out _ _ ⟨(blk_cell BK168.out 0).trans rfl, (blk_cell BK168.out 1).trans rfl, (blk_cell BK168.out 2).trans rfl, (blk_cell BK168.out 3).trans rfl, (blk_cell BK168.out 4).trans rfl, (blk_cell BK168.out 5).trans rfl⟩ (fun hHeld => ?_)
       clear hK K
       refine nm_ 68 ?_
       refine pv_ 49 47 69 281474976710655 rfl rfl HT_ ?_; refine pv_ 49 48 70 562949953421311 rfl rfl HT_ ?_
       refine done_ (done_of HT_.out (by kernel_rfl)) ?_
       try go_wp2
       go_meet
       case rel => exact ⟨_, (!t178), (by first | rfl | (simp; done) | (simp [*]; done)), H', ⟨by have := HK1.out; first | omega | exact Nat.le_refl _⟩, ⟨by (with_reducible repeat (first | refine blk_drewN ?_ _ | refine blk_drew ?_ | refine blk_alloc ?_ _)); exact BK168.out⟩, ⟨by repeat (first | (with_reducible first | exact HB.out | apply below_alloc | apply pw_below_drewN | apply below_drew1 | refine below_set ?_ GE168.out) | exact HB.out)⟩⟩
      rw [if_pos c38] at H
      have c38b0 : decide (20 < (((rd_T61 l0 x14_1).f5).length : Int)) = true := decide_eq_true c38
      have c38b1 : decide (20 < ((rd_T61 l0 x14_1).f5).length) = true := decide_eq_true (by omega)
      clear c38
      have H' := Aside0.mk H
      clear H
      try go_wp2
      have n0_ : Aside0 (((((((w7.setCell ⟨gb168, 0, none⟩ (.int .i64 ((rd_T61 l0 x14_1).f0))).setCell ⟨gb168, 1, none⟩ (.int .i64 ((rd_T61 l0 x14_1).f1))).setCell ⟨gb168, 2, none⟩ (.int .i64 ((rd_T61 l0 x14_1).f2))).setCell ⟨gb168, 3, none⟩ (.int .i64 ((rd_T61 l0 x14_1).f3))).setCell ⟨gb168, 4, none⟩ (.int .i64 ((rd_T61 l0 x14_1).f4))).setCell ⟨gb168, 5, none⟩ (.slice A167_5 ((rd_T61 l0 x14_1).f5).length c167_5)).heap[gb168]? = some (.cells #[.int .i64 ((rd_T61 l0 x14_1).f0), .int .i64 ((rd_T61 l0 x14_1).f1), .int .i64 ((rd_T61 l0 x14_1).f2), .int .i64 ((rd_T61 l0 x14_1).f3), .int .i64 ((rd_T61 l0 x14_1).f4), .slice A167_5 ((rd_T61 l0 x14_1).f5).length c167_5] 61 (0, 0))) := ⟨by (with_reducible repeat (first | refine blk_drewN ?_ _ | refine blk_drew ?_ | refine blk_alloc ?_ _)); refine blk_put (cs := #[.int .i64 ((rd_T61 l0 x14_1).f0), .int .i64 ((rd_T61 l0 x14_1).f1), .int .i64 ((rd_T61 l0 x14_1).f2), .int .i64 ((rd_T61 l0 x14_1).f3), .int .i64 ((rd_T61 l0 x14_1).f4), .slice none 0 0]) ?_ 5 _ rfl; (with_reducible repeat (first | refine blk_drewN ?_ _ | refine blk_drew ?_ | refine blk_alloc ?_ _)); refine blk_put (cs := #[.int .i64 ((rd_T61 l0 x14_1).f0), .int .i64 ((rd_T61 l0 x14_1).f1), .int .i64 ((rd_T61 l0 x14_1).f2), .int .i64 ((rd_T61 l0 x14_1).f3), .int .i64 0, .slice none 0 0]) ?_ 4 _ rfl; (with_reducible repeat (first | refine blk_drewN ?_ _ | refine blk_drew ?_ | refine blk_alloc ?_ _)); refine blk_put (cs := #[.int .i64 ((rd_T61 l0 x14_1).f0), .int .i64 ((rd_T61 l0 x14_1).f1), .int .i64 ((rd_T61 l0 x14_1).f2), .int .i64 0, .int .i64 0, .slice none 0 0]) ?_ 3 _ rfl; (with_reducible repeat (first | refine blk_drewN ?_ _ | refine blk_drew ?_ | refine blk_alloc ?_ _)); refine blk_put (cs := #[.int .i64 ((rd_T61 l0 x14_1).f0), .int .i64 ((rd_T61 l0 x14_1).f1), .int .i64 0, .int .i64 0, .int .i64 0, .slice none 0 0]) ?_ 2 _ rfl; (with_reducible repeat (first | refine blk_drewN ?_ _ | refine blk_drew ?_ | refine blk_alloc ?_ _)); refine blk_put (cs := #[.int .i64 ((rd_T61 l0 x14_1).f0), .int .i64 0, .int .i64 0, .int .i64 0, .int .i64 0, .slice none 0 0]) ?_ 1 _ rfl; (with_reducible repeat (first | refine blk_drewN ?_ _ | refine blk_drew ?_ | refine blk_alloc ?_ _)); refine blk_put (cs := #[.int .i64 0, .int .i64 0, .int .i64 0, .int .i64 0, .int .i64 0, .slice none 0 0]) ?_ 0 _ rfl; (with_reducible repeat (first | refine blk_drewN ?_ _ | refine blk_drew ?_ | refine blk_alloc ?_ _)); exact BK168.out⟩
      have n1_ : Aside0 (Below w.heap.size w ((((((w7.setCell ⟨gb168, 0, none⟩ (.int .i64 ((rd_T61 l0 x14_1).f0))).setCell ⟨gb168, 1, none⟩ (.int .i64 ((rd_T61 l0 x14_1).f1))).setCell ⟨gb168, 2, none⟩ (.int .i64 ((rd_T61 l0 x14_1).f2))).setCell ⟨gb168, 3, none⟩ (.int .i64 ((rd_T61 l0 x14_1).f3))).setCell ⟨gb168, 4, none⟩ (.int .i64 ((rd_T61 l0 x14_1).f4))).setCell ⟨gb168, 5, none⟩ (.slice A167_5 ((rd_T61 l0 x14_1).f5).length c167_5))) := ⟨by repeat (first | (with_reducible first | exact HB.out | apply below_alloc | apply pw_below_drewN | apply below_drew1 | refine below_set ?_ GE168.out) | exact HB.out)⟩
      (try clear BK168)
      (try clear HB)
      generalize ((((((w7.setCell ⟨gb168, 0, none⟩ (.int .i64 ((rd_T61 l0 x14_1).f0))).setCell ⟨gb168, 1, none⟩ (.int .i64 ((rd_T61 l0 x14_1).f1))).setCell ⟨gb168, 2, none⟩ (.int .i64 ((rd_T61 l0 x14_1).f2))).setCell ⟨gb168, 3, none⟩ (.int .i64 ((rd_T61 l0 x14_1).f3))).setCell ⟨gb168, 4, none⟩ (.int .i64 ((rd_T61 l0 x14_1).f4))).setCell ⟨gb168, 5, none⟩ (.slice A167_5 ((rd_T61 l0 x14_1).f5).length c167_5)) = w39 at n0_ n1_ ⊢
      have BK168 := n0_
      have HB := n1_
      clear n0_ n1_
      have n0_ := Aside0.mk (blk_drew BK168.out)
      have n1_ := Aside0.mk (below_drew1 HB.out)
      clear BK168
      clear HB
      have BK168 := n0_
      have HB := n1_
      clear n0_ n1_
      refine start_ (n := 49) (S := fun w' => w'.cell? ⟨gb168, 0, none⟩ = some (.int .i64 ((rd_T61 l0 x14_1).f0)) ∧ w'.cell? ⟨gb168, 1, none⟩ = some (.int .i64 ((rd_T61 l0 x14_1).f1)) ∧ w'.cell? ⟨gb168, 2, none⟩ = some (.int .i64 ((rd_T61 l0 x14_1).f2)) ∧ w'.cell? ⟨gb168, 3, none⟩ = some (.int .i64 ((rd_T61 l0 x14_1).f3)) ∧ w'.cell? ⟨gb168, 4, none⟩ = some (.int .i64 ((rd_T61 l0 x14_1).f4)) ∧ w'.cell? ⟨gb168, 5, none⟩ = some (.slice A167_5 ((rd_T61 l0 x14_1).f5).length c167_5)) (ds := []) (bv 49 0) (by kernel_rfl) rfl rfl ⟨(blk_cell BK168.out 0).trans rfl, (blk_cell BK168.out 1).trans rfl, (blk_cell BK168.out 2).trans rfl, (blk_cell BK168.out 3).trans rfl, (blk_cell BK168.out 4).trans rfl, (blk_cell BK168.out 5).trans rfl⟩ (fun hHeld => ?_); refine with_tabW impl_AreTeams.tab7 impl_AreTeams.bits7 (fun HT_ HW_ => ?_)
      generalize w39.drew = w40 at BK168 HB hHeld ⊢
      refine pv_ 49 0 22 1 rfl rfl HT_ ?_
      refine tv_ 49 1 23 3 rfl rfl HT_ HW_ hHeld (by rintro w' ⟨s0, s1, s2, s3, s4, s5⟩; go_simp; with_reducible rfl) ?_
      refine one_ (i := 2) (N := some 24) (bv 49 7) rfl rfl (one_of HT_.out (by kernel_rfl)) (by decide) (fun K hK => ?_)
      refine goes_ Try.func61 (by kernel_rfl) rfl #[.int .i64 ((rd_T61 l0 x14_1).f0), .int .i64 1, .int .i64 99] (by rfl) rfl rfl (by (try simp only [List.map_toArray, List.map_cons, List.map_nil]); first | done | rfl | (simp only [List.length_drop, List.length_take]; rfl)) ?_
      with_reducible refine (impl_InRange.calls ((rd_T61 l0 x14_1).f0) 1 99 true _ A9.out).mono ?_
      rintro e w' ⟨rfl, ⟨nd, rfl⟩⟩
      refine ⟨_, rfl, ?_⟩
      refine hK.out _ _ ⟨(blk_cell BK168.out 0).trans rfl, (blk_cell BK168.out 1).trans rfl, (blk_cell BK168.out 2).trans rfl, (blk_cell BK168.out 3).trans rfl, (blk_cell BK168.out 4).trans rfl, (blk_cell BK168.out 5).trans rfl⟩ (fun hHeld => ?_)
      clear hK K
      refine nm_ 24 ?_
      refine pv_ 49 3 25 15 rfl rfl HT_ ?_; refine pv_ 49 4 26 31 rfl rfl HT_ ?_; refine pv_ 49 5 27 63 rfl rfl HT_ ?_; refine pv_ 49 6 28 127 rfl rfl HT_ ?_; refine pv_ 49 7 29 255 rfl rfl HT_ ?_; refine pu_ 49 8 30 511 rfl rfl HT_ ?_; refine pu_ 49 9 31 1023 rfl rfl HT_ ?_; refine pu_ 49 10 32 2047 rfl rfl HT_ ?_; refine pu_ 49 11 33 4095 rfl rfl HT_ ?_; refine pu_ 49 12 34 8191 rfl rfl HT_ ?_; refine pu_ 49 13 35 16383 rfl rfl HT_ ?_; refine pu_ 49 14 36 32767 rfl rfl HT_ ?_; refine pu_ 49 15 37 65535 rfl rfl HT_ ?_; refine pu_ 49 16 38 131071 rfl rfl HT_ ?_; refine pv_ 49 17 39 262143 rfl rfl HT_ ?_; refine pv_ 49 18 40 524287 rfl rfl HT_ ?_; refine pv_ 49 19 41 1048575 rfl rfl HT_ ?_; refine pv_ 49 20 42 2097151 rfl rfl HT_ ?_
      refine tv_ 49 21 43 4194303 rfl rfl HT_ HW_ hHeld (by rintro w' ⟨s0, s1, s2, s3, s4, s5⟩; go_simp; with_reducible rfl) ?_
      refine one_ (i := 22) (N := some 44) (bv 49 8388607) rfl rfl (one_of HT_.out (by kernel_rfl)) (by decide) (fun K hK => ?_)
      refine goes_ Try.func61 (by kernel_rfl) rfl #[.int .i64 ((rd_T61 l0 x14_1).f1), .int .i64 1, .int .i64 99] (by rfl) rfl rfl (by (try simp only [List.map_toArray, List.map_cons, List.map_nil]); first | done | rfl | (simp only [List.length_drop, List.length_take]; rfl)) ?_
      with_reducible refine (impl_InRange.calls ((rd_T61 l0 x14_1).f1) 1 99 true _ A36.out).mono ?_
      rintro e w' ⟨rfl, ⟨nd, rfl⟩⟩
      refine ⟨_, rfl, ?_⟩
      refine hK.out _ _ ⟨(blk_cell BK168.out 0).trans rfl, (blk_cell BK168.out 1).trans rfl, (blk_cell BK168.out 2).trans rfl, (blk_cell BK168.out 3).trans rfl, (blk_cell BK168.out 4).trans rfl, (blk_cell BK168.out 5).trans rfl⟩ (fun hHeld => ?_)
      clear hK K
      refine nm_ 44 ?_
      refine pv_ 49 23 45 16777215 rfl rfl HT_ ?_; refine pv_ 49 24 46 33554431 rfl rfl HT_ ?_; refine pv_ 49 25 47 67108863 rfl rfl HT_ ?_; refine pv_ 49 26 48 134217727 rfl rfl HT_ ?_; refine pv_ 49 27 49 268435455 rfl rfl HT_ ?_; refine pv_ 49 28 50 536870911 rfl rfl HT_ ?_; refine pv_ 49 29 51 1073741823 rfl rfl HT_ ?_; refine pu_ 49 30 52 2147483647 rfl rfl HT_ ?_; refine pu_ 49 31 53 4294967295 rfl rfl HT_ ?_; refine pu_ 49 32 54 8589934591 rfl rfl HT_ ?_; refine pu_ 49 33 55 17179869183 rfl rfl HT_ ?_; refine pu_ 49 34 56 34359738367 rfl rfl HT_ ?_; refine pv_ 49 35 57 68719476735 rfl rfl HT_ ?_; refine pv_ 49 36 58 137438953471 rfl rfl HT_ ?_; refine pu_ 49 37 59 274877906943 rfl rfl HT_ ?_; refine pu_ 49 38 60 549755813887 rfl rfl HT_ ?_; refine pu_ 49 39 61 1099511627775 rfl rfl HT_ ?_; refine pu_ 49 40 62 2199023255551 rfl rfl HT_ ?_; refine pu_ 49 41 63 4398046511103 rfl rfl HT_ ?_
      refine pv_ 49 42 64 8796093022207 rfl rfl HT_ ?_; refine pv_ 49 43 65 17592186044415 rfl rfl HT_ ?_; refine pu_ 49 44 66 35184372088831 rfl rfl HT_ ?_; refine pu_ 49 45 67 70368744177663 rfl rfl HT_ ?_; refine pu_ 49 46 68 140737488355327 rfl rfl HT_ ?_; refine pu_ 49 47 69 281474976710655 rfl rfl HT_ ?_; refine pv_ 49 48 70 562949953421311 rfl rfl HT_ ?_
      refine done_ (done_of HT_.out (by kernel_rfl)) ?_
      try go_wp2
      go_meet
      case rel => exact ⟨_, (true), (by first | rfl | (simp; done) | (simp [*]; done)), H', ⟨by have := HK1.out; first | omega | exact Nat.le_refl _⟩, ⟨by (with_reducible repeat (first | refine blk_drewN ?_ _ | refine blk_drew ?_ | refine blk_alloc ?_ _)); exact BK168.out⟩, ⟨by repeat (first | (with_reducible first | exact HB.out | apply below_alloc | apply pw_below_drewN | apply below_drew1 | refine below_set ?_ GE168.out) | exact HB.out)⟩⟩
     rw [if_pos c11] at H
     have c11b0 : decide (0 < x14_1) = true := decide_eq_true c11
     clear c11
     (first | rw [c11b0] | (simp only [i64_w, i32_w]; rw [c11b0]) | skip)
     obtain ⟨ji12, hji12⟩ : ∃ j_ : Int, (wrap64 (x14_1 - 1)) = j_ := ⟨_, rfl⟩
     replace H : (if 0 ≤ (ji12) then (if (ji12) < (l0.length : Int) then (if ((rd_T61 l0 x14_1).f0) ≤ ((rd_T61 l0 (ji12)).f0) then (impl_AreTeams.j1 k1 l0 l0 (l0.length : Int) x14_1 true ((rd_T61 l0 x14_1).f0) ((rd_T61 l0 x14_1).f1) ((rd_T61 l0 x14_1).f2) ((rd_T61 l0 x14_1).f3) ((rd_T61 l0 x14_1).f4) ((rd_T61 l0 x14_1).f5)) else ((impl_InRange.f ((rd_T61 l0 x14_1).f1) 1 99).bind fun t171 => (if t171 = true then (if (((rd_T61 l0 x14_1).f5).length : Int) > 20 then (impl_AreTeams.j1 k1 l0 l0 (l0.length : Int) x14_1 true ((rd_T61 l0 x14_1).f0) ((rd_T61 l0 x14_1).f1) ((rd_T61 l0 x14_1).f2) ((rd_T61 l0 x14_1).f3) ((rd_T61 l0 x14_1).f4) ((rd_T61 l0 x14_1).f5)) else ((impl_InRange.f ((rd_T61 l0 x14_1).f2) 0 (((rd_T61 l0 x14_1).f5).length : Int)).bind fun t172 => (if t172 = true then ((impl_InRange.f ((rd_T61 l0 x14_1).f4) 0 (((rd_T61 l0 x14_1).f5).length : Int)).bind fun t173 => (if t173 = true then ((impl_InRange.f ((rd_T61 l0 x14_1).f3) 0 100000).bind fun t174 => (impl_AreTeams.j1 k1 l0 l0 (l0.length : Int) x14_1 (!t174) ((rd_T61 l0 x14_1).f0) ((rd_T61 l0 x14_1).f1) ((rd_T61 l0 x14_1).f2) ((rd_T61 l0 x14_1).f3) ((rd_T61 l0 x14_1).f4) ((rd_T61 l0 x14_1).f5))) else (impl_AreTeams.j1 k1 l0 l0 (l0.length : Int) x14_1 true ((rd_T61 l0 x14_1).f0) ((rd_T61 l0 x14_1).f1) ((rd_T61 l0 x14_1).f2) ((rd_T61 l0 x14_1).f3) ((rd_T61 l0 x14_1).f4) ((rd_T61 l0 x14_1).f5)))) else (impl_AreTeams.j1 k1 l0 l0 (l0.length : Int) x14_1 true ((rd_T61 l0 x14_1).f0) ((rd_T61 l0 x14_1).f1) ((rd_T61 l0 x14_1).f2) ((rd_T61 l0 x14_1).f3) ((rd_T61 l0 x14_1).f4) ((rd_T61 l0 x14_1).f5))))) else (impl_AreTeams.j1 k1 l0 l0 (l0.length : Int) x14_1 true ((rd_T61 l0 x14_1).f0) ((rd_T61 l0 x14_1).f1) ((rd_T61 l0 x14_1).f2) ((rd_T61 l0 x14_1).f3) ((rd_T61 l0 x14_1).f4) ((rd_T61 l0 x14_1).f5))))) else (none)) else (none)) = some r := by first | (rw [hji12] at H; exact H) | (simp only [hji12] at H ⊢; exact H)
     (try rw [hji12] at A9)
     have hji12w : (IntKind.i64.wrap (x14_1 - 1)) = ji12 := (i64_w _).trans hji12
     by_cases c13 : 0 ≤ (ji12)
     rotate_left
     ·
      rw [if_neg c13] at H
      exact absurd H (by simp)
     rw [if_pos c13] at H
     have c13b0 : decide (0 ≤ (ji12)) = true := decide_eq_true c13
     clear c13
     by_cases c14 : (ji12) < (l0.length : Int)
     rotate_left
     ·
      rw [if_neg c14] at H
      exact absurd H (by simp)
     rw [if_pos c14] at H
     have c14b0 : decide ((ji12) < (l0.length : Int)) = true := decide_eq_true c14
     clear c14
     by_cases c15 : ((rd_T61 l0 x14_1).f0) ≤ ((rd_T61 l0 (ji12)).f0)
     rotate_left
     ·
      rw [if_neg c15] at H
      have c15b0 : decide (((rd_T61 l0 x14_1).f0) ≤ ((rd_T61 l0 (ji12)).f0)) = false := decide_eq_false c15
      clear c15
      replace H := Option.bind_eq_some_iff.mp H
      obtain ⟨t171, A180, H⟩ := H
      replace H : (if t171 = true then (if (((rd_T61 l0 x14_1).f5).length : Int) > 20 then (impl_AreTeams.j1 k1 l0 l0 (l0.length : Int) x14_1 true ((rd_T61 l0 x14_1).f0) ((rd_T61 l0 x14_1).f1) ((rd_T61 l0 x14_1).f2) ((rd_T61 l0 x14_1).f3) ((rd_T61 l0 x14_1).f4) ((rd_T61 l0 x14_1).f5)) else ((impl_InRange.f ((rd_T61 l0 x14_1).f2) 0 (((rd_T61 l0 x14_1).f5).length : Int)).bind fun t172 => (if t172 = true then ((impl_InRange.f ((rd_T61 l0 x14_1).f4) 0 (((rd_T61 l0 x14_1).f5).length : Int)).bind fun t173 => (if t173 = true then ((impl_InRange.f ((rd_T61 l0 x14_1).f3) 0 100000).bind fun t174 => (impl_AreTeams.j1 k1 l0 l0 (l0.length : Int) x14_1 (!t174) ((rd_T61 l0 x14_1).f0) ((rd_T61 l0 x14_1).f1) ((rd_T61 l0 x14_1).f2) ((rd_T61 l0 x14_1).f3) ((rd_T61 l0 x14_1).f4) ((rd_T61 l0 x14_1).f5))) else (impl_AreTeams.j1 k1 l0 l0 (l0.length : Int) x14_1 true ((rd_T61 l0 x14_1).f0) ((rd_T61 l0 x14_1).f1) ((rd_T61 l0 x14_1).f2) ((rd_T61 l0 x14_1).f3) ((rd_T61 l0 x14_1).f4) ((rd_T61 l0 x14_1).f5)))) else (impl_AreTeams.j1 k1 l0 l0 (l0.length : Int) x14_1 true ((rd_T61 l0 x14_1).f0) ((rd_T61 l0 x14_1).f1) ((rd_T61 l0 x14_1).f2) ((rd_T61 l0 x14_1).f3) ((rd_T61 l0 x14_1).f4) ((rd_T61 l0 x14_1).f5))))) else (impl_AreTeams.j1 k1 l0 l0 (l0.length : Int) x14_1 true ((rd_T61 l0 x14_1).f0) ((rd_T61 l0 x14_1).f1) ((rd_T61 l0 x14_1).f2) ((rd_T61 l0 x14_1).f3) ((rd_T61 l0 x14_1).f4) ((rd_T61 l0 x14_1).f5))) = some r := H
      have A18 := Aside0.mk A180
      clear A180
      by_cases c19 : t171 = true
      rotate_left
      ·
       replace c19 := Bool.eq_false_iff.mpr c19
       subst c19
       have H1 : (impl_AreTeams.j1 k1 l0 l0 (l0.length : Int) x14_1 true ((rd_T61 l0 x14_1).f0) ((rd_T61 l0 x14_1).f1) ((rd_T61 l0 x14_1).f2) ((rd_T61 l0 x14_1).f3) ((rd_T61 l0 x14_1).f4) ((rd_T61 l0 x14_1).f5)) = some r := by rw [if_neg (show ¬ (false = true) by decide)] at H; exact H
       clear H
       have H := H1
       clear H1
       have H' := Aside0.mk H
       clear H
       try go_wp2
       have n0_ : Aside0 (((((((w7.setCell ⟨gb168, 0, none⟩ (.int .i64 ((rd_T61 l0 x14_1).f0))).setCell ⟨gb168, 1, none⟩ (.int .i64 ((rd_T61 l0 x14_1).f1))).setCell ⟨gb168, 2, none⟩ (.int .i64 ((rd_T61 l0 x14_1).f2))).setCell ⟨gb168, 3, none⟩ (.int .i64 ((rd_T61 l0 x14_1).f3))).setCell ⟨gb168, 4, none⟩ (.int .i64 ((rd_T61 l0 x14_1).f4))).setCell ⟨gb168, 5, none⟩ (.slice A167_5 ((rd_T61 l0 x14_1).f5).length c167_5)).heap[gb168]? = some (.cells #[.int .i64 ((rd_T61 l0 x14_1).f0), .int .i64 ((rd_T61 l0 x14_1).f1), .int .i64 ((rd_T61 l0 x14_1).f2), .int .i64 ((rd_T61 l0 x14_1).f3), .int .i64 ((rd_T61 l0 x14_1).f4), .slice A167_5 ((rd_T61 l0 x14_1).f5).length c167_5] 61 (0, 0))) := ⟨by (with_reducible repeat (first | refine blk_drewN ?_ _ | refine blk_drew ?_ | refine blk_alloc ?_ _)); refine blk_put (cs := #[.int .i64 ((rd_T61 l0 x14_1).f0), .int .i64 ((rd_T61 l0 x14_1).f1), .int .i64 ((rd_T61 l0 x14_1).f2), .int .i64 ((rd_T61 l0 x14_1).f3), .int .i64 ((rd_T61 l0 x14_1).f4), .slice none 0 0]) ?_ 5 _ rfl; (with_reducible repeat (first | refine blk_drewN ?_ _ | refine blk_drew ?_ | refine blk_alloc ?_ _)); refine blk_put (cs := #[.int .i64 ((rd_T61 l0 x14_1).f0), .int .i64 ((rd_T61 l0 x14_1).f1), .int .i64 ((rd_T61 l0 x14_1).f2), .int .i64 ((rd_T61 l0 x14_1).f3), .int .i64 0, .slice none 0 0]) ?_ 4 _ rfl; (with_reducible repeat (first | refine blk_drewN ?_ _ | refine blk_drew ?_ | refine blk_alloc ?_ _)); refine blk_put (cs := #[.int .i64 ((rd_T61 l0 x14_1).f0), .int .i64 ((rd_T61 l0 x14_1).f1), .int .i64 ((rd_T61 l0 x14_1).f2), .int .i64 0, .int .i64 0, .slice none 0 0]) ?_ 3 _ rfl; (with_reducible repeat (first | refine blk_drewN ?_ _ | refine blk_drew ?_ | refine blk_alloc ?_ _)); refine blk_put (cs := #[.int .i64 ((rd_T61 l0 x14_1).f0), .int .i64 ((rd_T61 l0 x14_1).f1), .int .i64 0, .int .i64 0, .int .i64 0, .slice none 0 0]) ?_ 2 _ rfl; (with_reducible repeat (first | refine blk_drewN ?_ _ | refine blk_drew ?_ | refine blk_alloc ?_ _)); refine blk_put (cs := #[.int .i64 ((rd_T61 l0 x14_1).f0), .int .i64 0, .int .i64 0, .int .i64 0, .int .i64 0, .slice none 0 0]) ?_ 1 _ rfl; (with_reducible repeat (first | refine blk_drewN ?_ _ | refine blk_drew ?_ | refine blk_alloc ?_ _)); refine blk_put (cs := #[.int .i64 0, .int .i64 0, .int .i64 0, .int .i64 0, .int .i64 0, .slice none 0 0]) ?_ 0 _ rfl; (with_reducible repeat (first | refine blk_drewN ?_ _ | refine blk_drew ?_ | refine blk_alloc ?_ _)); exact BK168.out⟩
       have n1_ : Aside0 (Below w.heap.size w ((((((w7.setCell ⟨gb168, 0, none⟩ (.int .i64 ((rd_T61 l0 x14_1).f0))).setCell ⟨gb168, 1, none⟩ (.int .i64 ((rd_T61 l0 x14_1).f1))).setCell ⟨gb168, 2, none⟩ (.int .i64 ((rd_T61 l0 x14_1).f2))).setCell ⟨gb168, 3, none⟩ (.int .i64 ((rd_T61 l0 x14_1).f3))).setCell ⟨gb168, 4, none⟩ (.int .i64 ((rd_T61 l0 x14_1).f4))).setCell ⟨gb168, 5, none⟩ (.slice A167_5 ((rd_T61 l0 x14_1).f5).length c167_5))) := ⟨by repeat (first | (with_reducible first | exact HB.out | apply below_alloc | apply pw_below_drewN | apply below_drew1 | refine below_set ?_ GE168.out) | exact HB.out)⟩
       (try clear BK168)
       (try clear HB)
       generalize ((((((w7.setCell ⟨gb168, 0, none⟩ (.int .i64 ((rd_T61 l0 x14_1).f0))).setCell ⟨gb168, 1, none⟩ (.int .i64 ((rd_T61 l0 x14_1).f1))).setCell ⟨gb168, 2, none⟩ (.int .i64 ((rd_T61 l0 x14_1).f2))).setCell ⟨gb168, 3, none⟩ (.int .i64 ((rd_T61 l0 x14_1).f3))).setCell ⟨gb168, 4, none⟩ (.int .i64 ((rd_T61 l0 x14_1).f4))).setCell ⟨gb168, 5, none⟩ (.slice A167_5 ((rd_T61 l0 x14_1).f5).length c167_5)) = w34 at n0_ n1_ ⊢
       have BK168 := n0_
       have HB := n1_
       clear n0_ n1_
       have n0_ := Aside0.mk (blk_drew BK168.out)
       have n1_ := Aside0.mk (below_drew1 HB.out)
       clear BK168
       clear HB
       have BK168 := n0_
       have HB := n1_
       clear n0_ n1_
       have p170 : 0 ≤ ((ji12) : Int) := of_decide_eq_true (by first | (with_reducible assumption) | assumption)
       have q170 : (ji12) < (l0.length : Int) := of_decide_eq_true (by first | (with_reducible assumption) | assumption)
       obtain ⟨ad170, A170_5, c170_5, e170, hx170_0, hx170_1, hx170_2, hx170_3, hx170_4, hx170_5, hl170_5, hi170_5⟩ := at_T61 HR0.out (ji12) p170 q170
       have hw170_5 := hx170_5
       have hw170_4 := hx170_4
       have hw170_3 := hx170_3
       have hw170_2 := hx170_2
       have hw170_1 := hx170_1
       have hw170_0 := hx170_0
       obtain rfl : ad167 = ad170 := (by injection e170)
       replace hx170_0 := (HB.out.cell (World.block_lt_of_cell? w _ hx170_0)).trans hx170_0
       replace hx170_1 := (HB.out.cell (World.block_lt_of_cell? w _ hx170_1)).trans hx170_1
       replace hx170_2 := (HB.out.cell (World.block_lt_of_cell? w _ hx170_2)).trans hx170_2
       replace hx170_3 := (HB.out.cell (World.block_lt_of_cell? w _ hx170_3)).trans hx170_3
       replace hx170_4 := (HB.out.cell (World.block_lt_of_cell? w _ hx170_4)).trans hx170_4
       replace hx170_5 := (HB.out.cell (World.block_lt_of_cell? w _ hx170_5)).trans hx170_5
       have HR170_5 := Aside0.mk hi170_5
       have HC170_5 := Aside0.mk hl170_5
       clear hi170_5 hl170_5
       replace p170 := eq_true p170
       replace q170 := eq_true q170
       refine start_ (n := 49) (S := fun w' => w'.cell? ⟨gb168, 0, none⟩ = some (.int .i64 ((rd_T61 l0 x14_1).f0)) ∧ w'.cell? ⟨gb168, 1, none⟩ = some (.int .i64 ((rd_T61 l0 x14_1).f1)) ∧ w'.cell? ⟨gb168, 2, none⟩ = some (.int .i64 ((rd_T61 l0 x14_1).f2)) ∧ w'.cell? ⟨gb168, 3, none⟩ = some (.int .i64 ((rd_T61 l0 x14_1).f3)) ∧ w'.cell? ⟨gb168, 4, none⟩ = some (.int .i64 ((rd_T61 l0 x14_1).f4)) ∧ w'.cell? ⟨gb168, 5, none⟩ = some (.slice A167_5 ((rd_T61 l0 x14_1).f5).length c167_5) ∧ w'.cell? (ad167.add (((ji12)).toNat * 6)) = some (.int .i64 ((rd_T61 l0 (ji12)).f0)) ∧ w'.cell? ⟨(ad167.add (((ji12)).toNat * 6)).block, (ad167.add (((ji12)).toNat * 6)).off + 1, none⟩ = some (.int .i64 ((rd_T61 l0 (ji12)).f1)) ∧ w'.cell? ⟨(ad167.add (((ji12)).toNat * 6)).block, (ad167.add (((ji12)).toNat * 6)).off + 2, none⟩ = some (.int .i64 ((rd_T61 l0 (ji12)).f2)) ∧ w'.cell? ⟨(ad167.add (((ji12)).toNat * 6)).block, (ad167.add (((ji12)).toNat * 6)).off + 3, none⟩ = some (.int .i64 ((rd_T61 l0 (ji12)).f3)) ∧ w'.cell? ⟨(ad167.add (((ji12)).toNat * 6)).block, (ad167.add (((ji12)).toNat * 6)).off + 4, none⟩ = some (.int .i64 ((rd_T61 l0 (ji12)).f4)) ∧ w'.cell? ⟨(ad167.add (((ji12)).toNat * 6)).block, (ad167.add (((ji12)).toNat * 6)).off + 5, none⟩ = some (.slice A170_5 ((rd_T61 l0 (ji12)).f5).length c170_5)) (ds := []) (bv 49 0) (by kernel_rfl) rfl rfl ⟨(blk_cell BK168.out 0).trans rfl, (blk_cell BK168.out 1).trans rfl, (blk_cell BK168.out 2).trans rfl, (blk_cell BK168.out 3).trans rfl, (blk_cell BK168.out 4).trans rfl, (blk_cell BK168.out 5).trans rfl, ((HB.out.cell (World.block_lt_of_cell? w _ hw170_0)).trans hw170_0), ((HB.out.cell (World.block_lt_of_cell? w _ hw170_1)).trans hw170_1), ((HB.out.cell (World.block_lt_of_cell? w _ hw170_2)).trans hw170_2), ((HB.out.cell (World.block_lt_of_cell? w _ hw170_3)).trans hw170_3), ((HB.out.cell (World.block_lt_of_cell? w _ hw170_4)).trans hw170_4), ((HB.out.cell (World.block_lt_of_cell? w _ hw170_5)).trans hw170_5)⟩ (fun hHeld => ?_); refine with_tabW impl_AreTeams.tab7 impl_AreTeams.bits7 (fun HT_ HW_ => ?_)
       generalize w34.drew = w35 at BK168 HB HR170_5 hx170_0 hx170_1 hx170_2 hx170_3 hx170_4 hx170_5 hHeld ⊢
       refine pv_ 49 0 22 1 rfl rfl HT_ ?_
       refine tv_ 49 1 23 3 rfl rfl HT_ HW_ hHeld (by rintro w' ⟨s0, s1, s2, s3, s4, s5, s6, s7, s8, s9, s10, s11⟩; go_simp; with_reducible rfl) ?_
       refine one_ (i := 2) (N := some 24) (bv 49 7) rfl rfl (one_of HT_.out (by kernel_rfl)) (by decide) (fun K hK => ?_)
       refine goes_ Try.func61 (by kernel_rfl) rfl #[.int .i64 ((rd_T61 l0 x14_1).f0), .int .i64 1, .int .i64 99] (by rfl) rfl rfl (by (try simp only [List.map_toArray, List.map_cons, List.map_nil]); first | done | rfl | (simp only [List.length_drop, List.length_take]; rfl)) ?_
       with_reducible refine (impl_InRange.calls ((rd_T61 l0 x14_1).f0) 1 99 true _ A9.out).mono ?_
       rintro e w' ⟨rfl, ⟨nd, rfl⟩⟩
       refine ⟨_, rfl, ?_⟩
       refine hK.out _ _ ⟨(blk_cell BK168.out 0).trans rfl, (blk_cell BK168.out 1).trans rfl, (blk_cell BK168.out 2).trans rfl, (blk_cell BK168.out 3).trans rfl, (blk_cell BK168.out 4).trans rfl, (blk_cell BK168.out 5).trans rfl, ((HB.out.cell (World.block_lt_of_cell? w _ hw170_0)).trans hw170_0), ((HB.out.cell (World.block_lt_of_cell? w _ hw170_1)).trans hw170_1), ((HB.out.cell (World.block_lt_of_cell? w _ hw170_2)).trans hw170_2), ((HB.out.cell (World.block_lt_of_cell? w _ hw170_3)).trans hw170_3), ((HB.out.cell (World.block_lt_of_cell? w _ hw170_4)).trans hw170_4), ((HB.out.cell (World.block_lt_of_cell? w _ hw170_5)).trans hw170_5)⟩ (fun hHeld => ?_)
       clear hK K
       refine nm_ 24 ?_
       refine pv_ 49 3 25 15 rfl rfl HT_ ?_; refine pv_ 49 4 26 31 rfl rfl HT_ ?_; refine pv_ 49 5 27 63 rfl rfl HT_ ?_; refine pv_ 49 6 28 127 rfl rfl HT_ ?_; refine pv_ 49 7 29 255 rfl rfl HT_ ?_; refine pv_ 49 8 30 511 rfl rfl HT_ ?_; refine pv_ 49 10 32 1535 rfl rfl HT_ ?_; refine pv_ 49 11 33 3583 rfl rfl HT_ ?_; refine pv_ 49 12 34 7679 rfl rfl HT_ ?_; refine pv_ 49 13 35 15871 rfl rfl HT_ ?_; refine pv_ 49 14 36 32255 rfl rfl HT_ ?_
       refine tv_ 49 9 31 32767 rfl rfl HT_ HW_ hHeld (by rintro w' ⟨s0, s1, s2, s3, s4, s5, s6, s7, s8, s9, s10, s11⟩; go_simp; with_reducible rfl) ?_
       refine tv_ 49 15 37 65535 rfl rfl HT_ HW_ hHeld (by rintro w' ⟨s0, s1, s2, s3, s4, s5, s6, s7, s8, s9, s10, s11⟩; go_simp; with_reducible rfl) ?_
       refine pv_ 49 16 38 131071 rfl rfl HT_ ?_; refine pv_ 49 17 39 262143 rfl rfl HT_ ?_; refine pv_ 49 18 40 524287 rfl rfl HT_ ?_; refine pv_ 49 19 41 1048575 rfl rfl HT_ ?_; refine pv_ 49 20 42 2097151 rfl rfl HT_ ?_
       refine tv_ 49 21 43 4194303 rfl rfl HT_ HW_ hHeld (by rintro w' ⟨s0, s1, s2, s3, s4, s5, s6, s7, s8, s9, s10, s11⟩; go_simp; with_reducible rfl) ?_
       refine one_ (i := 22) (N := some 44) (bv 49 8388607) rfl rfl (one_of HT_.out (by kernel_rfl)) (by decide) (fun K hK => ?_)
       refine goes_ Try.func61 (by kernel_rfl) rfl #[.int .i64 ((rd_T61 l0 x14_1).f1), .int .i64 1, .int .i64 99] (by rfl) rfl rfl (by (try simp only [List.map_toArray, List.map_cons, List.map_nil]); first | done | rfl | (simp only [List.length_drop, List.length_take]; rfl)) ?_
       with_reducible refine (impl_InRange.calls ((rd_T61 l0 x14_1).f1) 1 99 false _ A18.out).mono ?_
       rintro e w' ⟨rfl, ⟨nd, rfl⟩⟩
       refine ⟨_, rfl, ?_⟩
       refine hK.out _ _ ⟨(blk_cell BK168.out 0).trans rfl, (blk_cell BK168.out 1).trans rfl, (blk_cell BK168.out 2).trans rfl, (blk_cell BK168.out 3).trans rfl, (blk_cell BK168.out 4).trans rfl, (blk_cell BK168.out 5).trans rfl, ((HB.out.cell (World.block_lt_of_cell? w _ hw170_0)).trans hw170_0), ((HB.out.cell (World.block_lt_of_cell? w _ hw170_1)).trans hw170_1), ((HB.out.cell (World.block_lt_of_cell? w _ hw170_2)).trans hw170_2), ((HB.out.cell (World.block_lt_of_cell? w _ hw170_3)).trans hw170_3), ((HB.out.cell (World.block_lt_of_cell? w _ hw170_4)).trans hw170_4), ((HB.out.cell (World.block_lt_of_cell? w _ hw170_5)).trans hw170_5)⟩ (fun hHeld => ?_)
       clear hK K
       refine nm_ 44 ?_
       refine pv_ 49 23 45 16777215 rfl rfl HT_ ?_; refine pv_ 49 24 46 33554431 rfl rfl HT_ ?_; refine pv_ 49 25 47 67108863 rfl rfl HT_ ?_; refine pu_ 49 26 48 134217727 rfl rfl HT_ ?_; refine pu_ 49 27 49 268435455 rfl rfl HT_ ?_; refine pv_ 49 28 50 536870911 rfl rfl HT_ ?_; refine pv_ 49 29 51 1073741823 rfl rfl HT_ ?_; refine pu_ 49 30 52 2147483647 rfl rfl HT_ ?_; refine pu_ 49 31 53 4294967295 rfl rfl HT_ ?_; refine pu_ 49 32 54 8589934591 rfl rfl HT_ ?_; refine pu_ 49 33 55 17179869183 rfl rfl HT_ ?_; refine pu_ 49 34 56 34359738367 rfl rfl HT_ ?_; refine pv_ 49 35 57 68719476735 rfl rfl HT_ ?_; refine pv_ 49 36 58 137438953471 rfl rfl HT_ ?_; refine pu_ 49 37 59 274877906943 rfl rfl HT_ ?_; refine pu_ 49 38 60 549755813887 rfl rfl HT_ ?_; refine pu_ 49 39 61 1099511627775 rfl rfl HT_ ?_; refine pu_ 49 40 62 2199023255551 rfl rfl HT_ ?_; refine pu_ 49 41 63 4398046511103 rfl rfl HT_ ?_
       refine pv_ 49 42 64 8796093022207 rfl rfl HT_ ?_; refine pv_ 49 43 65 17592186044415 rfl rfl HT_ ?_; refine pu_ 49 44 66 35184372088831 rfl rfl HT_ ?_; refine pu_ 49 45 67 70368744177663 rfl rfl HT_ ?_; refine pu_ 49 46 68 140737488355327 rfl rfl HT_ ?_; refine pu_ 49 47 69 281474976710655 rfl rfl HT_ ?_; refine pv_ 49 48 70 562949953421311 rfl rfl HT_ ?_
       refine done_ (done_of HT_.out (by kernel_rfl)) ?_
       try go_wp2
       go_meet
       case rel => exact ⟨_, (true), (by first | rfl | (simp; done) | (simp [*]; done)), H', ⟨by have := HK1.out; first | omega | exact Nat.le_refl _⟩, ⟨by (with_reducible repeat (first | refine blk_drewN ?_ _ | refine blk_drew ?_ | refine blk_alloc ?_ _)); exact BK168.out⟩, ⟨by repeat (first | (with_reducible first | exact HB.out | apply below_alloc | apply pw_below_drewN | apply below_drew1 | refine below_set ?_ GE168.out) | exact HB.out)⟩⟩
      subst c19
      have H1 : (if (((rd_T61 l0 x14_1).f5).length : Int) > 20 then (impl_AreTeams.j1 k1 l0 l0 (l0.length : Int) x14_1 true ((rd_T61 l0 x14_1).f0) ((rd_T61 l0 x14_1).f1) ((rd_T61 l0 x14_1).f2) ((rd_T61 l0 x14_1).f3) ((rd_T61 l0 x14_1).f4) ((rd_T61 l0 x14_1).f5)) else ((impl_InRange.f ((rd_T61 l0 x14_1).f2) 0 (((rd_T61 l0 x14_1).f5).length : Int)).bind fun t172 => (if t172 = true then ((impl_InRange.f ((rd_T61 l0 x14_1).f4) 0 (((rd_T61 l0 x14_1).f5).length : Int)).bind fun t173 => (if t173 = true then ((impl_InRange.f ((rd_T61 l0 x14_1).f3) 0 100000).bind fun t174 => (impl_AreTeams.j1 k1 l0 l0 (l0.length : Int) x14_1 (!t174) ((rd_T61 l0 x14_1).f0) ((rd_T61 l0 x14_1).f1) ((rd_T61 l0 x14_1).f2) ((rd_T61 l0 x14_1).f3) ((rd_T61 l0 x14_1).f4) ((rd_T61 l0 x14_1).f5))) else (impl_AreTeams.j1 k1 l0 l0 (l0.length : Int) x14_1 true ((rd_T61 l0 x14_1).f0) ((rd_T61 l0 x14_1).f1) ((rd_T61 l0 x14_1).f2) ((rd_T61 l0 x14_1).f3) ((rd_T61 l0 x14_1).f4) ((rd_T61 l0 x14_1).f5)))) else (impl_AreTeams.j1 k1 l0 l0 (l0.length : Int) x14_1 true ((rd_T61 l0 x14_1).f0) ((rd_T61 l0 x14_1).f1) ((rd_T61 l0 x14_1).f2) ((rd_T61 l0 x14_1).f3) ((rd_T61 l0 x14_1).f4) ((rd_T61 l0 x14_1).f5))))) = some r := by rw [if_pos rfl] at H; exact H
      clear H
      have H := H1
      clear H1
      by_cases c20 : (((rd_T61 l0 x14_1).f5).length : Int) > 20
      rotate_left
      ·
       rw [if_neg c20] at H
       have c20b0 : decide (20 < (((rd_T61 l0 x14_1).f5).length : Int)) = false := decide_eq_false c20
       have c20b1 : decide (20 < ((rd_T61 l0 x14_1).f5).length) = false := decide_eq_false (by omega)
       clear c20
       replace H := Option.bind_eq_some_iff.mp H
       obtain ⟨t172, A230, H⟩ := H
       replace H : (if t172 = true then ((impl_InRange.f ((rd_T61 l0 x14_1).f4) 0 (((rd_T61 l0 x14_1).f5).length : Int)).bind fun t173 => (if t173 = true then ((impl_InRange.f ((rd_T61 l0 x14_1).f3) 0 100000).bind fun t174 => (impl_AreTeams.j1 k1 l0 l0 (l0.length : Int) x14_1 (!t174) ((rd_T61 l0 x14_1).f0) ((rd_T61 l0 x14_1).f1) ((rd_T61 l0 x14_1).f2) ((rd_T61 l0 x14_1).f3) ((rd_T61 l0 x14_1).f4) ((rd_T61 l0 x14_1).f5))) else (impl_AreTeams.j1 k1 l0 l0 (l0.length : Int) x14_1 true ((rd_T61 l0 x14_1).f0) ((rd_T61 l0 x14_1).f1) ((rd_T61 l0 x14_1).f2) ((rd_T61 l0 x14_1).f3) ((rd_T61 l0 x14_1).f4) ((rd_T61 l0 x14_1).f5)))) else (impl_AreTeams.j1 k1 l0 l0 (l0.length : Int) x14_1 true ((rd_T61 l0 x14_1).f0) ((rd_T61 l0 x14_1).f1) ((rd_T61 l0 x14_1).f2) ((rd_T61 l0 x14_1).f3) ((rd_T61 l0 x14_1).f4) ((rd_T61 l0 x14_1).f5))) = some r := H
       have A23 := Aside0.mk A230
       clear A230
       by_cases c24 : t172 = true
       rotate_left
       ·
        replace c24 := Bool.eq_false_iff.mpr c24
        subst c24
        have H1 : (impl_AreTeams.j1 k1 l0 l0 (l0.length : Int) x14_1 true ((rd_T61 l0 x14_1).f0) ((rd_T61 l0 x14_1).f1) ((rd_T61 l0 x14_1).f2) ((rd_T61 l0 x14_1).f3) ((rd_T61 l0 x14_1).f4) ((rd_T61 l0 x14_1).f5)) = some r := by rw [if_neg (show ¬ (false = true) by decide)] at H; exact H
        clear H
        have H := H1
        clear H1
        have H' := Aside0.mk H
        clear H
        try go_wp2
        have n0_ : Aside0 (((((((w7.setCell ⟨gb168, 0, none⟩ (.int .i64 ((rd_T61 l0 x14_1).f0))).setCell ⟨gb168, 1, none⟩ (.int .i64 ((rd_T61 l0 x14_1).f1))).setCell ⟨gb168, 2, none⟩ (.int .i64 ((rd_T61 l0 x14_1).f2))).setCell ⟨gb168, 3, none⟩ (.int .i64 ((rd_T61 l0 x14_1).f3))).setCell ⟨gb168, 4, none⟩ (.int .i64 ((rd_T61 l0 x14_1).f4))).setCell ⟨gb168, 5, none⟩ (.slice A167_5 ((rd_T61 l0 x14_1).f5).length c167_5)).heap[gb168]? = some (.cells #[.int .i64 ((rd_T61 l0 x14_1).f0), .int .i64 ((rd_T61 l0 x14_1).f1), .int .i64 ((rd_T61 l0 x14_1).f2), .int .i64 ((rd_T61 l0 x14_1).f3), .int .i64 ((rd_T61 l0 x14_1).f4), .slice A167_5 ((rd_T61 l0 x14_1).f5).length c167_5] 61 (0, 0))) := ⟨by (with_reducible repeat (first | refine blk_drewN ?_ _ | refine blk_drew ?_ | refine blk_alloc ?_ _)); refine blk_put (cs := #[.int .i64 ((rd_T61 l0 x14_1).f0), .int .i64 ((rd_T61 l0 x14_1).f1), .int .i64 ((rd_T61 l0 x14_1).f2), .int .i64 ((rd_T61 l0 x14_1).f3), .int .i64 ((rd_T61 l0 x14_1).f4), .slice none 0 0]) ?_ 5 _ rfl; (with_reducible repeat (first | refine blk_drewN ?_ _ | refine blk_drew ?_ | refine blk_alloc ?_ _)); refine blk_put (cs := #[.int .i64 ((rd_T61 l0 x14_1).f0), .int .i64 ((rd_T61 l0 x14_1).f1), .int .i64 ((rd_T61 l0 x14_1).f2), .int .i64 ((rd_T61 l0 x14_1).f3), .int .i64 0, .slice none 0 0]) ?_ 4 _ rfl; (with_reducible repeat (first | refine blk_drewN ?_ _ | refine blk_drew ?_ | refine blk_alloc ?_ _)); refine blk_put (cs := #[.int .i64 ((rd_T61 l0 x14_1).f0), .int .i64 ((rd_T61 l0 x14_1).f1), .int .i64 ((rd_T61 l0 x14_1).f2), .int .i64 0, .int .i64 0, .slice none 0 0]) ?_ 3 _ rfl; (with_reducible repeat (first | refine blk_drewN ?_ _ | refine blk_drew ?_ | refine blk_alloc ?_ _)); refine blk_put (cs := #[.int .i64 ((rd_T61 l0 x14_1).f0), .int .i64 ((rd_T61 l0 x14_1).f1), .int .i64 0, .int .i64 0, .int .i64 0, .slice none 0 0]) ?_ 2 _ rfl; (with_reducible repeat (first | refine blk_drewN ?_ _ | refine blk_drew ?_ | refine blk_alloc ?_ _)); refine blk_put (cs := #[.int .i64 ((rd_T61 l0 x14_1).f0), .int .i64 0, .int .i64 0, .int .i64 0, .int .i64 0, .slice none 0 0]) ?_ 1 _ rfl; (with_reducible repeat (first | refine blk_drewN ?_ _ | refine blk_drew ?_ | refine blk_alloc ?_ _)); refine blk_put (cs := #[.int .i64 0, .int .i64 0, .int .i64 0, .int .i64 0, .int .i64 0, .slice none 0 0]) ?_ 0 _ rfl; (with_reducible repeat (first | refine blk_drewN ?_ _ | refine blk_drew ?_ | refine blk_alloc ?_ _)); exact BK168.out⟩
        have n1_ : Aside0 (Below w.heap.size w ((((((w7.setCell ⟨gb168, 0, none⟩ (.int .i64 ((rd_T61 l0 x14_1).f0))).setCell ⟨gb168, 1, none⟩ (.int .i64 ((rd_T61 l0 x14_1).f1))).setCell ⟨gb168, 2, none⟩ (.int .i64 ((rd_T61 l0 x14_1).f2))).setCell ⟨gb168, 3, none⟩ (.int .i64 ((rd_T61 l0 x14_1).f3))).setCell ⟨gb168, 4, none⟩ (.int .i64 ((rd_T61 l0 x14_1).f4))).setCell ⟨gb168, 5, none⟩ (.slice A167_5 ((rd_T61 l0 x14_1).f5).length c167_5))) := ⟨by repeat (first | (with_reducible first | exact HB.out | apply below_alloc | apply pw_below_drewN | apply below_drew1 | refine below_set ?_ GE168.out) | exact HB.out)⟩
        (try clear BK168)
        (try clear HB)
        generalize ((((((w7.setCell ⟨gb168, 0, none⟩ (.int .i64 ((rd_T61 l0 x14_1).f0))).setCell ⟨gb168, 1, none⟩ (.int .i64 ((rd_T61 l0 x14_1).f1))).setCell ⟨gb168, 2, none⟩ (.int .i64 ((rd_T61 l0 x14_1).f2))).setCell ⟨gb168, 3, none⟩ (.int .i64 ((rd_T61 l0 x14_1).f3))).setCell ⟨gb168, 4, none⟩ (.int .i64 ((rd_T61 l0 x14_1).f4))).setCell ⟨gb168, 5, none⟩ (.slice A167_5 ((rd_T61 l0 x14_1).f5).length c167_5)) = w32 at n0_ n1_ ⊢
        have BK168 := n0_
        have HB := n1_
        clear n0_ n1_
        have n0_ := Aside0.mk (blk_drew BK168.out)
        have n1_ := Aside0.mk (below_drew1 HB.out)
        clear BK168
        clear HB
        have BK168 := n0_
        have HB := n1_
        clear n0_ n1_
        have p170 : 0 ≤ ((ji12) : Int) := of_decide_eq_true (by first | (with_reducible assumption) | assumption)
        have q170 : (ji12) < (l0.length : Int) := of_decide_eq_true (by first | (with_reducible assumption) | assumption)
        obtain ⟨ad170, A170_5, c170_5, e170, hx170_0, hx170_1, hx170_2, hx170_3, hx170_4, hx170_5, hl170_5, hi170_5⟩ := at_T61 HR0.out (ji12) p170 q170
        have hw170_5 := hx170_5
        have hw170_4 := hx170_4
        have hw170_3 := hx170_3
        have hw170_2 := hx170_2
        have hw170_1 := hx170_1
        have hw170_0 := hx170_0
        obtain rfl : ad167 = ad170 := (by injection e170)
        replace hx170_0 := (HB.out.cell (World.block_lt_of_cell? w _ hx170_0)).trans hx170_0
        replace hx170_1 := (HB.out.cell (World.block_lt_of_cell? w _ hx170_1)).trans hx170_1
        replace hx170_2 := (HB.out.cell (World.block_lt_of_cell? w _ hx170_2)).trans hx170_2
        replace hx170_3 := (HB.out.cell (World.block_lt_of_cell? w _ hx170_3)).trans hx170_3
        replace hx170_4 := (HB.out.cell (World.block_lt_of_cell? w _ hx170_4)).trans hx170_4
        replace hx170_5 := (HB.out.cell (World.block_lt_of_cell? w _ hx170_5)).trans hx170_5
        have HR170_5 := Aside0.mk hi170_5
        have HC170_5 := Aside0.mk hl170_5
        clear hi170_5 hl170_5
        replace p170 := eq_true p170
        replace q170 := eq_true q170
        refine start_ (n := 49) (S := fun w' => w'.cell? ⟨gb168, 0, none⟩ = some (.int .i64 ((rd_T61 l0 x14_1).f0)) ∧ w'.cell? ⟨gb168, 1, none⟩ = some (.int .i64 ((rd_T61 l0 x14_1).f1)) ∧ w'.cell? ⟨gb168, 2, none⟩ = some (.int .i64 ((rd_T61 l0 x14_1).f2)) ∧ w'.cell? ⟨gb168, 3, none⟩ = some (.int .i64 ((rd_T61 l0 x14_1).f3)) ∧ w'.cell? ⟨gb168, 4, none⟩ = some (.int .i64 ((rd_T61 l0 x14_1).f4)) ∧ w'.cell? ⟨gb168, 5, none⟩ = some (.slice A167_5 ((rd_T61 l0 x14_1).f5).length c167_5) ∧ w'.cell? (ad167.add (((ji12)).toNat * 6)) = some (.int .i64 ((rd_T61 l0 (ji12)).f0)) ∧ w'.cell? ⟨(ad167.add (((ji12)).toNat * 6)).block, (ad167.add (((ji12)).toNat * 6)).off + 1, none⟩ = some (.int .i64 ((rd_T61 l0 (ji12)).f1)) ∧ w'.cell? ⟨(ad167.add (((ji12)).toNat * 6)).block, (ad167.add (((ji12)).toNat * 6)).off + 2, none⟩ = some (.int .i64 ((rd_T61 l0 (ji12)).f2)) ∧ w'.cell? ⟨(ad167.add (((ji12)).toNat * 6)).block, (ad167.add (((ji12)).toNat * 6)).off + 3, none⟩ = some (.int .i64 ((rd_T61 l0 (ji12)).f3)) ∧ w'.cell? ⟨(ad167.add (((ji12)).toNat * 6)).block, (ad167.add (((ji12)).toNat * 6)).off + 4, none⟩ = some (.int .i64 ((rd_T61 l0 (ji12)).f4)) ∧ w'.cell? ⟨(ad167.add (((ji12)).toNat * 6)).block, (ad167.add (((ji12)).toNat * 6)).off + 5, none⟩ = some (.slice A170_5 ((rd_T61 l0 (ji12)).f5).length c170_5)) (ds := []) (bv 49 0) (by kernel_rfl) rfl rfl ⟨(blk_cell BK168.out 0).trans rfl, (blk_cell BK168.out 1).trans rfl, (blk_cell BK168.out 2).trans rfl, (blk_cell BK168.out 3).trans rfl, (blk_cell BK168.out 4).trans rfl, (blk_cell BK168.out 5).trans rfl, ((HB.out.cell (World.block_lt_of_cell? w _ hw170_0)).trans hw170_0), ((HB.out.cell (World.block_lt_of_cell? w _ hw170_1)).trans hw170_1), ((HB.out.cell (World.block_lt_of_cell? w _ hw170_2)).trans hw170_2), ((HB.out.cell (World.block_lt_of_cell? w _ hw170_3)).trans hw170_3), ((HB.out.cell (World.block_lt_of_cell? w _ hw170_4)).trans hw170_4), ((HB.out.cell (World.block_lt_of_cell? w _ hw170_5)).trans hw170_5)⟩ (fun hHeld => ?_); refine with_tabW impl_AreTeams.tab7 impl_AreTeams.bits7 (fun HT_ HW_ => ?_)
        generalize w32.drew = w33 at BK168 HB HR170_5 hx170_0 hx170_1 hx170_2 hx170_3 hx170_4 hx170_5 hHeld ⊢
        refine pv_ 49 0 22 1 rfl rfl HT_ ?_
        refine tv_ 49 1 23 3 rfl rfl HT_ HW_ hHeld (by rintro w' ⟨s0, s1, s2, s3, s4, s5, s6, s7, s8, s9, s10, s11⟩; go_simp; with_reducible rfl) ?_
        refine one_ (i := 2) (N := some 24) (bv 49 7) rfl rfl (one_of HT_.out (by kernel_rfl)) (by decide) (fun K hK => ?_)
        refine goes_ Try.func61 (by kernel_rfl) rfl #[.int .i64 ((rd_T61 l0 x14_1).f0), .int .i64 1, .int .i64 99] (by rfl) rfl rfl (by (try simp only [List.map_toArray, List.map_cons, List.map_nil]); first | done | rfl | (simp only [List.length_drop, List.length_take]; rfl)) ?_
        with_reducible refine (impl_InRange.calls ((rd_T61 l0 x14_1).f0) 1 99 true _ A9.out).mono ?_
        rintro e w' ⟨rfl, ⟨nd, rfl⟩⟩
        refine ⟨_, rfl, ?_⟩
        refine hK.out _ _ ⟨(blk_cell BK168.out 0).trans rfl, (blk_cell BK168.out 1).trans rfl, (blk_cell BK168.out 2).trans rfl, (blk_cell BK168.out 3).trans rfl, (blk_cell BK168.out 4).trans rfl, (blk_cell BK168.out 5).trans rfl, ((HB.out.cell (World.block_lt_of_cell? w _ hw170_0)).trans hw170_0), ((HB.out.cell (World.block_lt_of_cell? w _ hw170_1)).trans hw170_1), ((HB.out.cell (World.block_lt_of_cell? w _ hw170_2)).trans hw170_2), ((HB.out.cell (World.block_lt_of_cell? w _ hw170_3)).trans hw170_3), ((HB.out.cell (World.block_lt_of_cell? w _ hw170_4)).trans hw170_4), ((HB.out.cell (World.block_lt_of_cell? w _ hw170_5)).trans hw170_5)⟩ (fun hHeld => ?_)
        clear hK K
        refine nm_ 24 ?_
        refine pv_ 49 3 25 15 rfl rfl HT_ ?_; refine pv_ 49 4 26 31 rfl rfl HT_ ?_; refine pv_ 49 5 27 63 rfl rfl HT_ ?_; refine pv_ 49 6 28 127 rfl rfl HT_ ?_; refine pv_ 49 7 29 255 rfl rfl HT_ ?_; refine pv_ 49 8 30 511 rfl rfl HT_ ?_; refine pv_ 49 10 32 1535 rfl rfl HT_ ?_; refine pv_ 49 11 33 3583 rfl rfl HT_ ?_; refine pv_ 49 12 34 7679 rfl rfl HT_ ?_; refine pv_ 49 13 35 15871 rfl rfl HT_ ?_; refine pv_ 49 14 36 32255 rfl rfl HT_ ?_
        refine tv_ 49 9 31 32767 rfl rfl HT_ HW_ hHeld (by rintro w' ⟨s0, s1, s2, s3, s4, s5, s6, s7, s8, s9, s10, s11⟩; go_simp; with_reducible rfl) ?_
        refine tv_ 49 15 37 65535 rfl rfl HT_ HW_ hHeld (by rintro w' ⟨s0, s1, s2, s3, s4, s5, s6, s7, s8, s9, s10, s11⟩; go_simp; with_reducible rfl) ?_
        refine pv_ 49 16 38 131071 rfl rfl HT_ ?_; refine pv_ 49 17 39 262143 rfl rfl HT_ ?_; refine pv_ 49 18 40 524287 rfl rfl HT_ ?_; refine pv_ 49 19 41 1048575 rfl rfl HT_ ?_; refine pv_ 49 20 42 2097151 rfl rfl HT_ ?_
        refine tv_ 49 21 43 4194303 rfl rfl HT_ HW_ hHeld (by rintro w' ⟨s0, s1, s2, s3, s4, s5, s6, s7, s8, s9, s10, s11⟩; go_simp; with_reducible rfl) ?_
        refine one_ (i := 22) (N := some 44) (bv 49 8388607) rfl rfl (one_of HT_.out (by kernel_rfl)) (by decide) (fun K hK => ?_)
        refine goes_ Try.func61 (by kernel_rfl) rfl #[.int .i64 ((rd_T61 l0 x14_1).f1), .int .i64 1, .int .i64 99] (by rfl) rfl rfl (by (try simp only [List.map_toArray, List.map_cons, List.map_nil]); first | done | rfl | (simp only [List.length_drop, List.length_take]; rfl)) ?_
        with_reducible refine (impl_InRange.calls ((rd_T61 l0 x14_1).f1) 1 99 true _ A18.out).mono ?_
        rintro e w' ⟨rfl, ⟨nd, rfl⟩⟩
        refine ⟨_, rfl, ?_⟩
        refine hK.out _ _ ⟨(blk_cell BK168.out 0).trans rfl, (blk_cell BK168.out 1).trans rfl, (blk_cell BK168.out 2).trans rfl, (blk_cell BK168.out 3).trans rfl, (blk_cell BK168.out 4).trans rfl, (blk_cell BK168.out 5).trans rfl, ((HB.out.cell (World.block_lt_of_cell? w _ hw170_0)).trans hw170_0), ((HB.out.cell (World.block_lt_of_cell? w _ hw170_1)).trans hw170_1), ((HB.out.cell (World.block_lt_of_cell? w _ hw170_2)).trans hw170_2), ((HB.out.cell (World.block_lt_of_cell? w _ hw170_3)).trans hw170_3), ((HB.out.cell (World.block_lt_of_cell? w _ hw170_4)).trans hw170_4), ((HB.out.cell (World.block_lt_of_cell? w _ hw170_5)).trans hw170_5)⟩ (fun hHeld => ?_)
        clear hK K
        refine nm_ 44 ?_
        refine pv_ 49 23 45 16777215 rfl rfl HT_ ?_; refine pv_ 49 24 46 33554431 rfl rfl HT_ ?_; refine pv_ 49 25 47 67108863 rfl rfl HT_ ?_; refine pv_ 49 26 48 134217727 rfl rfl HT_ ?_; refine pv_ 49 27 49 268435455 rfl rfl HT_ ?_; refine pv_ 49 28 50 536870911 rfl rfl HT_ ?_; refine pv_ 49 29 51 1073741823 rfl rfl HT_ ?_; refine pv_ 49 30 52 2147483647 rfl rfl HT_ ?_; refine pv_ 49 32 54 6442450943 rfl rfl HT_ ?_
        refine tv_ 49 31 53 8589934591 rfl rfl HT_ HW_ hHeld (by rintro w' ⟨s0, s1, s2, s3, s4, s5, s6, s7, s8, s9, s10, s11⟩; go_simp; with_reducible rfl) ?_
        refine one_ (i := 33) (N := some 55) (bv 49 17179869183) rfl rfl (one_of HT_.out (by kernel_rfl)) (by decide) (fun K hK => ?_)
        refine goes_ Try.func61 (by kernel_rfl) rfl #[.int .i64 ((rd_T61 l0 x14_1).f2), .int .i64 0, .int .i64 (((rd_T61 l0 x14_1).f5).length : Int)] (by rfl) rfl rfl (by (try simp only [List.map_toArray, List.map_cons, List.map_nil]); first | done | rfl | (simp only [List.length_drop, List.length_take]; rfl)) ?_
        with_reducible refine (impl_InRange.calls ((rd_T61 l0 x14_1).f2) 0 (((rd_T61 l0 x14_1).f5).length : Int) false _ A23.out).mono ?_
        rintro e w' ⟨rfl, ⟨nd, rfl⟩⟩
        refine ⟨_, rfl, ?_⟩
        refine hK.out _ _ ⟨(blk_cell BK168.out 0).trans rfl, (blk_cell BK168.out 1).trans rfl, (blk_cell BK168.out 2).trans rfl, (blk_cell BK168.out 3).trans rfl, (blk_cell BK168.out 4).trans rfl, (blk_cell BK168.out 5).trans rfl, ((HB.out.cell (World.block_lt_of_cell? w _ hw170_0)).trans hw170_0), ((HB.out.cell (World.block_lt_of_cell? w _ hw170_1)).trans hw170_1), ((HB.out.cell (World.block_lt_of_cell? w _ hw170_2)).trans hw170_2), ((HB.out.cell (World.block_lt_of_cell? w _ hw170_3)).trans hw170_3), ((HB.out.cell (World.block_lt_of_cell? w _ hw170_4)).trans hw170_4), ((HB.out.cell (World.block_lt_of_cell? w _ hw170_5)).trans hw170_5)⟩ (fun hHeld => ?_)
        clear hK K
        refine nm_ 55 ?_
        refine pv_ 49 34 56 34359738367 rfl rfl HT_ ?_; refine pv_ 49 35 57 68719476735 rfl rfl HT_ ?_; refine pv_ 49 36 58 137438953471 rfl rfl HT_ ?_; refine pu_ 49 37 59 274877906943 rfl rfl HT_ ?_; refine pu_ 49 38 60 549755813887 rfl rfl HT_ ?_; refine pu_ 49 39 61 1099511627775 rfl rfl HT_ ?_; refine pu_ 49 40 62 2199023255551 rfl rfl HT_ ?_; refine pu_ 49 41 63 4398046511103 rfl rfl HT_ ?_; refine pv_ 49 42 64 8796093022207 rfl rfl HT_ ?_; refine pv_ 49 43 65 17592186044415 rfl rfl HT_ ?_; refine pu_ 49 44 66 35184372088831 rfl rfl HT_ ?_; refine pu_ 49 45 67 70368744177663 rfl rfl HT_ ?_; refine pu_ 49 46 68 140737488355327 rfl rfl HT_ ?_; refine pu_ 49 47 69 281474976710655 rfl rfl HT_ ?_; refine pv_ 49 48 70 562949953421311 rfl rfl HT_ ?_
        refine done_ (done_of HT_.out (by kernel_rfl)) ?_
        try go_wp2
        go_meet
        case rel => exact ⟨_, (true), (by first | rfl | (simp; done) | (simp [*]; done)), H', ⟨by have := HK1.out; first | omega | exact Nat.le_refl _⟩, ⟨by (with_reducible repeat (first | refine blk_drewN ?_ _ | refine blk_drew ?_ | refine blk_alloc ?_ _)); exact BK168.out⟩, ⟨by repeat (first | (with_reducible first | exact HB.out | apply below_alloc | apply pw_below_drewN | apply below_drew1 | refine below_set ?_ GE168.out) | exact HB.out)⟩⟩
       subst c24
       have H1 : ((impl_InRange.f ((rd_T61 l0 x14_1).f4) 0 (((rd_T61 l0 x14_1).f5).length : Int)).bind fun t173 => (if t173 = true then ((impl_InRange.f ((rd_T61 l0 x14_1).f3) 0 100000).bind fun t174 => (impl_AreTeams.j1 k1 l0 l0 (l0.length : Int) x14_1 (!t174) ((rd_T61 l0 x14_1).f0) ((rd_T61 l0 x14_1).f1) ((rd_T61 l0 x14_1).f2) ((rd_T61 l0 x14_1).f3) ((rd_T61 l0 x14_1).f4) ((rd_T61 l0 x14_1).f5))) else (impl_AreTeams.j1 k1 l0 l0 (l0.length : Int) x14_1 true ((rd_T61 l0 x14_1).f0) ((rd_T61 l0 x14_1).f1) ((rd_T61 l0 x14_1).f2) ((rd_T61 l0 x14_1).f3) ((rd_T61 l0 x14_1).f4) ((rd_T61 l0 x14_1).f5)))) = some r := by rw [if_pos rfl] at H; exact H
       clear H
       have H := H1
       clear H1
       replace H := Option.bind_eq_some_iff.mp H
       obtain ⟨t173, A250, H⟩ := H
       replace H : (if t173 = true then ((impl_InRange.f ((rd_T61 l0 x14_1).f3) 0 100000).bind fun t174 => (impl_AreTeams.j1 k1 l0 l0 (l0.length : Int) x14_1 (!t174) ((rd_T61 l0 x14_1).f0) ((rd_T61 l0 x14_1).f1) ((rd_T61 l0 x14_1).f2) ((rd_T61 l0 x14_1).f3) ((rd_T61 l0 x14_1).f4) ((rd_T61 l0 x14_1).f5))) else (impl_AreTeams.j1 k1 l0 l0 (l0.length : Int) x14_1 true ((rd_T61 l0 x14_1).f0) ((rd_T61 l0 x14_1).f1) ((rd_T61 l0 x14_1).f2) ((rd_T61 l0 x14_1).f3) ((rd_T61 l0 x14_1).f4) ((rd_T61 l0 x14_1).f5))) = some r := H
       have A25 := Aside0.mk A250
       clear A250
       by_cases c26 : t173 = true
       rotate_left
       ·
        replace c26 := Bool.eq_false_iff.mpr c26
        subst c26
        have H1 : (impl_AreTeams.j1 k1 l0 l0 (l0.length : Int) x14_1 true ((rd_T61 l0 x14_1).f0) ((rd_T61 l0 x14_1).f1) ((rd_T61 l0 x14_1).f2) ((rd_T61 l0 x14_1).f3) ((rd_T61 l0 x14_1).f4) ((rd_T61 l0 x14_1).f5)) = some r := by rw [if_neg (show ¬ (false = true) by decide)] at H; exact H
        clear H
        have H := H1
        clear H1
        have H' := Aside0.mk H
        clear H
        try go_wp2
        have n0_ : Aside0 (((((((w7.setCell ⟨gb168, 0, none⟩ (.int .i64 ((rd_T61 l0 x14_1).f0))).setCell ⟨gb168, 1, none⟩ (.int .i64 ((rd_T61 l0 x14_1).f1))).setCell ⟨gb168, 2, none⟩ (.int .i64 ((rd_T61 l0 x14_1).f2))).setCell ⟨gb168, 3, none⟩ (.int .i64 ((rd_T61 l0 x14_1).f3))).setCell ⟨gb168, 4, none⟩ (.int .i64 ((rd_T61 l0 x14_1).f4))).setCell ⟨gb168, 5, none⟩ (.slice A167_5 ((rd_T61 l0 x14_1).f5).length c167_5)).heap[gb168]? = some (.cells #[.int .i64 ((rd_T61 l0 x14_1).f0), .int .i64 ((rd_T61 l0 x14_1).f1), .int .i64 ((rd_T61 l0 x14_1).f2), .int .i64 ((rd_T61 l0 x14_1).f3), .int .i64 ((rd_T61 l0 x14_1).f4), .slice A167_5 ((rd_T61 l0 x14_1).f5).length c167_5] 61 (0, 0))) := ⟨by (with_reducible repeat (first | refine blk_drewN ?_ _ | refine blk_drew ?_ | refine blk_alloc ?_ _)); refine blk_put (cs := #[.int .i64 ((rd_T61 l0 x14_1).f0), .int .i64 ((rd_T61 l0 x14_1).f1), .int .i64 ((rd_T61 l0 x14_1).f2), .int .i64 ((rd_T61 l0 x14_1).f3), .int .i64 ((rd_T61 l0 x14_1).f4), .slice none 0 0]) ?_ 5 _ rfl; (with_reducible repeat (first | refine blk_drewN ?_ _ | refine blk_drew ?_ | refine blk_alloc ?_ _)); refine blk_put (cs := #[.int .i64 ((rd_T61 l0 x14_1).f0), .int .i64 ((rd_T61 l0 x14_1).f1), .int .i64 ((rd_T61 l0 x14_1).f2), .int .i64 ((rd_T61 l0 x14_1).f3), .int .i64 0, .slice none 0 0]) ?_ 4 _ rfl; (with_reducible repeat (first | refine blk_drewN ?_ _ | refine blk_drew ?_ | refine blk_alloc ?_ _)); refine blk_put (cs := #[.int .i64 ((rd_T61 l0 x14_1).f0), .int .i64 ((rd_T61 l0 x14_1).f1), .int .i64 ((rd_T61 l0 x14_1).f2), .int .i64 0, .int .i64 0, .slice none 0 0]) ?_ 3 _ rfl; (with_reducible repeat (first | refine blk_drewN ?_ _ | refine blk_drew ?_ | refine blk_alloc ?_ _)); refine blk_put (cs := #[.int .i64 ((rd_T61 l0 x14_1).f0), .int .i64 ((rd_T61 l0 x14_1).f1), .int .i64 0, .int .i64 0, .int .i64 0, .slice none 0 0]) ?_ 2 _ rfl; (with_reducible repeat (first | refine blk_drewN ?_ _ | refine blk_drew ?_ | refine blk_alloc ?_ _)); refine blk_put (cs := #[.int .i64 ((rd_T61 l0 x14_1).f0), .int .i64 0, .int .i64 0, .int .i64 0, .int .i64 0, .slice none 0 0]) ?_ 1 _ rfl; (with_reducible repeat (first | refine blk_drewN ?_ _ | refine blk_drew ?_ | refine blk_alloc ?_ _)); refine blk_put (cs := #[.int .i64 0, .int .i64 0, .int .i64 0, .int .i64 0, .int .i64 0, .slice none 0 0]) ?_ 0 _ rfl; (with_reducible repeat (first | refine blk_drewN ?_ _ | refine blk_drew ?_ | refine blk_alloc ?_ _)); exact BK168.out⟩
        have n1_ : Aside0 (Below w.heap.size w ((((((w7.setCell ⟨gb168, 0, none⟩ (.int .i64 ((rd_T61 l0 x14_1).f0))).setCell ⟨gb168, 1, none⟩ (.int .i64 ((rd_T61 l0 x14_1).f1))).setCell ⟨gb168, 2, none⟩ (.int .i64 ((rd_T61 l0 x14_1).f2))).setCell ⟨gb168, 3, none⟩ (.int .i64 ((rd_T61 l0 x14_1).f3))).setCell ⟨gb168, 4, none⟩ (.int .i64 ((rd_T61 l0 x14_1).f4))).setCell ⟨gb168, 5, none⟩ (.slice A167_5 ((rd_T61 l0 x14_1).f5).length c167_5))) := ⟨by repeat (first | (with_reducible first | exact HB.out | apply below_alloc | apply pw_below_drewN | apply below_drew1 | refine below_set ?_ GE168.out) | exact HB.out)⟩
        (try clear BK168)
        (try clear HB)
        generalize ((((((w7.setCell ⟨gb168, 0, none⟩ (.int .i64 ((rd_T61 l0 x14_1).f0))).setCell ⟨gb168, 1, none⟩ (.int .i64 ((rd_T61 l0 x14_1).f1))).setCell ⟨gb168, 2, none⟩ (.int .i64 ((rd_T61 l0 x14_1).f2))).setCell ⟨gb168, 3, none⟩ (.int .i64 ((rd_T61 l0 x14_1).f3))).setCell ⟨gb168, 4, none⟩ (.int .i64 ((rd_T61 l0 x14_1).f4))).setCell ⟨gb168, 5, none⟩ (.slice A167_5 ((rd_T61 l0 x14_1).f5).length c167_5)) = w30 at n0_ n1_ ⊢
        have BK168 := n0_
        have HB := n1_
        clear n0_ n1_
        have n0_ := Aside0.mk (blk_drew BK168.out)
        have n1_ := Aside0.mk (below_drew1 HB.out)
        clear BK168
        clear HB
        have BK168 := n0_
        have HB := n1_
        clear n0_ n1_
        have p170 : 0 ≤ ((ji12) : Int) := of_decide_eq_true (by first | (with_reducible assumption) | assumption)
        have q170 : (ji12) < (l0.length : Int) := of_decide_eq_true (by first | (with_reducible assumption) | assumption)
        obtain ⟨ad170, A170_5, c170_5, e170, hx170_0, hx170_1, hx170_2, hx170_3, hx170_4, hx170_5, hl170_5, hi170_5⟩ := at_T61 HR0.out (ji12) p170 q170
        have hw170_5 := hx170_5
        have hw170_4 := hx170_4
        have hw170_3 := hx170_3
        have hw170_2 := hx170_2
        have hw170_1 := hx170_1
        have hw170_0 := hx170_0
        obtain rfl : ad167 = ad170 := (by injection e170)
        replace hx170_0 := (HB.out.cell (World.block_lt_of_cell? w _ hx170_0)).trans hx170_0
        replace hx170_1 := (HB.out.cell (World.block_lt_of_cell? w _ hx170_1)).trans hx170_1
        replace hx170_2 := (HB.out.cell (World.block_lt_of_cell? w _ hx170_2)).trans hx170_2
        replace hx170_3 := (HB.out.cell (World.block_lt_of_cell? w _ hx170_3)).trans hx170_3
        replace hx170_4 := (HB.out.cell (World.block_lt_of_cell? w _ hx170_4)).trans hx170_4
        replace hx170_5 := (HB.out.cell (World.block_lt_of_cell? w _ hx170_5)).trans hx170_5
        have HR170_5 := Aside0.mk hi170_5
        have HC170_5 := Aside0.mk hl170_5
        clear hi170_5 hl170_5
        replace p170 := eq_true p170
        replace q170 := eq_true q170
        refine start_ (n := 49) (S := fun w' => w'.cell? ⟨gb168, 0, none⟩ = some (.int .i64 ((rd_T61 l0 x14_1).f0)) ∧ w'.cell? ⟨gb168, 1, none⟩ = some (.int .i64 ((rd_T61 l0 x14_1).f1)) ∧ w'.cell? ⟨gb168, 2, none⟩ = some (.int .i64 ((rd_T61 l0 x14_1).f2)) ∧ w'.cell? ⟨gb168, 3, none⟩ = some (.int .i64 ((rd_T61 l0 x14_1).f3)) ∧ w'.cell? ⟨gb168, 4, none⟩ = some (.int .i64 ((rd_T61 l0 x14_1).f4)) ∧ w'.cell? ⟨gb168, 5, none⟩ = some (.slice A167_5 ((rd_T61 l0 x14_1).f5).length c167_5) ∧ w'.cell? (ad167.add (((ji12)).toNat * 6)) = some (.int .i64 ((rd_T61 l0 (ji12)).f0)) ∧ w'.cell? ⟨(ad167.add (((ji12)).toNat * 6)).block, (ad167.add (((ji12)).toNat * 6)).off + 1, none⟩ = some (.int .i64 ((rd_T61 l0 (ji12)).f1)) ∧ w'.cell? ⟨(ad167.add (((ji12)).toNat * 6)).block, (ad167.add (((ji12)).toNat * 6)).off + 2, none⟩ = some (.int .i64 ((rd_T61 l0 (ji12)).f2)) ∧ w'.cell? ⟨(ad167.add (((ji12)).toNat * 6)).block, (ad167.add (((ji12)).toNat * 6)).off + 3, none⟩ = some (.int .i64 ((rd_T61 l0 (ji12)).f3)) ∧ w'.cell? ⟨(ad167.add (((ji12)).toNat * 6)).block, (ad167.add (((ji12)).toNat * 6)).off + 4, none⟩ = some (.int .i64 ((rd_T61 l0 (ji12)).f4)) ∧ w'.cell? ⟨(ad167.add (((ji12)).toNat * 6)).block, (ad167.add (((ji12)).toNat * 6)).off + 5, none⟩ = some (.slice A170_5 ((rd_T61 l0 (ji12)).f5).length c170_5)) (ds := []) (bv 49 0) (by kernel_rfl) rfl rfl ⟨(blk_cell BK168.out 0).trans rfl, (blk_cell BK168.out 1).trans rfl, (blk_cell BK168.out 2).trans rfl, (blk_cell BK168.out 3).trans rfl, (blk_cell BK168.out 4).trans rfl, (blk_cell BK168.out 5).trans rfl, ((HB.out.cell (World.block_lt_of_cell? w _ hw170_0)).trans hw170_0), ((HB.out.cell (World.block_lt_of_cell? w _ hw170_1)).trans hw170_1), ((HB.out.cell (World.block_lt_of_cell? w _ hw170_2)).trans hw170_2), ((HB.out.cell (World.block_lt_of_cell? w _ hw170_3)).trans hw170_3), ((HB.out.cell (World.block_lt_of_cell? w _ hw170_4)).trans hw170_4), ((HB.out.cell (World.block_lt_of_cell? w _ hw170_5)).trans hw170_5)⟩ (fun hHeld => ?_); refine with_tabW impl_AreTeams.tab7 impl_AreTeams.bits7 (fun HT_ HW_ => ?_)
        generalize w30.drew = w31 at BK168 HB HR170_5 hx170_0 hx170_1 hx170_2 hx170_3 hx170_4 hx170_5 hHeld ⊢
        refine pv_ 49 0 22 1 rfl rfl HT_ ?_
        refine tv_ 49 1 23 3 rfl rfl HT_ HW_ hHeld (by rintro w' ⟨s0, s1, s2, s3, s4, s5, s6, s7, s8, s9, s10, s11⟩; go_simp; with_reducible rfl) ?_
        refine one_ (i := 2) (N := some 24) (bv 49 7) rfl rfl (one_of HT_.out (by kernel_rfl)) (by decide) (fun K hK => ?_)
        refine goes_ Try.func61 (by kernel_rfl) rfl #[.int .i64 ((rd_T61 l0 x14_1).f0), .int .i64 1, .int .i64 99] (by rfl) rfl rfl (by (try simp only [List.map_toArray, List.map_cons, List.map_nil]); first | done | rfl | (simp only [List.length_drop, List.length_take]; rfl)) ?_
        with_reducible refine (impl_InRange.calls ((rd_T61 l0 x14_1).f0) 1 99 true _ A9.out).mono ?_
        rintro e w' ⟨rfl, ⟨nd, rfl⟩⟩
        refine ⟨_, rfl, ?_⟩
        refine hK.out _ _ ⟨(blk_cell BK168.out 0).trans rfl, (blk_cell BK168.out 1).trans rfl, (blk_cell BK168.out 2).trans rfl, (blk_cell BK168.out 3).trans rfl, (blk_cell BK168.out 4).trans rfl, (blk_cell BK168.out 5).trans rfl, ((HB.out.cell (World.block_lt_of_cell? w _ hw170_0)).trans hw170_0), ((HB.out.cell (World.block_lt_of_cell? w _ hw170_1)).trans hw170_1), ((HB.out.cell (World.block_lt_of_cell? w _ hw170_2)).trans hw170_2), ((HB.out.cell (World.block_lt_of_cell? w _ hw170_3)).trans hw170_3), ((HB.out.cell (World.block_lt_of_cell? w _ hw170_4)).trans hw170_4), ((HB.out.cell (World.block_lt_of_cell? w _ hw170_5)).trans hw170_5)⟩ (fun hHeld => ?_)
        clear hK K
        refine nm_ 24 ?_
        refine pv_ 49 3 25 15 rfl rfl HT_ ?_; refine pv_ 49 4 26 31 rfl rfl HT_ ?_; refine pv_ 49 5 27 63 rfl rfl HT_ ?_; refine pv_ 49 6 28 127 rfl rfl HT_ ?_; refine pv_ 49 7 29 255 rfl rfl HT_ ?_; refine pv_ 49 8 30 511 rfl rfl HT_ ?_; refine pv_ 49 10 32 1535 rfl rfl HT_ ?_; refine pv_ 49 11 33 3583 rfl rfl HT_ ?_; refine pv_ 49 12 34 7679 rfl rfl HT_ ?_; refine pv_ 49 13 35 15871 rfl rfl HT_ ?_; refine pv_ 49 14 36 32255 rfl rfl HT_ ?_
        refine tv_ 49 9 31 32767 rfl rfl HT_ HW_ hHeld (by rintro w' ⟨s0, s1, s2, s3, s4, s5, s6, s7, s8, s9, s10, s11⟩; go_simp; with_reducible rfl) ?_
        refine tv_ 49 15 37 65535 rfl rfl HT_ HW_ hHeld (by rintro w' ⟨s0, s1, s2, s3, s4, s5, s6, s7, s8, s9, s10, s11⟩; go_simp; with_reducible rfl) ?_
        refine pv_ 49 16 38 131071 rfl rfl HT_ ?_; refine pv_ 49 17 39 262143 rfl rfl HT_ ?_; refine pv_ 49 18 40 524287 rfl rfl HT_ ?_; refine pv_ 49 19 41 1048575 rfl rfl HT_ ?_; refine pv_ 49 20 42 2097151 rfl rfl HT_ ?_
        refine tv_ 49 21 43 4194303 rfl rfl HT_ HW_ hHeld (by rintro w' ⟨s0, s1, s2, s3, s4, s5, s6, s7, s8, s9, s10, s11⟩; go_simp; with_reducible rfl) ?_
        refine one_ (i := 22) (N := some 44) (bv 49 8388607) rfl rfl (one_of HT_.out (by kernel_rfl)) (by decide) (fun K hK => ?_)
        refine goes_ Try.func61 (by kernel_rfl) rfl #[.int .i64 ((rd_T61 l0 x14_1).f1), .int .i64 1, .int .i64 99] (by rfl) rfl rfl (by (try simp only [List.map_toArray, List.map_cons, List.map_nil]); first | done | rfl | (simp only [List.length_drop, List.length_take]; rfl)) ?_
        with_reducible refine (impl_InRange.calls ((rd_T61 l0 x14_1).f1) 1 99 true _ A18.out).mono ?_
        rintro e w' ⟨rfl, ⟨nd, rfl⟩⟩
        refine ⟨_, rfl, ?_⟩
        refine hK.out _ _ ⟨(blk_cell BK168.out 0).trans rfl, (blk_cell BK168.out 1).trans rfl, (blk_cell BK168.out 2).trans rfl, (blk_cell BK168.out 3).trans rfl, (blk_cell BK168.out 4).trans rfl, (blk_cell BK168.out 5).trans rfl, ((HB.out.cell (World.block_lt_of_cell? w _ hw170_0)).trans hw170_0), ((HB.out.cell (World.block_lt_of_cell? w _ hw170_1)).trans hw170_1), ((HB.out.cell (World.block_lt_of_cell? w _ hw170_2)).trans hw170_2), ((HB.out.cell (World.block_lt_of_cell? w _ hw170_3)).trans hw170_3), ((HB.out.cell (World.block_lt_of_cell? w _ hw170_4)).trans hw170_4), ((HB.out.cell (World.block_lt_of_cell? w _ hw170_5)).trans hw170_5)⟩ (fun hHeld => ?_)
        clear hK K
        refine nm_ 44 ?_
        refine pv_ 49 23 45 16777215 rfl rfl HT_ ?_; refine pv_ 49 24 46 33554431 rfl rfl HT_ ?_; refine pv_ 49 25 47 67108863 rfl rfl HT_ ?_; refine pv_ 49 26 48 134217727 rfl rfl HT_ ?_; refine pv_ 49 27 49 268435455 rfl rfl HT_ ?_; refine pv_ 49 28 50 536870911 rfl rfl HT_ ?_; refine pv_ 49 29 51 1073741823 rfl rfl HT_ ?_; refine pv_ 49 30 52 2147483647 rfl rfl HT_ ?_; refine pv_ 49 32 54 6442450943 rfl rfl HT_ ?_
        refine tv_ 49 31 53 8589934591 rfl rfl HT_ HW_ hHeld (by rintro w' ⟨s0, s1, s2, s3, s4, s5, s6, s7, s8, s9, s10, s11⟩; go_simp; with_reducible rfl) ?_
        refine one_ (i := 33) (N := some 55) (bv 49 17179869183) rfl rfl (one_of HT_.out (by kernel_rfl)) (by decide) (fun K hK => ?_)
        refine goes_ Try.func61 (by kernel_rfl) rfl #[.int .i64 ((rd_T61 l0 x14_1).f2), .int .i64 0, .int .i64 (((rd_T61 l0 x14_1).f5).length : Int)] (by rfl) rfl rfl (by (try simp only [List.map_toArray, List.map_cons, List.map_nil]); first | done | rfl | (simp only [List.length_drop, List.length_take]; rfl)) ?_
        with_reducible refine (impl_InRange.calls ((rd_T61 l0 x14_1).f2) 0 (((rd_T61 l0 x14_1).f5).length : Int) true _ A23.out).mono ?_
        rintro e w' ⟨rfl, ⟨nd, rfl⟩⟩
        refine ⟨_, rfl, ?_⟩
        refine hK.out _ _ ⟨(blk_cell BK168.out 0).trans rfl, (blk_cell BK168.out 1).trans rfl, (blk_cell BK168.out 2).trans rfl, (blk_cell BK168.out 3).trans rfl, (blk_cell BK168.out 4).trans rfl, (blk_cell BK168.out 5).trans rfl, ((HB.out.cell (World.block_lt_of_cell? w _ hw170_0)).trans hw170_0), ((HB.out.cell (World.block_lt_of_cell? w _ hw170_1)).trans hw170_1), ((HB.out.cell (World.block_lt_of_cell? w _ hw170_2)).trans hw170_2), ((HB.out.cell (World.block_lt_of_cell? w _ hw170_3)).trans hw170_3), ((HB.out.cell (World.block_lt_of_cell? w _ hw170_4)).trans hw170_4), ((HB.out.cell (World.block_lt_of_cell? w _ hw170_5)).trans hw170_5)⟩ (fun hHeld => ?_)
        clear hK K
        refine nm_ 55 ?_
        refine pv_ 49 34 56 34359738367 rfl rfl HT_ ?_; refine pv_ 49 35 57 68719476735 rfl rfl HT_ ?_; refine pv_ 49 36 58 137438953471 rfl rfl HT_ ?_; refine pv_ 49 37 59 274877906943 rfl rfl HT_ ?_; refine pv_ 49 39 61 824633720831 rfl rfl HT_ ?_
        refine tv_ 49 38 60 1099511627775 rfl rfl HT_ HW_ hHeld (by rintro w' ⟨s0, s1, s2, s3, s4, s5, s6, s7, s8, s9, s10, s11⟩; go_simp; with_reducible rfl) ?_
        refine one_ (i := 40) (N := some 62) (bv 49 2199023255551) rfl rfl (one_of HT_.out (by kernel_rfl)) (by decide) (fun K hK => ?_)
        refine goes_ Try.func61 (by kernel_rfl) rfl #[.int .i64 ((rd_T61 l0 x14_1).f4), .int .i64 0, .int .i64 (((rd_T61 l0 x14_1).f5).length : Int)] (by rfl) rfl rfl (by (try simp only [List.map_toArray, List.map_cons, List.map_nil]); first | done | rfl | (simp only [List.length_drop, List.length_take]; rfl)) ?_
        with_reducible refine (impl_InRange.calls ((rd_T61 l0 x14_1).f4) 0 (((rd_T61 l0 x14_1).f5).length : Int) false _ A25.out).mono ?_
        rintro e w' ⟨rfl, ⟨nd, rfl⟩⟩
        refine ⟨_, rfl, ?_⟩
        refine hK.out _ _ ⟨(blk_cell BK168.out 0).trans rfl, (blk_cell BK168.out 1).trans rfl, (blk_cell BK168.out 2).trans rfl, (blk_cell BK168.out 3).trans rfl, (blk_cell BK168.out 4).trans rfl, (blk_cell BK168.out 5).trans rfl, ((HB.out.cell (World.block_lt_of_cell? w _ hw170_0)).trans hw170_0), ((HB.out.cell (World.block_lt_of_cell? w _ hw170_1)).trans hw170_1), ((HB.out.cell (World.block_lt_of_cell? w _ hw170_2)).trans hw170_2), ((HB.out.cell (World.block_lt_of_cell? w _ hw170_3)).trans hw170_3), ((HB.out.cell (World.block_lt_of_cell? w _ hw170_4)).trans hw170_4), ((HB.out.cell (World.block_lt_of_cell? w _ hw170_5)).trans hw170_5)⟩ (fun hHeld => ?_)
        clear hK K
        refine nm_ 62 ?_
        refine pv_ 49 41 63 4398046511103 rfl rfl HT_ ?_; refine pv_ 49 42 64 8796093022207 rfl rfl HT_ ?_; refine pv_ 49 43 65 17592186044415 rfl rfl HT_ ?_; refine pu_ 49 44 66 35184372088831 rfl rfl HT_ ?_; refine pu_ 49 45 67 70368744177663 rfl rfl HT_ ?_; refine pu_ 49 46 68 140737488355327 rfl rfl HT_ ?_; refine pu_ 49 47 69 281474976710655 rfl rfl HT_ ?_; refine pv_ 49 48 70 562949953421311 rfl rfl HT_ ?_
        refine done_ (done_of HT_.out (by kernel_rfl)) ?_
        try go_wp2
        go_meet
        case rel => exact ⟨_, (true), (by first | rfl | (simp; done) | (simp [*]; done)), H', ⟨by have := HK1.out; first | omega | exact Nat.le_refl _⟩, ⟨by (with_reducible repeat (first | refine blk_drewN ?_ _ | refine blk_drew ?_ | refine blk_alloc ?_ _)); exact BK168.out⟩, ⟨by repeat (first | (with_reducible first | exact HB.out | apply below_alloc | apply pw_below_drewN | apply below_drew1 | refine below_set ?_ GE168.out) | exact HB.out)⟩⟩
       subst c26
       have H1 : ((impl_InRange.f ((rd_T61 l0 x14_1).f3) 0 100000).bind fun t174 => (impl_AreTeams.j1 k1 l0 l0 (l0.length : Int) x14_1 (!t174) ((rd_T61 l0 x14_1).f0) ((rd_T61 l0 x14_1).f1) ((rd_T61 l0 x14_1).f2) ((rd_T61 l0 x14_1).f3) ((rd_T61 l0 x14_1).f4) ((rd_T61 l0 x14_1).f5))) = some r := by rw [if_pos rfl] at H; exact H
       clear H
       have H := H1
       clear H1
       replace H := Option.bind_eq_some_iff.mp H
       obtain ⟨t174, A270, H⟩ := H
       replace H : (impl_AreTeams.j1 k1 l0 l0 (l0.length : Int) x14_1 (!t174) ((rd_T61 l0 x14_1).f0) ((rd_T61 l0 x14_1).f1) ((rd_T61 l0 x14_1).f2) ((rd_T61 l0 x14_1).f3) ((rd_T61 l0 x14_1).f4) ((rd_T61 l0 x14_1).f5)) = some r := H
       have A27 := Aside0.mk A270
       clear A270
       have H' := Aside0.mk H
       clear H
       try go_wp2
       have n0_ : Aside0 (((((((w7.setCell ⟨gb168, 0, none⟩ (.int .i64 ((rd_T61 l0 x14_1).f0))).setCell ⟨gb168, 1, none⟩ (.int .i64 ((rd_T61 l0 x14_1).f1))).setCell ⟨gb168, 2, none⟩ (.int .i64 ((rd_T61 l0 x14_1).f2))).setCell ⟨gb168, 3, none⟩ (.int .i64 ((rd_T61 l0 x14_1).f3))).setCell ⟨gb168, 4, none⟩ (.int .i64 ((rd_T61 l0 x14_1).f4))).setCell ⟨gb168, 5, none⟩ (.slice A167_5 ((rd_T61 l0 x14_1).f5).length c167_5)).heap[gb168]? = some (.cells #[.int .i64 ((rd_T61 l0 x14_1).f0), .int .i64 ((rd_T61 l0 x14_1).f1), .int .i64 ((rd_T61 l0 x14_1).f2), .int .i64 ((rd_T61 l0 x14_1).f3), .int .i64 ((rd_T61 l0 x14_1).f4), .slice A167_5 ((rd_T61 l0 x14_1).f5).length c167_5] 61 (0, 0))) := ⟨by (with_reducible repeat (first | refine blk_drewN ?_ _ | refine blk_drew ?_ | refine blk_alloc ?_ _)); refine blk_put (cs := #[.int .i64 ((rd_T61 l0 x14_1).f0), .int .i64 ((rd_T61 l0 x14_1).f1), .int .i64 ((rd_T61 l0 x14_1).f2), .int .i64 ((rd_T61 l0 x14_1).f3), .int .i64 ((rd_T61 l0 x14_1).f4), .slice none 0 0]) ?_ 5 _ rfl; (with_reducible repeat (first | refine blk_drewN ?_ _ | refine blk_drew ?_ | refine blk_alloc ?_ _)); refine blk_put (cs := #[.int .i64 ((rd_T61 l0 x14_1).f0), .int .i64 ((rd_T61 l0 x14_1).f1), .int .i64 ((rd_T61 l0 x14_1).f2), .int .i64 ((rd_T61 l0 x14_1).f3), .int .i64 0, .slice none 0 0]) ?_ 4 _ rfl; (with_reducible repeat (first | refine blk_drewN ?_ _ | refine blk_drew ?_ | refine blk_alloc ?_ _)); refine blk_put (cs := #[.int .i64 ((rd_T61 l0 x14_1).f0), .int .i64 ((rd_T61 l0 x14_1).f1), .int .i64 ((rd_T61 l0 x14_1).f2), .int .i64 0, .int .i64 0, .slice none 0 0]) ?_ 3 _ rfl; (with_reducible repeat (first | refine blk_drewN ?_ _ | refine blk_drew ?_ | refine blk_alloc ?_ _)); refine blk_put (cs := #[.int .i64 ((rd_T61 l0 x14_1).f0), .int .i64 ((rd_T61 l0 x14_1).f1), .int .i64 0, .int .i64 0, .int .i64 0, .slice none 0 0]) ?_ 2 _ rfl; (with_reducible repeat (first | refine blk_drewN ?_ _ | refine blk_drew ?_ | refine blk_alloc ?_ _)); refine blk_put (cs := #[.int .i64 ((rd_T61 l0 x14_1).f0), .int .i64 0, .int .i64 0, .int .i64 0, .int .i64 0, .slice none 0 0]) ?_ 1 _ rfl; (with_reducible repeat (first | refine blk_drewN ?_ _ | refine blk_drew ?_ | refine blk_alloc ?_ _)); refine blk_put (cs := #[.int .i64 0, .int .i64 0, .int .i64 0, .int .i64 0, .int .i64 0, .slice none 0 0]) ?_ 0 _ rfl; (with_reducible repeat (first | refine blk_drewN ?_ _ | refine blk_drew ?_ | refine blk_alloc ?_ _)); exact BK168.out⟩
       have n1_ : Aside0 (Below w.heap.size w ((((((w7.setCell ⟨gb168, 0, none⟩ (.int .i64 ((rd_T61 l0 x14_1).f0))).setCell ⟨gb168, 1, none⟩ (.int .i64 ((rd_T61 l0 x14_1).f1))).setCell ⟨gb168, 2, none⟩ (.int .i64 ((rd_T61 l0 x14_1).f2))).setCell ⟨gb168, 3, none⟩ (.int .i64 ((rd_T61 l0 x14_1).f3))).setCell ⟨gb168, 4, none⟩ (.int .i64 ((rd_T61 l0 x14_1).f4))).setCell ⟨gb168, 5, none⟩ (.slice A167_5 ((rd_T61 l0 x14_1).f5).length c167_5))) := ⟨by repeat (first | (with_reducible first | exact HB.out | apply below_alloc | apply pw_below_drewN | apply below_drew1 | refine below_set ?_ GE168.out) | exact HB.out)⟩
       (try clear BK168)
       (try clear HB)
       generalize ((((((w7.setCell ⟨gb168, 0, none⟩ (.int .i64 ((rd_T61 l0 x14_1).f0))).setCell ⟨gb168, 1, none⟩ (.int .i64 ((rd_T61 l0 x14_1).f1))).setCell ⟨gb168, 2, none⟩ (.int .i64 ((rd_T61 l0 x14_1).f2))).setCell ⟨gb168, 3, none⟩ (.int .i64 ((rd_T61 l0 x14_1).f3))).setCell ⟨gb168, 4, none⟩ (.int .i64 ((rd_T61 l0 x14_1).f4))).setCell ⟨gb168, 5, none⟩ (.slice A167_5 ((rd_T61 l0 x14_1).f5).length c167_5)) = w28 at n0_ n1_ ⊢
       have BK168 := n0_
       have HB := n1_
       clear n0_ n1_
       have n0_ := Aside0.mk (blk_drew BK168.out)
       have n1_ := Aside0.mk (below_drew1 HB.out)
       clear BK168
       clear HB
       have BK168 := n0_
       have HB := n1_
       clear n0_ n1_
       have p170 : 0 ≤ ((ji12) : Int) := of_decide_eq_true (by first | (with_reducible assumption) | assumption)
       have q170 : (ji12) < (l0.length : Int) := of_decide_eq_true (by first | (with_reducible assumption) | assumption)
       obtain ⟨ad170, A170_5, c170_5, e170, hx170_0, hx170_1, hx170_2, hx170_3, hx170_4, hx170_5, hl170_5, hi170_5⟩ := at_T61 HR0.out (ji12) p170 q170
       have hw170_5 := hx170_5
       have hw170_4 := hx170_4
       have hw170_3 := hx170_3
       have hw170_2 := hx170_2
       have hw170_1 := hx170_1
       have hw170_0 := hx170_0
       obtain rfl : ad167 = ad170 := (by injection e170)
       replace hx170_0 := (HB.out.cell (World.block_lt_of_cell? w _ hx170_0)).trans hx170_0
       replace hx170_1 := (HB.out.cell (World.block_lt_of_cell? w _ hx170_1)).trans hx170_1
       replace hx170_2 := (HB.out.cell (World.block_lt_of_cell? w _ hx170_2)).trans hx170_2
       replace hx170_3 := (HB.out.cell (World.block_lt_of_cell? w _ hx170_3)).trans hx170_3
       replace hx170_4 := (HB.out.cell (World.block_lt_of_cell? w _ hx170_4)).trans hx170_4
       replace hx170_5 := (HB.out.cell (World.block_lt_of_cell? w _ hx170_5)).trans hx170_5
       have HR170_5 := Aside0.mk hi170_5
       have HC170_5 := Aside0.mk hl170_5
       clear hi170_5 hl170_5
       replace p170 := eq_true p170
       replace q170 := eq_true q170
       refine start_ (n := 49) (S := fun w' => w'.cell? ⟨gb168, 0, none⟩ = some (.int .i64 ((rd_T61 l0 x14_1).f0)) ∧ w'.cell? ⟨gb168, 1, none⟩ = some (.int .i64 ((rd_T61 l0 x14_1).f1)) ∧ w'.cell? ⟨gb168, 2, none⟩ = some (.int .i64 ((rd_T61 l0 x14_1).f2)) ∧ w'.cell? ⟨gb168, 3, none⟩ = some (.int .i64 ((rd_T61 l0 x14_1).f3)) ∧ w'.cell? ⟨gb168, 4, none⟩ = some (.int .i64 ((rd_T61 l0 x14_1).f4)) ∧ w'.cell? ⟨gb168, 5, none⟩ = some (.slice A167_5 ((rd_T61 l0 x14_1).f5).length c167_5) ∧ w'.cell? (ad167.add (((ji12)).toNat * 6)) = some (.int .i64 ((rd_T61 l0 (ji12)).f0)) ∧ w'.cell? ⟨(ad167.add (((ji12)).toNat * 6)).block, (ad167.add (((ji12)).toNat * 6)).off + 1, none⟩ = some (.int .i64 ((rd_T61 l0 (ji12)).f1)) ∧ w'.cell? ⟨(ad167.add (((ji12)).toNat * 6)).block, (ad167.add (((ji12)).toNat * 6)).off + 2, none⟩ = some (.int .i64 ((rd_T61 l0 (ji12)).f2)) ∧ w'.cell? ⟨(ad167.add (((ji12)).toNat * 6)).block, (ad167.add (((ji12)).toNat * 6)).off + 3, none⟩ = some (.int .i64 ((rd_T61 l0 (ji12)).f3)) ∧ w'.cell? ⟨(ad167.add (((ji12)).toNat * 6)).block, (ad167.add (((ji12)).toNat * 6)).off + 4, none⟩ = some (.int .i64 ((rd_T61 l0 (ji12)).f4)) ∧ w'.cell? ⟨(ad167.add (((ji12)).toNat * 6)).block, (ad167.add (((ji12)).toNat * 6)).off + 5, none⟩ = some (.slice A170_5 ((rd_T61 l0 (ji12)).f5).length c170_5)) (ds := []) (bv 49 0) (by kernel_rfl) rfl rfl ⟨(blk_cell BK168.out 0).trans rfl, (blk_cell BK168.out 1).trans rfl, (blk_cell BK168.out 2).trans rfl, (blk_cell BK168.out 3).trans rfl, (blk_cell BK168.out 4).trans rfl, (blk_cell BK168.out 5).trans rfl, ((HB.out.cell (World.block_lt_of_cell? w _ hw170_0)).trans hw170_0), ((HB.out.cell (World.block_lt_of_cell? w _ hw170_1)).trans hw170_1), ((HB.out.cell (World.block_lt_of_cell? w _ hw170_2)).trans hw170_2), ((HB.out.cell (World.block_lt_of_cell? w _ hw170_3)).trans hw170_3), ((HB.out.cell (World.block_lt_of_cell? w _ hw170_4)).trans hw170_4), ((HB.out.cell (World.block_lt_of_cell? w _ hw170_5)).trans hw170_5)⟩ (fun hHeld => ?_); refine with_tabW impl_AreTeams.tab7 impl_AreTeams.bits7 (fun HT_ HW_ => ?_)
       generalize w28.drew = w29 at BK168 HB HR170_5 hx170_0 hx170_1 hx170_2 hx170_3 hx170_4 hx170_5 hHeld ⊢
       refine pv_ 49 0 22 1 rfl rfl HT_ ?_
       refine tv_ 49 1 23 3 rfl rfl HT_ HW_ hHeld (by rintro w' ⟨s0, s1, s2, s3, s4, s5, s6, s7, s8, s9, s10, s11⟩; go_simp; with_reducible rfl) ?_
       refine one_ (i := 2) (N := some 24) (bv 49 7) rfl rfl (one_of HT_.out (by kernel_rfl)) (by decide) (fun K hK => ?_)
       refine goes_ Try.func61 (by kernel_rfl) rfl #[.int .i64 ((rd_T61 l0 x14_1).f0), .int .i64 1, .int .i64 99] (by rfl) rfl rfl (by (try simp only [List.map_toArray, List.map_cons, List.map_nil]); first | done | rfl | (simp only [List.length_drop, List.length_take]; rfl)) ?_
       with_reducible refine (impl_InRange.calls ((rd_T61 l0 x14_1).f0) 1 99 true _ A9.out).mono ?_
       rintro e w' ⟨rfl, ⟨nd, rfl⟩⟩
       refine ⟨_, rfl, ?_⟩
       refine hK.out _ _ ⟨(blk_cell BK168.out 0).trans rfl, (blk_cell BK168.out 1).trans rfl, (blk_cell BK168.out 2).trans rfl, (blk_cell BK168.out 3).trans rfl, (blk_cell BK168.out 4).trans rfl, (blk_cell BK168.out 5).trans rfl, ((HB.out.cell (World.block_lt_of_cell? w _ hw170_0)).trans hw170_0), ((HB.out.cell (World.block_lt_of_cell? w _ hw170_1)).trans hw170_1), ((HB.out.cell (World.block_lt_of_cell? w _ hw170_2)).trans hw170_2), ((HB.out.cell (World.block_lt_of_cell? w _ hw170_3)).trans hw170_3), ((HB.out.cell (World.block_lt_of_cell? w _ hw170_4)).trans hw170_4), ((HB.out.cell (World.block_lt_of_cell? w _ hw170_5)).trans hw170_5)⟩ (fun hHeld => ?_)
       clear hK K
       refine nm_ 24 ?_
       refine pv_ 49 3 25 15 rfl rfl HT_ ?_; refine pv_ 49 4 26 31 rfl rfl HT_ ?_; refine pv_ 49 5 27 63 rfl rfl HT_ ?_; refine pv_ 49 6 28 127 rfl rfl HT_ ?_; refine pv_ 49 7 29 255 rfl rfl HT_ ?_; refine pv_ 49 8 30 511 rfl rfl HT_ ?_; refine pv_ 49 10 32 1535 rfl rfl HT_ ?_; refine pv_ 49 11 33 3583 rfl rfl HT_ ?_; refine pv_ 49 12 34 7679 rfl rfl HT_ ?_; refine pv_ 49 13 35 15871 rfl rfl HT_ ?_; refine pv_ 49 14 36 32255 rfl rfl HT_ ?_
       refine tv_ 49 9 31 32767 rfl rfl HT_ HW_ hHeld (by rintro w' ⟨s0, s1, s2, s3, s4, s5, s6, s7, s8, s9, s10, s11⟩; go_simp; with_reducible rfl) ?_
       refine tv_ 49 15 37 65535 rfl rfl HT_ HW_ hHeld (by rintro w' ⟨s0, s1, s2, s3, s4, s5, s6, s7, s8, s9, s10, s11⟩; go_simp; with_reducible rfl) ?_
       refine pv_ 49 16 38 131071 rfl rfl HT_ ?_; refine pv_ 49 17 39 262143 rfl rfl HT_ ?_; refine pv_ 49 18 40 524287 rfl rfl HT_ ?_; refine pv_ 49 19 41 1048575 rfl rfl HT_ ?_; refine pv_ 49 20 42 2097151 rfl rfl HT_ ?_
       refine tv_ 49 21 43 4194303 rfl rfl HT_ HW_ hHeld (by rintro w' ⟨s0, s1, s2, s3, s4, s5, s6, s7, s8, s9, s10, s11⟩; go_simp; with_reducible rfl) ?_
       refine one_ (i := 22) (N := some 44) (bv 49 8388607) rfl rfl (one_of HT_.out (by kernel_rfl)) (by decide) (fun K hK => ?_)
       refine goes_ Try.func61 (by kernel_rfl) rfl #[.int .i64 ((rd_T61 l0 x14_1).f1), .int .i64 1, .int .i64 99] (by rfl) rfl rfl (by (try simp only [List.map_toArray, List.map_cons, List.map_nil]); first | done | rfl | (simp only [List.length_drop, List.length_take]; rfl)) ?_
       with_reducible refine (impl_InRange.calls ((rd_T61 l0 x14_1).f1) 1 99 true _ A18.out).mono ?_
       rintro e w' ⟨rfl, ⟨nd, rfl⟩⟩
       refine ⟨_, rfl, ?_⟩
       refine hK.out _ _ ⟨(blk_cell BK168.out 0).trans rfl, (blk_cell BK168.out 1).trans rfl, (blk_cell BK168.out 2).trans rfl, (blk_cell BK168.out 3).trans rfl, (blk_cell BK168.out 4).trans rfl, (blk_cell BK168.out 5).trans rfl, ((HB.out.cell (World.block_lt_of_cell? w _ hw170_0)).trans hw170_0), ((HB.out.cell (World.block_lt_of_cell? w _ hw170_1)).trans hw170_1), ((HB.out.cell (World.block_lt_of_cell? w _ hw170_2)).trans hw170_2), ((HB.out.cell (World.block_lt_of_cell? w _ hw170_3)).trans hw170_3), ((HB.out.cell (World.block_lt_of_cell? w _ hw170_4)).trans hw170_4), ((HB.out.cell (World.block_lt_of_cell? w _ hw170_5)).trans hw170_5)⟩ (fun hHeld => ?_)
       clear hK K
       refine nm_ 44 ?_
       refine pv_ 49 23 45 16777215 rfl rfl HT_ ?_; refine pv_ 49 24 46 33554431 rfl rfl HT_ ?_; refine pv_ 49 25 47 67108863 rfl rfl HT_ ?_; refine pv_ 49 26 48 134217727 rfl rfl HT_ ?_; refine pv_ 49 27 49 268435455 rfl rfl HT_ ?_; refine pv_ 49 28 50 536870911 rfl rfl HT_ ?_; refine pv_ 49 29 51 1073741823 rfl rfl HT_ ?_; refine pv_ 49 30 52 2147483647 rfl rfl HT_ ?_; refine pv_ 49 32 54 6442450943 rfl rfl HT_ ?_
       refine tv_ 49 31 53 8589934591 rfl rfl HT_ HW_ hHeld (by rintro w' ⟨s0, s1, s2, s3, s4, s5, s6, s7, s8, s9, s10, s11⟩; go_simp; with_reducible rfl) ?_
       refine one_ (i := 33) (N := some 55) (bv 49 17179869183) rfl rfl (one_of HT_.out (by kernel_rfl)) (by decide) (fun K hK => ?_)
       refine goes_ Try.func61 (by kernel_rfl) rfl #[.int .i64 ((rd_T61 l0 x14_1).f2), .int .i64 0, .int .i64 (((rd_T61 l0 x14_1).f5).length : Int)] (by rfl) rfl rfl (by (try simp only [List.map_toArray, List.map_cons, List.map_nil]); first | done | rfl | (simp only [List.length_drop, List.length_take]; rfl)) ?_
       with_reducible refine (impl_InRange.calls ((rd_T61 l0 x14_1).f2) 0 (((rd_T61 l0 x14_1).f5).length : Int) true _ A23.out).mono ?_
       rintro e w' ⟨rfl, ⟨nd, rfl⟩⟩
       refine ⟨_, rfl, ?_⟩
       refine hK.out _ _ ⟨(blk_cell BK168.out 0).trans rfl, (blk_cell BK168.out 1).trans rfl, (blk_cell BK168.out 2).trans rfl, (blk_cell BK168.out 3).trans rfl, (blk_cell BK168.out 4).trans rfl, (blk_cell BK168.out 5).trans rfl, ((HB.out.cell (World.block_lt_of_cell? w _ hw170_0)).trans hw170_0), ((HB.out.cell (World.block_lt_of_cell? w _ hw170_1)).trans hw170_1), ((HB.out.cell (World.block_lt_of_cell? w _ hw170_2)).trans hw170_2), ((HB.out.cell (World.block_lt_of_cell? w _ hw170_3)).trans hw170_3), ((HB.out.cell (World.block_lt_of_cell? w _ hw170_4)).trans hw170_4), ((HB.out.cell (World.block_lt_of_cell? w _ hw170_5)).trans hw170_5)⟩ (fun hHeld => ?_)
       clear hK K
       refine nm_ 55 ?_
       refine pv_ 49 34 56 34359738367 rfl rfl HT_ ?_; refine pv_ 49 35 57 68719476735 rfl rfl HT_ ?_; refine pv_ 49 36 58 137438953471 rfl rfl HT_ ?_; refine pv_ 49 37 59 274877906943 rfl rfl HT_ ?_; refine pv_ 49 39 61 824633720831 rfl rfl HT_ ?_
       refine tv_ 49 38 60 1099511627775 rfl rfl HT_ HW_ hHeld (by rintro w' ⟨s0, s1, s2, s3, s4, s5, s6, s7, s8, s9, s10, s11⟩; go_simp; with_reducible rfl) ?_
       refine one_ (i := 40) (N := some 62) (bv 49 2199023255551) rfl rfl (one_of HT_.out (by kernel_rfl)) (by decide) (fun K hK => ?_)
       refine goes_ Try.func61 (by kernel_rfl) rfl #[.int .i64 ((rd_T61 l0 x14_1).f4), .int .i64 0, .int .i64 (((rd_T61 l0 x14_1).f5).length : Int)] (by rfl) rfl rfl (by (try simp only [List.map_toArray, List.map_cons, List.map_nil]); first | done | rfl | (simp only [List.length_drop, List.length_take]; rfl)) ?_
       with_reducible refine (impl_InRange.calls ((rd_T61 l0 x14_1).f4) 0 (((rd_T61 l0 x14_1).f5).length : Int) true _ A25.out).mono ?_
       rintro e w' ⟨rfl, ⟨nd, rfl⟩⟩
       refine ⟨_, rfl, ?_⟩
       refine hK.out _ _ ⟨(blk_cell BK168.out 0).trans rfl, (blk_cell BK168.out 1).trans rfl, (blk_cell BK168.out 2).trans rfl, (blk_cell BK168.out 3).trans rfl, (blk_cell BK168.out 4).trans rfl, (blk_cell BK168.out 5).trans rfl, ((HB.out.cell (World.block_lt_of_cell? w _ hw170_0)).trans hw170_0), ((HB.out.cell (World.block_lt_of_cell? w _ hw170_1)).trans hw170_1), ((HB.out.cell (World.block_lt_of_cell? w _ hw170_2)).trans hw170_2), ((HB.out.cell (World.block_lt_of_cell? w _ hw170_3)).trans hw170_3), ((HB.out.cell (World.block_lt_of_cell? w _ hw170_4)).trans hw170_4), ((HB.out.cell (World.block_lt_of_cell? w _ hw170_5)).trans hw170_5)⟩ (fun hHeld => ?_)
       clear hK K
       refine nm_ 62 ?_
       refine pv_ 49 41 63 4398046511103 rfl rfl HT_ ?_; refine pv_ 49 42 64 8796093022207 rfl rfl HT_ ?_; refine pv_ 49 43 65 17592186044415 rfl rfl HT_ ?_; refine pv_ 49 44 66 35184372088831 rfl rfl HT_ ?_
       refine tv_ 49 45 67 70368744177663 rfl rfl HT_ HW_ hHeld (by rintro w' ⟨s0, s1, s2, s3, s4, s5, s6, s7, s8, s9, s10, s11⟩; go_simp; with_reducible rfl) ?_
       refine one_ (i := 46) (N := some 68) (bv 49 140737488355327) rfl rfl (one_of HT_.out (by kernel_rfl)) (by decide) (fun K hK => ?_)
       refine goes_ Try.func61 (by kernel_rfl) rfl #[.int .i64 ((rd_T61 l0 x14_1).f3), .int .i64 0, .int .i64 100000] (by rfl) rfl rfl (by (try simp only [List.map_toArray, List.map_cons, List.map_nil]); first | done | rfl | (simp only [List.length_drop, List.length_take]; rfl)) ?_
       with_reducible refine (impl_InRange.calls ((rd_T61 l0 x14_1).f3) 0 100000 t174 _ A27.out).mono ?_
       rintro e w' ⟨rfl, ⟨nd, rfl⟩⟩
       refine ⟨_, rfl, ?_⟩
       refine hK.out _ _ ⟨(blk_cell BK168.out 0).trans rfl, (blk_cell BK168.out 1).trans rfl, (blk_cell BK168.out 2).trans rfl, (blk_cell BK168.out 3).trans rfl, (blk_cell BK168.out 4).trans rfl, (blk_cell BK168.out 5).trans rfl, ((HB.out.cell (World.block_lt_of_cell? w _ hw170_0)).trans hw170_0), ((HB.out.cell (World.block_lt_of_cell? w _ hw170_1)).trans hw170_1), ((HB.out.cell (World.block_lt_of_cell? w _ hw170_2)).trans hw170_2), ((HB.out.cell (World.block_lt_of_cell? w _ hw170_3)).trans hw170_3), ((HB.out.cell (World.block_lt_of_cell? w _ hw170_4)).trans hw170_4), ((HB.out.cell (World.block_lt_of_cell? w _ hw170_5)).trans hw170_5)⟩ (fun hHeld => ?_)
       clear hK K
       refine nm_ 68 ?_
       refine pv_ 49 47 69 281474976710655 rfl rfl HT_ ?_; refine pv_ 49 48 70 562949953421311 rfl rfl HT_ ?_
       refine done_ (done_of HT_.out (by kernel_rfl)) ?_
       try go_wp2
       go_meet
       case rel => exact ⟨_, (!t174), (by first | rfl | (simp; done) | (simp [*]; done)), H', ⟨by have := HK1.out; first | omega | exact Nat.le_refl _⟩, ⟨by (with_reducible repeat (first | refine blk_drewN ?_ _ | refine blk_drew ?_ | refine blk_alloc ?_ _)); exact BK168.out⟩, ⟨by repeat (first | (with_reducible first | exact HB.out | apply below_alloc | apply pw_below_drewN | apply below_drew1 | refine below_set ?_ GE168.out) | exact HB.out)⟩⟩
      rw [if_pos c20] at H
      have c20b0 : decide (20 < (((rd_T61 l0 x14_1).f5).length : Int)) = true := decide_eq_true c20
      have c20b1 : decide (20 < ((rd_T61 l0 x14_1).f5).length) = true := decide_eq_true (by omega)
      clear c20
      have H' := Aside0.mk H
      clear H
      try go_wp2
      have n0_ : Aside0 (((((((w7.setCell ⟨gb168, 0, none⟩ (.int .i64 ((rd_T61 l0 x14_1).f0))).setCell ⟨gb168, 1, none⟩ (.int .i64 ((rd_T61 l0 x14_1).f1))).setCell ⟨gb168, 2, none⟩ (.int .i64 ((rd_T61 l0 x14_1).f2))).setCell ⟨gb168, 3, none⟩ (.int .i64 ((rd_T61 l0 x14_1).f3))).setCell ⟨gb168, 4, none⟩ (.int .i64 ((rd_T61 l0 x14_1).f4))).setCell ⟨gb168, 5, none⟩ (.slice A167_5 ((rd_T61 l0 x14_1).f5).length c167_5)).heap[gb168]? = some (.cells #[.int .i64 ((rd_T61 l0 x14_1).f0), .int .i64 ((rd_T61 l0 x14_1).f1), .int .i64 ((rd_T61 l0 x14_1).f2), .int .i64 ((rd_T61 l0 x14_1).f3), .int .i64 ((rd_T61 l0 x14_1).f4), .slice A167_5 ((rd_T61 l0 x14_1).f5).length c167_5] 61 (0, 0))) := ⟨by (with_reducible repeat (first | refine blk_drewN ?_ _ | refine blk_drew ?_ | refine blk_alloc ?_ _)); refine blk_put (cs := #[.int .i64 ((rd_T61 l0 x14_1).f0), .int .i64 ((rd_T61 l0 x14_1).f1), .int .i64 ((rd_T61 l0 x14_1).f2), .int .i64 ((rd_T61 l0 x14_1).f3), .int .i64 ((rd_T61 l0 x14_1).f4), .slice none 0 0]) ?_ 5 _ rfl; (with_reducible repeat (first | refine blk_drewN ?_ _ | refine blk_drew ?_ | refine blk_alloc ?_ _)); refine blk_put (cs := #[.int .i64 ((rd_T61 l0 x14_1).f0), .int .i64 ((rd_T61 l0 x14_1).f1), .int .i64 ((rd_T61 l0 x14_1).f2), .int .i64 ((rd_T61 l0 x14_1).f3), .int .i64 0, .slice none 0 0]) ?_ 4 _ rfl; (with_reducible repeat (first | refine blk_drewN ?_ _ | refine blk_drew ?_ | refine blk_alloc ?_ _)); refine blk_put (cs := #[.int .i64 ((rd_T61 l0 x14_1).f0), .int .i64 ((rd_T61 l0 x14_1).f1), .int .i64 ((rd_T61 l0 x14_1).f2), .int .i64 0, .int .i64 0, .slice none 0 0]) ?_ 3 _ rfl; (with_reducible repeat (first | refine blk_drewN ?_ _ | refine blk_drew ?_ | refine blk_alloc ?_ _)); refine blk_put (cs := #[.int .i64 ((rd_T61 l0 x14_1).f0), .int .i64 ((rd_T61 l0 x14_1).f1), .int .i64 0, .int .i64 0, .int .i64 0, .slice none 0 0]) ?_ 2 _ rfl; (with_reducible repeat (first | refine blk_drewN ?_ _ | refine blk_drew ?_ | refine blk_alloc ?_ _)); refine blk_put (cs := #[.int .i64 ((rd_T61 l0 x14_1).f0), .int .i64 0, .int .i64 0, .int .i64 0, .int .i64 0, .slice none 0 0]) ?_ 1 _ rfl; (with_reducible repeat (first | refine blk_drewN ?_ _ | refine blk_drew ?_ | refine blk_alloc ?_ _)); refine blk_put (cs := #[.int .i64 0, .int .i64 0, .int .i64 0, .int .i64 0, .int .i64 0, .slice none 0 0]) ?_ 0 _ rfl; (with_reducible repeat (first | refine blk_drewN ?_ _ | refine blk_drew ?_ | refine blk_alloc ?_ _)); exact BK168.out⟩
      have n1_ : Aside0 (Below w.heap.size w ((((((w7.setCell ⟨gb168, 0, none⟩ (.int .i64 ((rd_T61 l0 x14_1).f0))).setCell ⟨gb168, 1, none⟩ (.int .i64 ((rd_T61 l0 x14_1).f1))).setCell ⟨gb168, 2, none⟩ (.int .i64 ((rd_T61 l0 x14_1).f2))).setCell ⟨gb168, 3, none⟩ (.int .i64 ((rd_T61 l0 x14_1).f3))).setCell ⟨gb168, 4, none⟩ (.int .i64 ((rd_T61 l0 x14_1).f4))).setCell ⟨gb168, 5, none⟩ (.slice A167_5 ((rd_T61 l0 x14_1).f5).length c167_5))) := ⟨by repeat (first | (with_reducible first | exact HB.out | apply below_alloc | apply pw_below_drewN | apply below_drew1 | refine below_set ?_ GE168.out) | exact HB.out)⟩
      (try clear BK168)
      (try clear HB)
      generalize ((((((w7.setCell ⟨gb168, 0, none⟩ (.int .i64 ((rd_T61 l0 x14_1).f0))).setCell ⟨gb168, 1, none⟩ (.int .i64 ((rd_T61 l0 x14_1).f1))).setCell ⟨gb168, 2, none⟩ (.int .i64 ((rd_T61 l0 x14_1).f2))).setCell ⟨gb168, 3, none⟩ (.int .i64 ((rd_T61 l0 x14_1).f3))).setCell ⟨gb168, 4, none⟩ (.int .i64 ((rd_T61 l0 x14_1).f4))).setCell ⟨gb168, 5, none⟩ (.slice A167_5 ((rd_T61 l0 x14_1).f5).length c167_5)) = w21 at n0_ n1_ ⊢
      have BK168 := n0_
      have HB := n1_
      clear n0_ n1_
      have n0_ := Aside0.mk (blk_drew BK168.out)
      have n1_ := Aside0.mk (below_drew1 HB.out)
      clear BK168
      clear HB
      have BK168 := n0_
      have HB := n1_
      clear n0_ n1_
      have p170 : 0 ≤ ((ji12) : Int) := of_decide_eq_true (by first | (with_reducible assumption) | assumption)
      have q170 : (ji12) < (l0.length : Int) := of_decide_eq_true (by first | (with_reducible assumption) | assumption)
      obtain ⟨ad170, A170_5, c170_5, e170, hx170_0, hx170_1, hx170_2, hx170_3, hx170_4, hx170_5, hl170_5, hi170_5⟩ := at_T61 HR0.out (ji12) p170 q170
      have hw170_5 := hx170_5
      have hw170_4 := hx170_4
      have hw170_3 := hx170_3
      have hw170_2 := hx170_2
      have hw170_1 := hx170_1
      have hw170_0 := hx170_0
      obtain rfl : ad167 = ad170 := (by injection e170)
      replace hx170_0 := (HB.out.cell (World.block_lt_of_cell? w _ hx170_0)).trans hx170_0
      replace hx170_1 := (HB.out.cell (World.block_lt_of_cell? w _ hx170_1)).trans hx170_1
      replace hx170_2 := (HB.out.cell (World.block_lt_of_cell? w _ hx170_2)).trans hx170_2
      replace hx170_3 := (HB.out.cell (World.block_lt_of_cell? w _ hx170_3)).trans hx170_3
      replace hx170_4 := (HB.out.cell (World.block_lt_of_cell? w _ hx170_4)).trans hx170_4
      replace hx170_5 := (HB.out.cell (World.block_lt_of_cell? w _ hx170_5)).trans hx170_5
      have HR170_5 := Aside0.mk hi170_5
      have HC170_5 := Aside0.mk hl170_5
      clear hi170_5 hl170_5
      replace p170 := eq_true p170
      replace q170 := eq_true q170
      refine start_ (n := 49) (S := fun w' => w'.cell? ⟨gb168, 0, none⟩ = some (.int .i64 ((rd_T61 l0 x14_1).f0)) ∧ w'.cell? ⟨gb168, 1, none⟩ = some (.int .i64 ((rd_T61 l0 x14_1).f1)) ∧ w'.cell? ⟨gb168, 2, none⟩ = some (.int .i64 ((rd_T61 l0 x14_1).f2)) ∧ w'.cell? ⟨gb168, 3, none⟩ = some (.int .i64 ((rd_T61 l0 x14_1).f3)) ∧ w'.cell? ⟨gb168, 4, none⟩ = some (.int .i64 ((rd_T61 l0 x14_1).f4)) ∧ w'.cell? ⟨gb168, 5, none⟩ = some (.slice A167_5 ((rd_T61 l0 x14_1).f5).length c167_5) ∧ w'.cell? (ad167.add (((ji12)).toNat * 6)) = some (.int .i64 ((rd_T61 l0 (ji12)).f0)) ∧ w'.cell? ⟨(ad167.add (((ji12)).toNat * 6)).block, (ad167.add (((ji12)).toNat * 6)).off + 1, none⟩ = some (.int .i64 ((rd_T61 l0 (ji12)).f1)) ∧ w'.cell? ⟨(ad167.add (((ji12)).toNat * 6)).block, (ad167.add (((ji12)).toNat * 6)).off + 2, none⟩ = some (.int .i64 ((rd_T61 l0 (ji12)).f2)) ∧ w'.cell? ⟨(ad167.add (((ji12)).toNat * 6)).block, (ad167.add (((ji12)).toNat * 6)).off + 3, none⟩ = some (.int .i64 ((rd_T61 l0 (ji12)).f3)) ∧ w'.cell? ⟨(ad167.add (((ji12)).toNat * 6)).block, (ad167.add (((ji12)).toNat * 6)).off + 4, none⟩ = some (.int .i64 ((rd_T61 l0 (ji12)).f4)) ∧ w'.cell? ⟨(ad167.add (((ji12)).toNat * 6)).block, (ad167.add (((ji12)).toNat * 6)).off + 5, none⟩ = some (.slice A170_5 ((rd_T61 l0 (ji12)).f5).length c170_5)) (ds := []) (bv 49 0) (by kernel_rfl) rfl rfl ⟨(blk_cell BK168.out 0).trans rfl, (blk_cell BK168.out 1).trans rfl, (blk_cell BK168.out 2).trans rfl, (blk_cell BK168.out 3).trans rfl, (blk_cell BK168.out 4).trans rfl, (blk_cell BK168.out 5).trans rfl, ((HB.out.cell (World.block_lt_of_cell? w _ hw170_0)).trans hw170_0), ((HB.out.cell (World.block_lt_of_cell? w _ hw170_1)).trans hw170_1), ((HB.out.cell (World.block_lt_of_cell? w _ hw170_2)).trans hw170_2), ((HB.out.cell (World.block_lt_of_cell? w _ hw170_3)).trans hw170_3), ((HB.out.cell (World.block_lt_of_cell? w _ hw170_4)).trans hw170_4), ((HB.out.cell (World.block_lt_of_cell? w _ hw170_5)).trans hw170_5)⟩ (fun hHeld => ?_); refine with_tabW impl_AreTeams.tab7 impl_AreTeams.bits7 (fun HT_ HW_ => ?_)
      generalize w21.drew = w22 at BK168 HB HR170_5 hx170_0 hx170_1 hx170_2 hx170_3 hx170_4 hx170_5 hHeld ⊢
      refine pv_ 49 0 22 1 rfl rfl HT_ ?_
      refine tv_ 49 1 23 3 rfl rfl HT_ HW_ hHeld (by rintro w' ⟨s0, s1, s2, s3, s4, s5, s6, s7, s8, s9, s10, s11⟩; go_simp; with_reducible rfl) ?_
      refine one_ (i := 2) (N := some 24) (bv 49 7) rfl rfl (one_of HT_.out (by kernel_rfl)) (by decide) (fun K hK => ?_)
      refine goes_ Try.func61 (by kernel_rfl) rfl #[.int .i64 ((rd_T61 l0 x14_1).f0), .int .i64 1, .int .i64 99] (by rfl) rfl rfl (by (try simp only [List.map_toArray, List.map_cons, List.map_nil]); first | done | rfl | (simp only [List.length_drop, List.length_take]; rfl)) ?_
      with_reducible refine (impl_InRange.calls ((rd_T61 l0 x14_1).f0) 1 99 true _ A9.out).mono ?_
      rintro e w' ⟨rfl, ⟨nd, rfl⟩⟩
      refine ⟨_, rfl, ?_⟩
      refine hK.out _ _ ⟨(blk_cell BK168.out 0).trans rfl, (blk_cell BK168.out 1).trans rfl, (blk_cell BK168.out 2).trans rfl, (blk_cell BK168.out 3).trans rfl, (blk_cell BK168.out 4).trans rfl, (blk_cell BK168.out 5).trans rfl, ((HB.out.cell (World.block_lt_of_cell? w _ hw170_0)).trans hw170_0), ((HB.out.cell (World.block_lt_of_cell? w _ hw170_1)).trans hw170_1), ((HB.out.cell (World.block_lt_of_cell? w _ hw170_2)).trans hw170_2), ((HB.out.cell (World.block_lt_of_cell? w _ hw170_3)).trans hw170_3), ((HB.out.cell (World.block_lt_of_cell? w _ hw170_4)).trans hw170_4), ((HB.out.cell (World.block_lt_of_cell? w _ hw170_5)).trans hw170_5)⟩ (fun hHeld => ?_)
      clear hK K
      refine nm_ 24 ?_
      refine pv_ 49 3 25 15 rfl rfl HT_ ?_; refine pv_ 49 4 26 31 rfl rfl HT_ ?_; refine pv_ 49 5 27 63 rfl rfl HT_ ?_; refine pv_ 49 6 28 127 rfl rfl HT_ ?_; refine pv_ 49 7 29 255 rfl rfl HT_ ?_; refine pv_ 49 8 30 511 rfl rfl HT_ ?_; refine pv_ 49 10 32 1535 rfl rfl HT_ ?_; refine pv_ 49 11 33 3583 rfl rfl HT_ ?_; refine pv_ 49 12 34 7679 rfl rfl HT_ ?_; refine pv_ 49 13 35 15871 rfl rfl HT_ ?_; refine pv_ 49 14 36 32255 rfl rfl HT_ ?_
      refine tv_ 49 9 31 32767 rfl rfl HT_ HW_ hHeld (by rintro w' ⟨s0, s1, s2, s3, s4, s5, s6, s7, s8, s9, s10, s11⟩; go_simp; with_reducible rfl) ?_
      refine tv_ 49 15 37 65535 rfl rfl HT_ HW_ hHeld (by rintro w' ⟨s0, s1, s2, s3, s4, s5, s6, s7, s8, s9, s10, s11⟩; go_simp; with_reducible rfl) ?_
      refine pv_ 49 16 38 131071 rfl rfl HT_ ?_; refine pv_ 49 17 39 262143 rfl rfl HT_ ?_; refine pv_ 49 18 40 524287 rfl rfl HT_ ?_; refine pv_ 49 19 41 1048575 rfl rfl HT_ ?_; refine pv_ 49 20 42 2097151 rfl rfl HT_ ?_
      refine tv_ 49 21 43 4194303 rfl rfl HT_ HW_ hHeld (by rintro w' ⟨s0, s1, s2, s3, s4, s5, s6, s7, s8, s9, s10, s11⟩; go_simp; with_reducible rfl) ?_
      refine one_ (i := 22) (N := some 44) (bv 49 8388607) rfl rfl (one_of HT_.out (by kernel_rfl)) (by decide) (fun K hK => ?_)
      refine goes_ Try.func61 (by kernel_rfl) rfl #[.int .i64 ((rd_T61 l0 x14_1).f1), .int .i64 1, .int .i64 99] (by rfl) rfl rfl (by (try simp only [List.map_toArray, List.map_cons, List.map_nil]); first | done | rfl | (simp only [List.length_drop, List.length_take]; rfl)) ?_
      with_reducible refine (impl_InRange.calls ((rd_T61 l0 x14_1).f1) 1 99 true _ A18.out).mono ?_
      rintro e w' ⟨rfl, ⟨nd, rfl⟩⟩
      refine ⟨_, rfl, ?_⟩
      refine hK.out _ _ ⟨(blk_cell BK168.out 0).trans rfl, (blk_cell BK168.out 1).trans rfl, (blk_cell BK168.out 2).trans rfl, (blk_cell BK168.out 3).trans rfl, (blk_cell BK168.out 4).trans rfl, (blk_cell BK168.out 5).trans rfl, ((HB.out.cell (World.block_lt_of_cell? w _ hw170_0)).trans hw170_0), ((HB.out.cell (World.block_lt_of_cell? w _ hw170_1)).trans hw170_1), ((HB.out.cell (World.block_lt_of_cell? w _ hw170_2)).trans hw170_2), ((HB.out.cell (World.block_lt_of_cell? w _ hw170_3)).trans hw170_3), ((HB.out.cell (World.block_lt_of_cell? w _ hw170_4)).trans hw170_4), ((HB.out.cell (World.block_lt_of_cell? w _ hw170_5)).trans hw170_5)⟩ (fun hHeld => ?_)
      clear hK K
      refine nm_ 44 ?_
      refine pv_ 49 23 45 16777215 rfl rfl HT_ ?_; refine pv_ 49 24 46 33554431 rfl rfl HT_ ?_; refine pv_ 49 25 47 67108863 rfl rfl HT_ ?_; refine pv_ 49 26 48 134217727 rfl rfl HT_ ?_; refine pv_ 49 27 49 268435455 rfl rfl HT_ ?_; refine pv_ 49 28 50 536870911 rfl rfl HT_ ?_; refine pv_ 49 29 51 1073741823 rfl rfl HT_ ?_; refine pu_ 49 30 52 2147483647 rfl rfl HT_ ?_; refine pu_ 49 31 53 4294967295 rfl rfl HT_ ?_; refine pu_ 49 32 54 8589934591 rfl rfl HT_ ?_; refine pu_ 49 33 55 17179869183 rfl rfl HT_ ?_; refine pu_ 49 34 56 34359738367 rfl rfl HT_ ?_; refine pv_ 49 35 57 68719476735 rfl rfl HT_ ?_; refine pv_ 49 36 58 137438953471 rfl rfl HT_ ?_; refine pu_ 49 37 59 274877906943 rfl rfl HT_ ?_; refine pu_ 49 38 60 549755813887 rfl rfl HT_ ?_; refine pu_ 49 39 61 1099511627775 rfl rfl HT_ ?_; refine pu_ 49 40 62 2199023255551 rfl rfl HT_ ?_; refine pu_ 49 41 63 4398046511103 rfl rfl HT_ ?_
      refine pv_ 49 42 64 8796093022207 rfl rfl HT_ ?_; refine pv_ 49 43 65 17592186044415 rfl rfl HT_ ?_; refine pu_ 49 44 66 35184372088831 rfl rfl HT_ ?_; refine pu_ 49 45 67 70368744177663 rfl rfl HT_ ?_; refine pu_ 49 46 68 140737488355327 rfl rfl HT_ ?_; refine pu_ 49 47 69 281474976710655 rfl rfl HT_ ?_; refine pv_ 49 48 70 562949953421311 rfl rfl HT_ ?_
      refine done_ (done_of HT_.out (by kernel_rfl)) ?_
      try go_wp2
      go_meet
      case rel => exact ⟨_, (true), (by first | rfl | (simp; done) | (simp [*]; done)), H', ⟨by have := HK1.out; first | omega | exact Nat.le_refl _⟩, ⟨by (with_reducible repeat (first | refine blk_drewN ?_ _ | refine blk_drew ?_ | refine blk_alloc ?_ _)); exact BK168.out⟩, ⟨by repeat (first | (with_reducible first | exact HB.out | apply below_alloc | apply pw_below_drewN | apply below_drew1 | refine below_set ?_ GE168.out) | exact HB.out)⟩⟩
     rw [if_pos c15] at H
     have c15b0 : decide (((rd_T61 l0 x14_1).f0) ≤ ((rd_T61 l0 (ji12)).f0)) = true := decide_eq_true c15
     clear c15
     have H' := Aside0.mk H
     clear H
     try go_wp2
     have n0_ : Aside0 (((((((w7.setCell ⟨gb168, 0, none⟩ (.int .i64 ((rd_T61 l0 x14_1).f0))).setCell ⟨gb168, 1, none⟩ (.int .i64 ((rd_T61 l0 x14_1).f1))).setCell ⟨gb168, 2, none⟩ (.int .i64 ((rd_T61 l0 x14_1).f2))).setCell ⟨gb168, 3, none⟩ (.int .i64 ((rd_T61 l0 x14_1).f3))).setCell ⟨gb168, 4, none⟩ (.int .i64 ((rd_T61 l0 x14_1).f4))).setCell ⟨gb168, 5, none⟩ (.slice A167_5 ((rd_T61 l0 x14_1).f5).length c167_5)).heap[gb168]? = some (.cells #[.int .i64 ((rd_T61 l0 x14_1).f0), .int .i64 ((rd_T61 l0 x14_1).f1), .int .i64 ((rd_T61 l0 x14_1).f2), .int .i64 ((rd_T61 l0 x14_1).f3), .int .i64 ((rd_T61 l0 x14_1).f4), .slice A167_5 ((rd_T61 l0 x14_1).f5).length c167_5] 61 (0, 0))) := ⟨by (with_reducible repeat (first | refine blk_drewN ?_ _ | refine blk_drew ?_ | refine blk_alloc ?_ _)); refine blk_put (cs := #[.int .i64 ((rd_T61 l0 x14_1).f0), .int .i64 ((rd_T61 l0 x14_1).f1), .int .i64 ((rd_T61 l0 x14_1).f2), .int .i64 ((rd_T61 l0 x14_1).f3), .int .i64 ((rd_T61 l0 x14_1).f4), .slice none 0 0]) ?_ 5 _ rfl; (with_reducible repeat (first | refine blk_drewN ?_ _ | refine blk_drew ?_ | refine blk_alloc ?_ _)); refine blk_put (cs := #[.int .i64 ((rd_T61 l0 x14_1).f0), .int .i64 ((rd_T61 l0 x14_1).f1), .int .i64 ((rd_T61 l0 x14_1).f2), .int .i64 ((rd_T61 l0 x14_1).f3), .int .i64 0, .slice none 0 0]) ?_ 4 _ rfl; (with_reducible repeat (first | refine blk_drewN ?_ _ | refine blk_drew ?_ | refine blk_alloc ?_ _)); refine blk_put (cs := #[.int .i64 ((rd_T61 l0 x14_1).f0), .int .i64 ((rd_T61 l0 x14_1).f1), .int .i64 ((rd_T61 l0 x14_1).f2), .int .i64 0, .int .i64 0, .slice none 0 0]) ?_ 3 _ rfl; (with_reducible repeat (first | refine blk_drewN ?_ _ | refine blk_drew ?_ | refine blk_alloc ?_ _)); refine blk_put (cs := #[.int .i64 ((rd_T61 l0 x14_1).f0), .int .i64 ((rd_T61 l0 x14_1).f1), .int .i64 0, .int .i64 0, .int .i64 0, .slice none 0 0]) ?_ 2 _ rfl; (with_reducible repeat (first | refine blk_drewN ?_ _ | refine blk_drew ?_ | refine blk_alloc ?_ _)); refine blk_put (cs := #[.int .i64 ((rd_T61 l0 x14_1).f0), .int .i64 0, .int .i64 0, .int .i64 0, .int .i64 0, .slice none 0 0]) ?_ 1 _ rfl; (with_reducible repeat (first | refine blk_drewN ?_ _ | refine blk_drew ?_ | refine blk_alloc ?_ _)); refine blk_put (cs := #[.int .i64 0, .int .i64 0, .int .i64 0, .int .i64 0, .int .i64 0, .slice none 0 0]) ?_ 0 _ rfl; (with_reducible repeat (first | refine blk_drewN ?_ _ | refine blk_drew ?_ | refine blk_alloc ?_ _)); exact BK168.out⟩
     have n1_ : Aside0 (Below w.heap.size w ((((((w7.setCell ⟨gb168, 0, none⟩ (.int .i64 ((rd_T61 l0 x14_1).f0))).setCell ⟨gb168, 1, none⟩ (.int .i64 ((rd_T61 l0 x14_1).f1))).setCell ⟨gb168, 2, none⟩ (.int .i64 ((rd_T61 l0 x14_1).f2))).setCell ⟨gb168, 3, none⟩ (.int .i64 ((rd_T61 l0 x14_1).f3))).setCell ⟨gb168, 4, none⟩ (.int .i64 ((rd_T61 l0 x14_1).f4))).setCell ⟨gb168, 5, none⟩ (.slice A167_5 ((rd_T61 l0 x14_1).f5).length c167_5))) := ⟨by repeat (first | (with_reducible first | exact HB.out | apply below_alloc | apply pw_below_drewN | apply below_drew1 | refine below_set ?_ GE168.out) | exact HB.out)⟩
     (try clear BK168)
     (try clear HB)
     generalize ((((((w7.setCell ⟨gb168, 0, none⟩ (.int .i64 ((rd_T61 l0 x14_1).f0))).setCell ⟨gb168, 1, none⟩ (.int .i64 ((rd_T61 l0 x14_1).f1))).setCell ⟨gb168, 2, none⟩ (.int .i64 ((rd_T61 l0 x14_1).f2))).setCell ⟨gb168, 3, none⟩ (.int .i64 ((rd_T61 l0 x14_1).f3))).setCell ⟨gb168, 4, none⟩ (.int .i64 ((rd_T61 l0 x14_1).f4))).setCell ⟨gb168, 5, none⟩ (.slice A167_5 ((rd_T61 l0 x14_1).f5).length c167_5)) = w16 at n0_ n1_ ⊢
     have BK168 := n0_
     have HB := n1_
     clear n0_ n1_
     have n0_ := Aside0.mk (blk_drew BK168.out)
     have n1_ := Aside0.mk (below_drew1 HB.out)
     clear BK168
     clear HB
     have BK168 := n0_
     have HB := n1_
     clear n0_ n1_
     have p170 : 0 ≤ ((ji12) : Int) := of_decide_eq_true (by first | (with_reducible assumption) | assumption)
     have q170 : (ji12) < (l0.length : Int) := of_decide_eq_true (by first | (with_reducible assumption) | assumption)
     obtain ⟨ad170, A170_5, c170_5, e170, hx170_0, hx170_1, hx170_2, hx170_3, hx170_4, hx170_5, hl170_5, hi170_5⟩ := at_T61 HR0.out (ji12) p170 q170
     have hw170_5 := hx170_5
     have hw170_4 := hx170_4
     have hw170_3 := hx170_3
     have hw170_2 := hx170_2
     have hw170_1 := hx170_1
     have hw170_0 := hx170_0
     obtain rfl : ad167 = ad170 := (by injection e170)
     replace hx170_0 := (HB.out.cell (World.block_lt_of_cell? w _ hx170_0)).trans hx170_0
     replace hx170_1 := (HB.out.cell (World.block_lt_of_cell? w _ hx170_1)).trans hx170_1
     replace hx170_2 := (HB.out.cell (World.block_lt_of_cell? w _ hx170_2)).trans hx170_2
     replace hx170_3 := (HB.out.cell (World.block_lt_of_cell? w _ hx170_3)).trans hx170_3
     replace hx170_4 := (HB.out.cell (World.block_lt_of_cell? w _ hx170_4)).trans hx170_4
     replace hx170_5 := (HB.out.cell (World.block_lt_of_cell? w _ hx170_5)).trans hx170_5
     have HR170_5 := Aside0.mk hi170_5
     have HC170_5 := Aside0.mk hl170_5
     clear hi170_5 hl170_5
     replace p170 := eq_true p170
     replace q170 := eq_true q170
     refine start_ (n := 49) (S := fun w' => w'.cell? ⟨gb168, 0, none⟩ = some (.int .i64 ((rd_T61 l0 x14_1).f0)) ∧ w'.cell? ⟨gb168, 1, none⟩ = some (.int .i64 ((rd_T61 l0 x14_1).f1)) ∧ w'.cell? ⟨gb168, 2, none⟩ = some (.int .i64 ((rd_T61 l0 x14_1).f2)) ∧ w'.cell? ⟨gb168, 3, none⟩ = some (.int .i64 ((rd_T61 l0 x14_1).f3)) ∧ w'.cell? ⟨gb168, 4, none⟩ = some (.int .i64 ((rd_T61 l0 x14_1).f4)) ∧ w'.cell? ⟨gb168, 5, none⟩ = some (.slice A167_5 ((rd_T61 l0 x14_1).f5).length c167_5) ∧ w'.cell? (ad167.add (((ji12)).toNat * 6)) = some (.int .i64 ((rd_T61 l0 (ji12)).f0)) ∧ w'.cell? ⟨(ad167.add (((ji12)).toNat * 6)).block, (ad167.add (((ji12)).toNat * 6)).off + 1, none⟩ = some (.int .i64 ((rd_T61 l0 (ji12)).f1)) ∧ w'.cell? ⟨(ad167.add (((ji12)).toNat * 6)).block, (ad167.add (((ji12)).toNat * 6)).off + 2, none⟩ = some (.int .i64 ((rd_T61 l0 (ji12)).f2)) ∧ w'.cell? ⟨(ad167.add (((ji12)).toNat * 6)).block, (ad167.add (((ji12)).toNat * 6)).off + 3, none⟩ = some (.int .i64 ((rd_T61 l0 (ji12)).f3)) ∧ w'.cell? ⟨(ad167.add (((ji12)).toNat * 6)).block, (ad167.add (((ji12)).toNat * 6)).off + 4, none⟩ = some (.int .i64 ((rd_T61 l0 (ji12)).f4)) ∧ w'.cell? ⟨(ad167.add (((ji12)).toNat * 6)).block, (ad167.add (((ji12)).toNat * 6)).off + 5, none⟩ = some (.slice A170_5 ((rd_T61 l0 (ji12)).f5).length c170_5)) (ds := []) (bv 49 0) (by kernel_rfl) rfl rfl ⟨(blk_cell BK168.out 0).trans rfl, (blk_cell BK168.out 1).trans rfl, (blk_cell BK168.out 2).trans rfl, (blk_cell BK168.out 3).trans rfl, (blk_cell BK168.out 4).trans rfl, (blk_cell BK168.out 5).trans rfl, ((HB.out.cell (World.block_lt_of_cell? w _ hw170_0)).trans hw170_0), ((HB.out.cell (World.block_lt_of_cell? w _ hw170_1)).trans hw170_1), ((HB.out.cell (World.block_lt_of_cell? w _ hw170_2)).trans hw170_2), ((HB.out.cell (World.block_lt_of_cell? w _ hw170_3)).trans hw170_3), ((HB.out.cell (World.block_lt_of_cell? w _ hw170_4)).trans hw170_4), ((HB.out.cell (World.block_lt_of_cell? w _ hw170_5)).trans hw170_5)⟩ (fun hHeld => ?_); refine with_tabW impl_AreTeams.tab7 impl_AreTeams.bits7 (fun HT_ HW_ => ?_)
     generalize w16.drew = w17 at BK168 HB HR170_5 hx170_0 hx170_1 hx170_2 hx170_3 hx170_4 hx170_5 hHeld ⊢
     refine pv_ 49 0 22 1 rfl rfl HT_ ?_
     refine tv_ 49 1 23 3 rfl rfl HT_ HW_ hHeld (by rintro w' ⟨s0, s1, s2, s3, s4, s5, s6, s7, s8, s9, s10, s11⟩; go_simp; with_reducible rfl) ?_
     refine one_ (i := 2) (N := some 24) (bv 49 7) rfl rfl (one_of HT_.out (by kernel_rfl)) (by decide) (fun K hK => ?_)
     refine goes_ Try.func61 (by kernel_rfl) rfl #[.int .i64 ((rd_T61 l0 x14_1).f0), .int .i64 1, .int .i64 99] (by rfl) rfl rfl (by (try simp only [List.map_toArray, List.map_cons, List.map_nil]); first | done | rfl | (simp only [List.length_drop, List.length_take]; rfl)) ?_
     with_reducible refine (impl_InRange.calls ((rd_T61 l0 x14_1).f0) 1 99 true _ A9.out).mono ?_
     rintro e w' ⟨rfl, ⟨nd, rfl⟩⟩
     refine ⟨_, rfl, ?_⟩
     refine hK.out _ _ ⟨(blk_cell BK168.out 0).trans rfl, (blk_cell BK168.out 1).trans rfl, (blk_cell BK168.out 2).trans rfl, (blk_cell BK168.out 3).trans rfl, (blk_cell BK168.out 4).trans rfl, (blk_cell BK168.out 5).trans rfl, ((HB.out.cell (World.block_lt_of_cell? w _ hw170_0)).trans hw170_0), ((HB.out.cell (World.block_lt_of_cell? w _ hw170_1)).trans hw170_1), ((HB.out.cell (World.block_lt_of_cell? w _ hw170_2)).trans hw170_2), ((HB.out.cell (World.block_lt_of_cell? w _ hw170_3)).trans hw170_3), ((HB.out.cell (World.block_lt_of_cell? w _ hw170_4)).trans hw170_4), ((HB.out.cell (World.block_lt_of_cell? w _ hw170_5)).trans hw170_5)⟩ (fun hHeld => ?_)
     clear hK K
     refine nm_ 24 ?_
     refine pv_ 49 3 25 15 rfl rfl HT_ ?_; refine pv_ 49 4 26 31 rfl rfl HT_ ?_; refine pv_ 49 5 27 63 rfl rfl HT_ ?_; refine pv_ 49 6 28 127 rfl rfl HT_ ?_; refine pv_ 49 7 29 255 rfl rfl HT_ ?_; refine pv_ 49 8 30 511 rfl rfl HT_ ?_; refine pv_ 49 10 32 1535 rfl rfl HT_ ?_; refine pv_ 49 11 33 3583 rfl rfl HT_ ?_; refine pv_ 49 12 34 7679 rfl rfl HT_ ?_; refine pv_ 49 13 35 15871 rfl rfl HT_ ?_; refine pv_ 49 14 36 32255 rfl rfl HT_ ?_
     refine tv_ 49 9 31 32767 rfl rfl HT_ HW_ hHeld (by rintro w' ⟨s0, s1, s2, s3, s4, s5, s6, s7, s8, s9, s10, s11⟩; go_simp; with_reducible rfl) ?_
     refine tv_ 49 15 37 65535 rfl rfl HT_ HW_ hHeld (by rintro w' ⟨s0, s1, s2, s3, s4, s5, s6, s7, s8, s9, s10, s11⟩; go_simp; with_reducible rfl) ?_
     refine pv_ 49 16 38 131071 rfl rfl HT_ ?_; refine pv_ 49 17 39 262143 rfl rfl HT_ ?_; refine pv_ 49 18 40 524287 rfl rfl HT_ ?_; refine pv_ 49 19 41 1048575 rfl rfl HT_ ?_; refine pu_ 49 20 42 2097151 rfl rfl HT_ ?_; refine pu_ 49 21 43 4194303 rfl rfl HT_ ?_; refine pu_ 49 22 44 8388607 rfl rfl HT_ ?_; refine pu_ 49 23 45 16777215 rfl rfl HT_ ?_; refine pv_ 49 24 46 33554431 rfl rfl HT_ ?_; refine pv_ 49 25 47 67108863 rfl rfl HT_ ?_; refine pu_ 49 26 48 134217727 rfl rfl HT_ ?_; refine pu_ 49 27 49 268435455 rfl rfl HT_ ?_; refine pv_ 49 28 50 536870911 rfl rfl HT_ ?_; refine pv_ 49 29 51 1073741823 rfl rfl HT_ ?_; refine pu_ 49 30 52 2147483647 rfl rfl HT_ ?_; refine pu_ 49 31 53 4294967295 rfl rfl HT_ ?_; refine pu_ 49 32 54 8589934591 rfl rfl HT_ ?_; refine pu_ 49 33 55 17179869183 rfl rfl HT_ ?_; refine pu_ 49 34 56 34359738367 rfl rfl HT_ ?_; refine pv_ 49 35 57 68719476735 rfl rfl HT_ ?_
     refine pv_ 49 36 58 137438953471 rfl rfl HT_ ?_; refine pu_ 49 37 59 274877906943 rfl rfl HT_ ?_; refine pu_ 49 38 60 549755813887 rfl rfl HT_ ?_; refine pu_ 49 39 61 1099511627775 rfl rfl HT_ ?_; refine pu_ 49 40 62 2199023255551 rfl rfl HT_ ?_; refine pu_ 49 41 63 4398046511103 rfl rfl HT_ ?_; refine pv_ 49 42 64 8796093022207 rfl rfl HT_ ?_; refine pv_ 49 43 65 17592186044415 rfl rfl HT_ ?_; refine pu_ 49 44 66 35184372088831 rfl rfl HT_ ?_; refine pu_ 49 45 67 70368744177663 rfl rfl HT_ ?_; refine pu_ 49 46 68 140737488355327 rfl rfl HT_ ?_; refine pu_ 49 47 69 281474976710655 rfl rfl HT_ ?_; refine pv_ 49 48 70 562949953421311 rfl rfl HT_ ?_
     refine done_ (done_of HT_.out (by kernel_rfl)) ?_
     try go_wp2
     go_meet
     case rel => exact ⟨_, (true), (by first | rfl | (simp; done) | (simp [*]; done)), H', ⟨by have := HK1.out; first | omega | exact Nat.le_refl _⟩, ⟨by (with_reducible repeat (first | refine blk_drewN ?_ _ | refine blk_drew ?_ | refine blk_alloc ?_ _)); exact BK168.out⟩, ⟨by repeat (first | (with_reducible first | exact HB.out | apply below_alloc | apply pw_below_drewN | apply below_drew1 | refine below_set ?_ GE168.out) | exact HB.out)⟩⟩
    case rest =>
     clear HC6
     try clear c1
     try clear p2
     try clear c6
     try clear c10
     try clear c16
     obtain ⟨kq, x70_5, rfl, HA, HJ5, BK168, HB⟩ := hcut
     cases kq with
     | zero => exact absurd HA.out (by simp [impl_AreTeams.j1])
     | succ kj5 =>
      have H := HA.out
      clear HA
      simp only [impl_AreTeams.j1] at H
      by_cases c56 : x70_5 = true
      rotate_left
      ·
       replace c56 := Bool.eq_false_iff.mpr c56
       subst c56
       have H1 : (impl_AreTeams.l1 kj5 l0 l0 (l0.length : Int) x14_1 ((rd_T61 l0 x14_1).f5) (((rd_T61 l0 x14_1).f5).length : Int) 0 ((rd_T61 l0 x14_1).f0) ((rd_T61 l0 x14_1).f1) ((rd_T61 l0 x14_1).f2) ((rd_T61 l0 x14_1).f3) ((rd_T61 l0 x14_1).f4) ((rd_T61 l0 x14_1).f5)) = some r := by rw [if_neg (show ¬ (false = true) by decide)] at H; exact H
       clear H
       have H := H1
       clear H1
       have H' := Aside0.mk H
       clear H
       have hcz57_0 : wc.cell? ⟨gb168, 0, none⟩ = some (.int .i64 ((rd_T61 l0 x14_1).f0)) := (blk_cell BK168.out 0).trans rfl
       have hcz57_1 : wc.cell? ⟨gb168, 1, none⟩ = some (.int .i64 ((rd_T61 l0 x14_1).f1)) := (blk_cell BK168.out 1).trans rfl
       have hcz57_2 : wc.cell? ⟨gb168, 2, none⟩ = some (.int .i64 ((rd_T61 l0 x14_1).f2)) := (blk_cell BK168.out 2).trans rfl
       have hcz57_3 : wc.cell? ⟨gb168, 3, none⟩ = some (.int .i64 ((rd_T61 l0 x14_1).f3)) := (blk_cell BK168.out 3).trans rfl
       have hcz57_4 : wc.cell? ⟨gb168, 4, none⟩ = some (.int .i64 ((rd_T61 l0 x14_1).f4)) := (blk_cell BK168.out 4).trans rfl
       have hcz57_5 : wc.cell? ⟨gb168, 5, none⟩ = some (.slice A167_5 ((rd_T61 l0 x14_1).f5).length c167_5) := (blk_cell BK168.out 5).trans rfl
       have hfz57_0 := blk_frozen BK168.out 0
       have hfz57_1 := blk_frozen BK168.out 1
       have hfz57_2 := blk_frozen BK168.out 2
       have hfz57_3 := blk_frozen BK168.out 3
       have hfz57_4 := blk_frozen BK168.out 4
       have hfz57_5 := blk_frozen BK168.out 5
       go_wp2
       go_loopg [74] kj5 (fun kq v74 w' => ∃ (x74_3 : Int), v74 = .int .i64 x74_3 ∧ Aside0 (impl_AreTeams.l1 kq l0 l0 (l0.length : Int) x14_1 ((rd_T61 l0 x14_1).f5) (((rd_T61 l0 x14_1).f5).length : Int) x74_3 ((rd_T61 l0 x14_1).f0) ((rd_T61 l0 x14_1).f1) ((rd_T61 l0 x14_1).f2) ((rd_T61 l0 x14_1).f3) ((rd_T61 l0 x14_1).f4) ((rd_T61 l0 x14_1).f5) = some r) ∧ Aside0 (kq ≤ kj5) ∧ Aside0 (w'.heap[gb168]? = some (.cells #[.int .i64 ((rd_T61 l0 x14_1).f0), .int .i64 ((rd_T61 l0 x14_1).f1), .int .i64 ((rd_T61 l0 x14_1).f2), .int .i64 ((rd_T61 l0 x14_1).f3), .int .i64 ((rd_T61 l0 x14_1).f4), (.slice A167_5 ((rd_T61 l0 x14_1).f5).length c167_5)] 61 (0, 0))) ∧ Aside0 (Below w.heap.size w w'))
       case atStart => exact ⟨(0), (by first | rfl | (simp; done) | (simp [*]; done)), H', ⟨Nat.le_refl _⟩, ⟨by (with_reducible repeat (first | refine blk_drewN ?_ _ | refine blk_drew ?_ | refine blk_alloc ?_ _)); exact BK168.out⟩, ⟨by repeat (first | (with_reducible first | exact HB.out | apply below_alloc | apply pw_below_drewN | apply below_drew1 | refine below_set ?_ GE168.out) | exact HB.out)⟩⟩
       case round =>
        clear H'
        try clear c1
        try clear p2
        try clear c5
        try clear c6
        try clear c10
        try clear c16
        try clear c56
        try clear hcz57_0
        try clear hcz57_1
        try clear hcz57_2
        try clear hcz57_3
        try clear hcz57_4
        try clear hcz57_5
        try clear hfz57_0
        try clear hfz57_1
        try clear hfz57_2
        try clear hfz57_3
        try clear hfz57_4
        try clear hfz57_5
        try clear p2
        obtain ⟨x74_3, rfl, HA, HK3, BK168, HB⟩ := hrel
        cases gk with
        | zero => exact absurd HA.out (by simp [impl_AreTeams.l1])
        | succ k3 =>
         have H := HA.out
         clear HA
         simp only [impl_AreTeams.l1] at H
         by_cases c58 : x74_3 < (((rd_T61 l0 x14_1).f5).length : Int)
         rotate_left
         ·
          rw [if_neg c58] at H
          have c58b0 : decide (x74_3 < (((rd_T61 l0 x14_1).f5).length : Int)) = false := decide_eq_false c58
          clear c58
          have H' := Aside0.mk H
          clear H
          go_wp2
          go_roundg k3
          case measure => have := HK1.out; have := HJ5.out; have := HK3.out; omega
          case rel => exact ⟨(wrap64 (x14_1 + 1)), (by first | rfl | (simp; done) | (simp [*]; done)), H', ⟨by have := HK1.out; have := HJ5.out; have := HK3.out; omega⟩, ⟨by repeat (first | (with_reducible first | exact HB.out | apply below_alloc | apply pw_below_drewN | apply below_drew1 | refine below_set ?_ GE168.out) | exact HB.out)⟩⟩
         rw [if_pos c58] at H
         have c58b0 : decide (x74_3 < (((rd_T61 l0 x14_1).f5).length : Int)) = true := decide_eq_true c58
         clear c58
         by_cases c59 : 0 ≤ x74_3
         rotate_left
         ·
          rw [if_neg c59] at H
          exact absurd H (by simp)
         rw [if_pos c59] at H
         have c59b0 : decide (0 ≤ x74_3) = true := decide_eq_true c59
         clear c59
         by_cases c60 : x74_3 < (((rd_T61 l0 x14_1).f5).length : Int)
         rotate_left
         ·
          rw [if_neg c60] at H
          exact absurd H (by simp)
         rw [if_pos c60] at H
         have c60b0 : decide (x74_3 < (((rd_T61 l0 x14_1).f5).length : Int)) = true := decide_eq_true c60
         clear c60
         replace H := Option.bind_eq_some_iff.mp H
         obtain ⟨t180, A610, H⟩ := H
         replace H : (if t180 < 0 then (some false) else (if (rd ((rd_T61 l0 x14_1).f5) x74_3) = ((rd_T61 l0 x14_1).f0) then (some false) else ((impl_times.f k3 ((rd_T61 l0 x14_1).f5) (rd ((rd_T61 l0 x14_1).f5) x74_3)).bind fun t181 => (if 0 ≤ t180 then (if t180 < (l0.length : Int) then ((impl_times.f k3 ((rd_T61 l0 t180).f5) ((rd_T61 l0 x14_1).f0)).bind fun t183 => (if t181 = t183 then (impl_AreTeams.l1 k3 l0 l0 (l0.length : Int) x14_1 ((rd_T61 l0 x14_1).f5) (((rd_T61 l0 x14_1).f5).length : Int) (wrap64 (x74_3 + 1)) ((rd_T61 l0 x14_1).f0) ((rd_T61 l0 x14_1).f1) ((rd_T61 l0 x14_1).f2) ((rd_T61 l0 x14_1).f3) ((rd_T61 l0 x14_1).f4) ((rd_T61 l0 x14_1).f5)) else (some false))) else (none)) else (none))))) = some r := H
         have A61 := Aside0.mk A610
         clear A610
         by_cases c62 : t180 < 0
         rotate_left
         ·
          rw [if_neg c62] at H
          have c62b0 : decide (t180 < 0) = false := decide_eq_false c62
          clear c62
          by_cases c65 : (rd ((rd_T61 l0 x14_1).f5) x74_3) = ((rd_T61 l0 x14_1).f0)
          rotate_left
          ·
           rw [if_neg c65] at H
           have c65b0 : ((rd ((rd_T61 l0 x14_1).f5) x74_3) == ((rd_T61 l0 x14_1).f0)) = false := beq_eq_false_iff_ne.mpr c65
           have c65b1 : ((rd ((rd_T61 l0 x14_1).f5) x74_3) != ((rd_T61 l0 x14_1).f0)) = true := bne_iff_ne.mpr c65
           replace H := Option.bind_eq_some_iff.mp H
           obtain ⟨t181, A680, H⟩ := H
           replace H : (if 0 ≤ t180 then (if t180 < (l0.length : Int) then ((impl_times.f k3 ((rd_T61 l0 t180).f5) ((rd_T61 l0 x14_1).f0)).bind fun t183 => (if t181 = t183 then (impl_AreTeams.l1 k3 l0 l0 (l0.length : Int) x14_1 ((rd_T61 l0 x14_1).f5) (((rd_T61 l0 x14_1).f5).length : Int) (wrap64 (x74_3 + 1)) ((rd_T61 l0 x14_1).f0) ((rd_T61 l0 x14_1).f1) ((rd_T61 l0 x14_1).f2) ((rd_T61 l0 x14_1).f3) ((rd_T61 l0 x14_1).f4) ((rd_T61 l0 x14_1).f5)) else (some false))) else (none)) else (none)) = some r := H
           have A68 := Aside0.mk A680
           clear A680
           by_cases c69 : 0 ≤ t180
           rotate_left
           ·
            rw [if_neg c69] at H
            exact absurd H (by simp)
           rw [if_pos c69] at H
           have c69b0 : decide (0 ≤ t180) = true := decide_eq_true c69
           clear c69
           by_cases c70 : t180 < (l0.length : Int)
           rotate_left
           ·
            rw [if_neg c70] at H
            exact absurd H (by simp)
           rw [if_pos c70] at H
           have c70b0 : decide (t180 < (l0.length : Int)) = true := decide_eq_true c70
           clear c70
           replace H := Option.bind_eq_some_iff.mp H
           obtain ⟨t183, A710, H⟩ := H
           replace H : (if t181 = t183 then (impl_AreTeams.l1 k3 l0 l0 (l0.length : Int) x14_1 ((rd_T61 l0 x14_1).f5) (((rd_T61 l0 x14_1).f5).length : Int) (wrap64 (x74_3 + 1)) ((rd_T61 l0 x14_1).f0) ((rd_T61 l0 x14_1).f1) ((rd_T61 l0 x14_1).f2) ((rd_T61 l0 x14_1).f3) ((rd_T61 l0 x14_1).f4) ((rd_T61 l0 x14_1).f5)) else (some false)) = some r := H
           have A71 := Aside0.mk A710
           clear A710
           by_cases c72 : t181 = t183
           rotate_left
           ·
            rw [if_neg c72] at H
            have c72b0 : (t181 == t183) = false := beq_eq_false_iff_ne.mpr c72
            have c72b1 : (t181 != t183) = true := bne_iff_ne.mpr c72
            obtain rfl := Option.some.inj H
            have p179 : 0 ≤ (x74_3 : Int) := of_decide_eq_true (by first | (with_reducible assumption) | assumption)
            have q179 : x74_3 < (((rd_T61 l0 x14_1).f5).length : Int) := of_decide_eq_true (by first | (with_reducible assumption) | assumption)
            obtain ⟨ad179, e179, hx179_0⟩ := Kd.at_int HR167_5.out x74_3 p179 q179
            cases e179
            replace hx179_0 := (HB.out.cell (World.block_lt_of_cell? w _ hx179_0)).trans hx179_0
            replace p179 := eq_true p179
            replace q179 := eq_true q179
            try go_wp2_with (first | ((with_reducible refine gate_callee (f := 18) rfl ?_); refine goesL_ (some 80) rfl rfl Try.func18 (by kernel_rfl) rfl #[.slice (some ad167) l0.length c0, .int .i64 (rd ((rd_T61 l0 x14_1).f5) x74_3)] rfl (by (try simp only [List.map_toArray, List.map_cons, List.map_nil]); first | done | rfl | (simp only [List.length_drop, List.length_take]; rfl)) ?_; (with_reducible refine (impl_FindTeam.calls _ _ l0 (rd ((rd_T61 l0 x14_1).f5) x74_3) t180 _ ?side1 ?side2 A61.out).mono ?_); (case side1 => repeat (first | exact (Kd.C_below HR0.out HB.out) | (with_reducible refine Kd.C_alloc ?_ _) | (with_reducible refine Kd.C_drewN ?_ _) | (with_reducible refine Kd.C_drew ?_))); (case side2 => exact HC0.out); rintro e w75 ⟨rfl, hb⟩; refine ⟨_, rfl, ?_⟩; have n0_ := Aside0.mk (blk_below (g := gb168) (o := .cells #[.int .i64 ((rd_T61 l0 x14_1).f0), .int .i64 ((rd_T61 l0 x14_1).f1), .int .i64 ((rd_T61 l0 x14_1).f2), .int .i64 ((rd_T61 l0 x14_1).f3), .int .i64 ((rd_T61 l0 x14_1).f4), .slice (some ad179) ((rd_T61 l0 x14_1).f5).length c167_5] 61 (0, 0)) (by (with_reducible repeat (first | refine blk_drewN ?_ _ | refine blk_drew ?_ | refine blk_alloc ?_ _)); exact BK168.out) hb); have n1_ := Aside0.mk (below_step (by repeat (first | (with_reducible first | exact HB.out | apply below_alloc | apply pw_below_drewN | apply below_drew1 | refine below_set ?_ GE168.out) | exact HB.out)) hb); clear BK168; clear HB; have BK168 := n0_; have HB := n1_; clear n0_ n1_; (try clear hb); (try clear hb2); (try clear hk); (try clear hi)))
            have n0_ := Aside0.mk (blk_drew BK168.out)
            have n1_ := Aside0.mk (below_drew1 HB.out)
            clear BK168
            clear HB
            have BK168 := n0_
            have HB := n1_
            clear n0_ n1_
            have p182 : 0 ≤ (t180 : Int) := of_decide_eq_true (by first | (with_reducible assumption) | assumption)
            have q182 : t180 < (l0.length : Int) := of_decide_eq_true (by first | (with_reducible assumption) | assumption)
            obtain ⟨ad182, A182_5, c182_5, e182, hx182_0, hx182_1, hx182_2, hx182_3, hx182_4, hx182_5, hl182_5, hi182_5⟩ := at_T61 HR0.out t180 p182 q182
            have hw182_5 := hx182_5
            have hw182_4 := hx182_4
            have hw182_3 := hx182_3
            have hw182_2 := hx182_2
            have hw182_1 := hx182_1
            have hw182_0 := hx182_0
            obtain rfl : ad167 = ad182 := (by injection e182)
            replace hx182_0 := (HB.out.cell (World.block_lt_of_cell? w _ hx182_0)).trans hx182_0
            replace hx182_1 := (HB.out.cell (World.block_lt_of_cell? w _ hx182_1)).trans hx182_1
            replace hx182_2 := (HB.out.cell (World.block_lt_of_cell? w _ hx182_2)).trans hx182_2
            replace hx182_3 := (HB.out.cell (World.block_lt_of_cell? w _ hx182_3)).trans hx182_3
            replace hx182_4 := (HB.out.cell (World.block_lt_of_cell? w _ hx182_4)).trans hx182_4
            replace hx182_5 := (HB.out.cell (World.block_lt_of_cell? w _ hx182_5)).trans hx182_5
            have HR182_5 := Aside0.mk hi182_5
            have HC182_5 := Aside0.mk hl182_5
            clear hi182_5 hl182_5
            replace p182 := eq_true p182
            replace q182 := eq_true q182
            refine start_ (n := 23) (S := fun w' => w'.cell? ⟨gb168, 0, none⟩ = some (.int .i64 ((rd_T61 l0 x14_1).f0)) ∧ w'.cell? ⟨gb168, 1, none⟩ = some (.int .i64 ((rd_T61 l0 x14_1).f1)) ∧ w'.cell? ⟨gb168, 2, none⟩ = some (.int .i64 ((rd_T61 l0 x14_1).f2)) ∧ w'.cell? ⟨gb168, 3, none⟩ = some (.int .i64 ((rd_T61 l0 x14_1).f3)) ∧ w'.cell? ⟨gb168, 4, none⟩ = some (.int .i64 ((rd_T61 l0 x14_1).f4)) ∧ w'.cell? ⟨gb168, 5, none⟩ = some (.slice (some ad179) ((rd_T61 l0 x14_1).f5).length c167_5) ∧ w'.cell? (ad167.add ((t180).toNat * 6)) = some (.int .i64 ((rd_T61 l0 t180).f0)) ∧ w'.cell? ⟨(ad167.add ((t180).toNat * 6)).block, (ad167.add ((t180).toNat * 6)).off + 1, none⟩ = some (.int .i64 ((rd_T61 l0 t180).f1)) ∧ w'.cell? ⟨(ad167.add ((t180).toNat * 6)).block, (ad167.add ((t180).toNat * 6)).off + 2, none⟩ = some (.int .i64 ((rd_T61 l0 t180).f2)) ∧ w'.cell? ⟨(ad167.add ((t180).toNat * 6)).block, (ad167.add ((t180).toNat * 6)).off + 3, none⟩ = some (.int .i64 ((rd_T61 l0 t180).f3)) ∧ w'.cell? ⟨(ad167.add ((t180).toNat * 6)).block, (ad167.add ((t180).toNat * 6)).off + 4, none⟩ = some (.int .i64 ((rd_T61 l0 t180).f4)) ∧ w'.cell? ⟨(ad167.add ((t180).toNat * 6)).block, (ad167.add ((t180).toNat * 6)).off + 5, none⟩ = some (.slice A182_5 ((rd_T61 l0 t180).f5).length c182_5)) (ds := []) (bv 23 0) (by kernel_rfl) rfl rfl ⟨(blk_cell BK168.out 0).trans rfl, (blk_cell BK168.out 1).trans rfl, (blk_cell BK168.out 2).trans rfl, (blk_cell BK168.out 3).trans rfl, (blk_cell BK168.out 4).trans rfl, (blk_cell BK168.out 5).trans rfl, ((HB.out.cell (World.block_lt_of_cell? w _ hw182_0)).trans hw182_0), ((HB.out.cell (World.block_lt_of_cell? w _ hw182_1)).trans hw182_1), ((HB.out.cell (World.block_lt_of_cell? w _ hw182_2)).trans hw182_2), ((HB.out.cell (World.block_lt_of_cell? w _ hw182_3)).trans hw182_3), ((HB.out.cell (World.block_lt_of_cell? w _ hw182_4)).trans hw182_4), ((HB.out.cell (World.block_lt_of_cell? w _ hw182_5)).trans hw182_5)⟩ (fun hHeld => ?_); refine with_tabW impl_AreTeams.tab13 impl_AreTeams.bits13 (fun HT_ HW_ => ?_)
            generalize w75.drew = w76 at BK168 HB HR182_5 hx182_0 hx182_1 hx182_2 hx182_3 hx182_4 hx182_5 hHeld ⊢
            refine pv_ 23 0 81 1 rfl rfl HT_ ?_; refine pv_ 23 1 82 3 rfl rfl HT_ ?_; refine pv_ 23 2 83 7 rfl rfl HT_ ?_; refine pv_ 23 3 84 15 rfl rfl HT_ ?_; refine pv_ 23 4 85 31 rfl rfl HT_ ?_
            refine tv_ 23 5 86 63 rfl rfl HT_ HW_ hHeld (by rintro w' ⟨s0, s1, s2, s3, s4, s5, s6, s7, s8, s9, s10, s11⟩; go_simp; with_reducible rfl) ?_
            refine pv_ 23 6 87 127 rfl rfl HT_ ?_; refine pv_ 23 7 88 255 rfl rfl HT_ ?_; refine pv_ 23 8 89 511 rfl rfl HT_ ?_; refine pv_ 23 9 90 1023 rfl rfl HT_ ?_; refine pv_ 23 11 92 3071 rfl rfl HT_ ?_; refine pv_ 23 13 94 11263 rfl rfl HT_ ?_; refine pv_ 23 14 95 27647 rfl rfl HT_ ?_; refine pv_ 23 15 96 60415 rfl rfl HT_ ?_; refine pv_ 23 16 97 125951 rfl rfl HT_ ?_; refine pv_ 23 18 99 388095 rfl rfl HT_ ?_
            refine tv_ 23 10 91 389119 rfl rfl HT_ HW_ hHeld (by rintro w' ⟨s0, s1, s2, s3, s4, s5, s6, s7, s8, s9, s10, s11⟩; go_simp; with_reducible rfl) ?_
            refine tv_ 23 17 98 520191 rfl rfl HT_ HW_ hHeld (by rintro w' ⟨s0, s1, s2, s3, s4, s5, s6, s7, s8, s9, s10, s11⟩; go_simp; with_reducible rfl) ?_
            refine tv_ 23 19 100 1044479 rfl rfl HT_ HW_ hHeld (by rintro w' ⟨s0, s1, s2, s3, s4, s5, s6, s7, s8, s9, s10, s11⟩; go_simp; with_reducible rfl) ?_
            refine one_ (i := 12) (N := some 93) (bv 23 1048575) rfl rfl (one_of HT_.out (by kernel_rfl)) (by decide) (fun K hK => ?_)
            refine goes_ Try.func62 (by kernel_rfl) rfl #[.slice (some ad179) ((rd_T61 l0 x14_1).f5).length c167_5, .int .i64 (rd ((rd_T61 l0 x14_1).f5) x74_3)] (by rfl) rfl rfl (by (try simp only [List.map_toArray, List.map_cons, List.map_nil]); first | done | rfl | (simp only [List.length_drop, List.length_take]; rfl)) ?_
            with_reducible refine (impl_times.calls k3 _ _ ((rd_T61 l0 x14_1).f5) (rd ((rd_T61 l0 x14_1).f5) x74_3) t181 _ ?side1 ?side2 A68.out).mono ?_
            (case side1 => repeat (first | exact (Kd.C_below HR167_5.out HB.out) | (with_reducible refine Kd.C_alloc ?_ _) | (with_reducible refine Kd.C_drewN ?_ _) | (with_reducible refine Kd.C_drew ?_)))
            (case side2 => exact HC167_5.out)
            rintro e w' ⟨rfl, ⟨nd, rfl⟩⟩
            refine ⟨_, rfl, ?_⟩
            refine hK.out _ _ ⟨(blk_cell BK168.out 0).trans rfl, (blk_cell BK168.out 1).trans rfl, (blk_cell BK168.out 2).trans rfl, (blk_cell BK168.out 3).trans rfl, (blk_cell BK168.out 4).trans rfl, (blk_cell BK168.out 5).trans rfl, ((HB.out.cell (World.block_lt_of_cell? w _ hw182_0)).trans hw182_0), ((HB.out.cell (World.block_lt_of_cell? w _ hw182_1)).trans hw182_1), ((HB.out.cell (World.block_lt_of_cell? w _ hw182_2)).trans hw182_2), ((HB.out.cell (World.block_lt_of_cell? w _ hw182_3)).trans hw182_3), ((HB.out.cell (World.block_lt_of_cell? w _ hw182_4)).trans hw182_4), ((HB.out.cell (World.block_lt_of_cell? w _ hw182_5)).trans hw182_5)⟩ (fun hHeld => ?_)
            clear hK K
            refine nm_ 93 ?_
            refine one_ (i := 20) (N := some 101) (bv 23 2097151) rfl rfl (one_of HT_.out (by kernel_rfl)) (by decide) (fun K hK => ?_)
            refine goes_ Try.func62 (by kernel_rfl) rfl #[.slice A182_5 ((rd_T61 l0 t180).f5).length c182_5, .int .i64 ((rd_T61 l0 x14_1).f0)] (by rfl) rfl rfl (by (try simp only [List.map_toArray, List.map_cons, List.map_nil]); first | done | rfl | (simp only [List.length_drop, List.length_take]; rfl)) ?_
            with_reducible refine (impl_times.calls k3 _ _ ((rd_T61 l0 t180).f5) ((rd_T61 l0 x14_1).f0) t183 _ ?side1 ?side2 A71.out).mono ?_
            (case side1 => repeat (first | exact (Kd.C_below HR182_5.out (by repeat (first | (with_reducible first | exact HB.out | apply below_alloc | apply pw_below_drewN | apply below_drew1 | refine below_set ?_ GE168.out) | exact HB.out))) | (with_reducible refine Kd.C_alloc ?_ _) | (with_reducible refine Kd.C_drewN ?_ _) | (with_reducible refine Kd.C_drew ?_)))
            (case side2 => exact HC182_5.out)
            rintro e w' ⟨rfl, ⟨nd, rfl⟩⟩
            refine ⟨_, rfl, ?_⟩
            refine hK.out _ _ ⟨(blk_cell BK168.out 0).trans rfl, (blk_cell BK168.out 1).trans rfl, (blk_cell BK168.out 2).trans rfl, (blk_cell BK168.out 3).trans rfl, (blk_cell BK168.out 4).trans rfl, (blk_cell BK168.out 5).trans rfl, ((HB.out.cell (World.block_lt_of_cell? w _ hw182_0)).trans hw182_0), ((HB.out.cell (World.block_lt_of_cell? w _ hw182_1)).trans hw182_1), ((HB.out.cell (World.block_lt_of_cell? w _ hw182_2)).trans hw182_2), ((HB.out.cell (World.block_lt_of_cell? w _ hw182_3)).trans hw182_3), ((HB.out.cell (World.block_lt_of_cell? w _ hw182_4)).trans hw182_4), ((HB.out.cell (World.block_lt_of_cell? w _ hw182_5)).trans hw182_5)⟩ (fun hHeld => ?_)
            clear hK K
            refine nm_ 101 ?_
            refine pv_ 23 21 102 4194303 rfl rfl HT_ ?_; refine pv_ 23 22 103 8388607 rfl rfl HT_ ?_
            refine done_ (done_of HT_.out (by kernel_rfl)) ?_
            try go_wp2
            go_ret
            exact ⟨by first | rfl | (simp [errW_none, errW_some] <;> rfl) | (simp [*, errW_none, errW_some] <;> rfl), by repeat (first | (with_reducible first | exact HB.out | apply below_alloc | apply pw_below_drewN | apply below_drew1 | refine below_set ?_ GE168.out) | exact HB.out)⟩
           rw [if_pos c72] at H
           have c72b0 : (t181 == t183) = true := beq_iff_eq.mpr c72
           have c72b1 : (t181 != t183) = false := bne_eq_false_iff_eq.mpr c72
           clear c72
           have H' := Aside0.mk H
           clear H
           have p179 : 0 ≤ (x74_3 : Int) := of_decide_eq_true (by first | (with_reducible assumption) | assumption)
           have q179 : x74_3 < (((rd_T61 l0 x14_1).f5).length : Int) := of_decide_eq_true (by first | (with_reducible assumption) | assumption)
           obtain ⟨ad179, e179, hx179_0⟩ := Kd.at_int HR167_5.out x74_3 p179 q179
           cases e179
           replace hx179_0 := (HB.out.cell (World.block_lt_of_cell? w _ hx179_0)).trans hx179_0
           replace p179 := eq_true p179
           replace q179 := eq_true q179
           try go_wp2_with (first | ((with_reducible refine gate_callee (f := 18) rfl ?_); refine goesL_ (some 80) rfl rfl Try.func18 (by kernel_rfl) rfl #[.slice (some ad167) l0.length c0, .int .i64 (rd ((rd_T61 l0 x14_1).f5) x74_3)] rfl (by (try simp only [List.map_toArray, List.map_cons, List.map_nil]); first | done | rfl | (simp only [List.length_drop, List.length_take]; rfl)) ?_; (with_reducible refine (impl_FindTeam.calls _ _ l0 (rd ((rd_T61 l0 x14_1).f5) x74_3) t180 _ ?side1 ?side2 A61.out).mono ?_); (case side1 => repeat (first | exact (Kd.C_below HR0.out HB.out) | (with_reducible refine Kd.C_alloc ?_ _) | (with_reducible refine Kd.C_drewN ?_ _) | (with_reducible refine Kd.C_drew ?_))); (case side2 => exact HC0.out); rintro e w73 ⟨rfl, hb⟩; refine ⟨_, rfl, ?_⟩; have n0_ := Aside0.mk (blk_below (g := gb168) (o := .cells #[.int .i64 ((rd_T61 l0 x14_1).f0), .int .i64 ((rd_T61 l0 x14_1).f1), .int .i64 ((rd_T61 l0 x14_1).f2), .int .i64 ((rd_T61 l0 x14_1).f3), .int .i64 ((rd_T61 l0 x14_1).f4), .slice (some ad179) ((rd_T61 l0 x14_1).f5).length c167_5] 61 (0, 0)) (by (with_reducible repeat (first | refine blk_drewN ?_ _ | refine blk_drew ?_ | refine blk_alloc ?_ _)); exact BK168.out) hb); have n1_ := Aside0.mk (below_step (by repeat (first | (with_reducible first | exact HB.out | apply below_alloc | apply pw_below_drewN | apply below_drew1 | refine below_set ?_ GE168.out) | exact HB.out)) hb); clear BK168; clear HB; have BK168 := n0_; have HB := n1_; clear n0_ n1_; (try clear hb); (try clear hb2); (try clear hk); (try clear hi)))
           have n0_ := Aside0.mk (blk_drew BK168.out)
           have n1_ := Aside0.mk (below_drew1 HB.out)
           clear BK168
           clear HB
           have BK168 := n0_
           have HB := n1_
           clear n0_ n1_
           have p182 : 0 ≤ (t180 : Int) := of_decide_eq_true (by first | (with_reducible assumption) | assumption)
           have q182 : t180 < (l0.length : Int) := of_decide_eq_true (by first | (with_reducible assumption) | assumption)
           obtain ⟨ad182, A182_5, c182_5, e182, hx182_0, hx182_1, hx182_2, hx182_3, hx182_4, hx182_5, hl182_5, hi182_5⟩ := at_T61 HR0.out t180 p182 q182
           have hw182_5 := hx182_5
           have hw182_4 := hx182_4
           have hw182_3 := hx182_3
           have hw182_2 := hx182_2
           have hw182_1 := hx182_1
           have hw182_0 := hx182_0
           obtain rfl : ad167 = ad182 := (by injection e182)
           replace hx182_0 := (HB.out.cell (World.block_lt_of_cell? w _ hx182_0)).trans hx182_0
           replace hx182_1 := (HB.out.cell (World.block_lt_of_cell? w _ hx182_1)).trans hx182_1
           replace hx182_2 := (HB.out.cell (World.block_lt_of_cell? w _ hx182_2)).trans hx182_2
           replace hx182_3 := (HB.out.cell (World.block_lt_of_cell? w _ hx182_3)).trans hx182_3
           replace hx182_4 := (HB.out.cell (World.block_lt_of_cell? w _ hx182_4)).trans hx182_4
           replace hx182_5 := (HB.out.cell (World.block_lt_of_cell? w _ hx182_5)).trans hx182_5
           have HR182_5 := Aside0.mk hi182_5
           have HC182_5 := Aside0.mk hl182_5
           clear hi182_5 hl182_5
           replace p182 := eq_true p182
           replace q182 := eq_true q182
           refine start_ (n := 23) (S := fun w' => w'.cell? ⟨gb168, 0, none⟩ = some (.int .i64 ((rd_T61 l0 x14_1).f0)) ∧ w'.cell? ⟨gb168, 1, none⟩ = some (.int .i64 ((rd_T61 l0 x14_1).f1)) ∧ w'.cell? ⟨gb168, 2, none⟩ = some (.int .i64 ((rd_T61 l0 x14_1).f2)) ∧ w'.cell? ⟨gb168, 3, none⟩ = some (.int .i64 ((rd_T61 l0 x14_1).f3)) ∧ w'.cell? ⟨gb168, 4, none⟩ = some (.int .i64 ((rd_T61 l0 x14_1).f4)) ∧ w'.cell? ⟨gb168, 5, none⟩ = some (.slice (some ad179) ((rd_T61 l0 x14_1).f5).length c167_5) ∧ w'.cell? (ad167.add ((t180).toNat * 6)) = some (.int .i64 ((rd_T61 l0 t180).f0)) ∧ w'.cell? ⟨(ad167.add ((t180).toNat * 6)).block, (ad167.add ((t180).toNat * 6)).off + 1, none⟩ = some (.int .i64 ((rd_T61 l0 t180).f1)) ∧ w'.cell? ⟨(ad167.add ((t180).toNat * 6)).block, (ad167.add ((t180).toNat * 6)).off + 2, none⟩ = some (.int .i64 ((rd_T61 l0 t180).f2)) ∧ w'.cell? ⟨(ad167.add ((t180).toNat * 6)).block, (ad167.add ((t180).toNat * 6)).off + 3, none⟩ = some (.int .i64 ((rd_T61 l0 t180).f3)) ∧ w'.cell? ⟨(ad167.add ((t180).toNat * 6)).block, (ad167.add ((t180).toNat * 6)).off + 4, none⟩ = some (.int .i64 ((rd_T61 l0 t180).f4)) ∧ w'.cell? ⟨(ad167.add ((t180).toNat * 6)).block, (ad167.add ((t180).toNat * 6)).off + 5, none⟩ = some (.slice A182_5 ((rd_T61 l0 t180).f5).length c182_5)) (ds := []) (bv 23 0) (by kernel_rfl) rfl rfl ⟨(blk_cell BK168.out 0).trans rfl, (blk_cell BK168.out 1).trans rfl, (blk_cell BK168.out 2).trans rfl, (blk_cell BK168.out 3).trans rfl, (blk_cell BK168.out 4).trans rfl, (blk_cell BK168.out 5).trans rfl, ((HB.out.cell (World.block_lt_of_cell? w _ hw182_0)).trans hw182_0), ((HB.out.cell (World.block_lt_of_cell? w _ hw182_1)).trans hw182_1), ((HB.out.cell (World.block_lt_of_cell? w _ hw182_2)).trans hw182_2), ((HB.out.cell (World.block_lt_of_cell? w _ hw182_3)).trans hw182_3), ((HB.out.cell (World.block_lt_of_cell? w _ hw182_4)).trans hw182_4), ((HB.out.cell (World.block_lt_of_cell? w _ hw182_5)).trans hw182_5)⟩ (fun hHeld => ?_); refine with_tabW impl_AreTeams.tab13 impl_AreTeams.bits13 (fun HT_ HW_ => ?_)
           generalize w73.drew = w74 at BK168 HB HR182_5 hx182_0 hx182_1 hx182_2 hx182_3 hx182_4 hx182_5 hHeld ⊢
           refine pv_ 23 0 81 1 rfl rfl HT_ ?_; refine pv_ 23 1 82 3 rfl rfl HT_ ?_; refine pv_ 23 2 83 7 rfl rfl HT_ ?_; refine pv_ 23 3 84 15 rfl rfl HT_ ?_; refine pv_ 23 4 85 31 rfl rfl HT_ ?_
           refine tv_ 23 5 86 63 rfl rfl HT_ HW_ hHeld (by rintro w' ⟨s0, s1, s2, s3, s4, s5, s6, s7, s8, s9, s10, s11⟩; go_simp; with_reducible rfl) ?_
           refine pv_ 23 6 87 127 rfl rfl HT_ ?_; refine pv_ 23 7 88 255 rfl rfl HT_ ?_; refine pv_ 23 8 89 511 rfl rfl HT_ ?_; refine pv_ 23 9 90 1023 rfl rfl HT_ ?_; refine pv_ 23 11 92 3071 rfl rfl HT_ ?_; refine pv_ 23 13 94 11263 rfl rfl HT_ ?_; refine pv_ 23 14 95 27647 rfl rfl HT_ ?_; refine pv_ 23 15 96 60415 rfl rfl HT_ ?_; refine pv_ 23 16 97 125951 rfl rfl HT_ ?_; refine pv_ 23 18 99 388095 rfl rfl HT_ ?_
           refine tv_ 23 10 91 389119 rfl rfl HT_ HW_ hHeld (by rintro w' ⟨s0, s1, s2, s3, s4, s5, s6, s7, s8, s9, s10, s11⟩; go_simp; with_reducible rfl) ?_
           refine tv_ 23 17 98 520191 rfl rfl HT_ HW_ hHeld (by rintro w' ⟨s0, s1, s2, s3, s4, s5, s6, s7, s8, s9, s10, s11⟩; go_simp; with_reducible rfl) ?_
           refine tv_ 23 19 100 1044479 rfl rfl HT_ HW_ hHeld (by rintro w' ⟨s0, s1, s2, s3, s4, s5, s6, s7, s8, s9, s10, s11⟩; go_simp; with_reducible rfl) ?_
           refine one_ (i := 12) (N := some 93) (bv 23 1048575) rfl rfl (one_of HT_.out (by kernel_rfl)) (by decide) (fun K hK => ?_)
           refine goes_ Try.func62 (by kernel_rfl) rfl #[.slice (some ad179) ((rd_T61 l0 x14_1).f5).length c167_5, .int .i64 (rd ((rd_T61 l0 x14_1).f5) x74_3)] (by rfl) rfl rfl (by (try simp only [List.map_toArray, List.map_cons, List.map_nil]); first | done | rfl | (simp only [List.length_drop, List.length_take]; rfl)) ?_
           with_reducible refine (impl_times.calls k3 _ _ ((rd_T61 l0 x14_1).f5) (rd ((rd_T61 l0 x14_1).f5) x74_3) t181 _ ?side1 ?side2 A68.out).mono ?_
           (case side1 => repeat (first | exact (Kd.C_below HR167_5.out HB.out) | (with_reducible refine Kd.C_alloc ?_ _) | (with_reducible refine Kd.C_drewN ?_ _) | (with_reducible refine Kd.C_drew ?_)))
           (case side2 => exact HC167_5.out)
           rintro e w' ⟨rfl, ⟨nd, rfl⟩⟩
           refine ⟨_, rfl, ?_⟩
           refine hK.out _ _ ⟨(blk_cell BK168.out 0).trans rfl, (blk_cell BK168.out 1).trans rfl, (blk_cell BK168.out 2).trans rfl, (blk_cell BK168.out 3).trans rfl, (blk_cell BK168.out 4).trans rfl, (blk_cell BK168.out 5).trans rfl, ((HB.out.cell (World.block_lt_of_cell? w _ hw182_0)).trans hw182_0), ((HB.out.cell (World.block_lt_of_cell? w _ hw182_1)).trans hw182_1), ((HB.out.cell (World.block_lt_of_cell? w _ hw182_2)).trans hw182_2), ((HB.out.cell (World.block_lt_of_cell? w _ hw182_3)).trans hw182_3), ((HB.out.cell (World.block_lt_of_cell? w _ hw182_4)).trans hw182_4), ((HB.out.cell (World.block_lt_of_cell? w _ hw182_5)).trans hw182_5)⟩ (fun hHeld => ?_)
           clear hK K
           refine nm_ 93 ?_
           refine one_ (i := 20) (N := some 101) (bv 23 2097151) rfl rfl (one_of HT_.out (by kernel_rfl)) (by decide) (fun K hK => ?_)
           refine goes_ Try.func62 (by kernel_rfl) rfl #[.slice A182_5 ((rd_T61 l0 t180).f5).length c182_5, .int .i64 ((rd_T61 l0 x14_1).f0)] (by rfl) rfl rfl (by (try simp only [List.map_toArray, List.map_cons, List.map_nil]); first | done | rfl | (simp only [List.length_drop, List.length_take]; rfl)) ?_
           with_reducible refine (impl_times.calls k3 _ _ ((rd_T61 l0 t180).f5) ((rd_T61 l0 x14_1).f0) t183 _ ?side1 ?side2 A71.out).mono ?_
           (case side1 => repeat (first | exact (Kd.C_below HR182_5.out (by repeat (first | (with_reducible first | exact HB.out | apply below_alloc | apply pw_below_drewN | apply below_drew1 | refine below_set ?_ GE168.out) | exact HB.out))) | (with_reducible refine Kd.C_alloc ?_ _) | (with_reducible refine Kd.C_drewN ?_ _) | (with_reducible refine Kd.C_drew ?_)))
           (case side2 => exact HC182_5.out)
           rintro e w' ⟨rfl, ⟨nd, rfl⟩⟩
           refine ⟨_, rfl, ?_⟩
           refine hK.out _ _ ⟨(blk_cell BK168.out 0).trans rfl, (blk_cell BK168.out 1).trans rfl, (blk_cell BK168.out 2).trans rfl, (blk_cell BK168.out 3).trans rfl, (blk_cell BK168.out 4).trans rfl, (blk_cell BK168.out 5).trans rfl, ((HB.out.cell (World.block_lt_of_cell? w _ hw182_0)).trans hw182_0), ((HB.out.cell (World.block_lt_of_cell? w _ hw182_1)).trans hw182_1), ((HB.out.cell (World.block_lt_of_cell? w _ hw182_2)).trans hw182_2), ((HB.out.cell (World.block_lt_of_cell? w _ hw182_3)).trans hw182_3), ((HB.out.cell (World.block_lt_of_cell? w _ hw182_4)).trans hw182_4), ((HB.out.cell (World.block_lt_of_cell? w _ hw182_5)).trans hw182_5)⟩ (fun hHeld => ?_)
           clear hK K
           refine nm_ 101 ?_
           refine pv_ 23 21 102 4194303 rfl rfl HT_ ?_; refine pv_ 23 22 103 8388607 rfl rfl HT_ ?_
           refine done_ (done_of HT_.out (by kernel_rfl)) ?_
           try go_wp2
           go_roundg k3
           case measure => have := HK1.out; have := HJ5.out; have := HK3.out; omega
           case rel => exact ⟨(wrap64 (x74_3 + 1)), (by first | rfl | (simp; done) | (simp [*]; done)), H', ⟨by have := HK1.out; have := HJ5.out; have := HK3.out; omega⟩, ⟨by (with_reducible repeat (first | refine blk_drewN ?_ _ | refine blk_drew ?_ | refine blk_alloc ?_ _)); exact BK168.out⟩, ⟨by repeat (first | (with_reducible first | exact HB.out | apply below_alloc | apply pw_below_drewN | apply below_drew1 | refine below_set ?_ GE168.out) | exact HB.out)⟩⟩
          rw [if_pos c65] at H
          have c65b0 : ((rd ((rd_T61 l0 x14_1).f5) x74_3) == ((rd_T61 l0 x14_1).f0)) = true := beq_iff_eq.mpr c65
          have c65b1 : ((rd ((rd_T61 l0 x14_1).f5) x74_3) != ((rd_T61 l0 x14_1).f0)) = false := bne_eq_false_iff_eq.mpr c65
          clear c65
          obtain rfl := Option.some.inj H
          have p179 : 0 ≤ (x74_3 : Int) := of_decide_eq_true (by first | (with_reducible assumption) | assumption)
          have q179 : x74_3 < (((rd_T61 l0 x14_1).f5).length : Int) := of_decide_eq_true (by first | (with_reducible assumption) | assumption)
          obtain ⟨ad179, e179, hx179_0⟩ := Kd.at_int HR167_5.out x74_3 p179 q179
          cases e179
          replace hx179_0 := (HB.out.cell (World.block_lt_of_cell? w _ hx179_0)).trans hx179_0
          replace p179 := eq_true p179
          replace q179 := eq_true q179
          try go_wp2_with (first | ((with_reducible refine gate_callee (f := 18) rfl ?_); refine goesL_ (some 80) rfl rfl Try.func18 (by kernel_rfl) rfl #[.slice (some ad167) l0.length c0, .int .i64 (rd ((rd_T61 l0 x14_1).f5) x74_3)] rfl (by (try simp only [List.map_toArray, List.map_cons, List.map_nil]); first | done | rfl | (simp only [List.length_drop, List.length_take]; rfl)) ?_; (with_reducible refine (impl_FindTeam.calls _ _ l0 (rd ((rd_T61 l0 x14_1).f5) x74_3) t180 _ ?side1 ?side2 A61.out).mono ?_); (case side1 => repeat (first | exact (Kd.C_below HR0.out HB.out) | (with_reducible refine Kd.C_alloc ?_ _) | (with_reducible refine Kd.C_drewN ?_ _) | (with_reducible refine Kd.C_drew ?_))); (case side2 => exact HC0.out); rintro e w66 ⟨rfl, hb⟩; refine ⟨_, rfl, ?_⟩; have n0_ := Aside0.mk (blk_below (g := gb168) (o := .cells #[.int .i64 ((rd_T61 l0 x14_1).f0), .int .i64 ((rd_T61 l0 x14_1).f1), .int .i64 ((rd_T61 l0 x14_1).f2), .int .i64 ((rd_T61 l0 x14_1).f3), .int .i64 ((rd_T61 l0 x14_1).f4), .slice (some ad179) ((rd_T61 l0 x14_1).f5).length c167_5] 61 (0, 0)) (by (with_reducible repeat (first | refine blk_drewN ?_ _ | refine blk_drew ?_ | refine blk_alloc ?_ _)); exact BK168.out) hb); have n1_ := Aside0.mk (below_step (by repeat (first | (with_reducible first | exact HB.out | apply below_alloc | apply pw_below_drewN | apply below_drew1 | refine below_set ?_ GE168.out) | exact HB.out)) hb); clear BK168; clear HB; have BK168 := n0_; have HB := n1_; clear n0_ n1_; (try clear hb); (try clear hb2); (try clear hk); (try clear hi)))
          have n0_ := Aside0.mk (blk_drew BK168.out)
          have n1_ := Aside0.mk (below_drew1 HB.out)
          clear BK168
          clear HB
          have BK168 := n0_
          have HB := n1_
          clear n0_ n1_
          refine start_ (n := 23) (S := fun w' => w'.cell? ⟨gb168, 0, none⟩ = some (.int .i64 ((rd_T61 l0 x14_1).f0)) ∧ w'.cell? ⟨gb168, 1, none⟩ = some (.int .i64 ((rd_T61 l0 x14_1).f1)) ∧ w'.cell? ⟨gb168, 2, none⟩ = some (.int .i64 ((rd_T61 l0 x14_1).f2)) ∧ w'.cell? ⟨gb168, 3, none⟩ = some (.int .i64 ((rd_T61 l0 x14_1).f3)) ∧ w'.cell? ⟨gb168, 4, none⟩ = some (.int .i64 ((rd_T61 l0 x14_1).f4)) ∧ w'.cell? ⟨gb168, 5, none⟩ = some (.slice (some ad179) ((rd_T61 l0 x14_1).f5).length c167_5)) (ds := []) (bv 23 0) (by kernel_rfl) rfl rfl ⟨(blk_cell BK168.out 0).trans rfl, (blk_cell BK168.out 1).trans rfl, (blk_cell BK168.out 2).trans rfl, (blk_cell BK168.out 3).trans rfl, (blk_cell BK168.out 4).trans rfl, (blk_cell BK168.out 5).trans rfl⟩ (fun hHeld => ?_); refine with_tabW impl_AreTeams.tab13 impl_AreTeams.bits13 (fun HT_ HW_ => ?_)
          generalize w66.drew = w67 at BK168 HB hHeld ⊢
          refine pv_ 23 0 81 1 rfl rfl HT_ ?_; refine pv_ 23 1 82 3 rfl rfl HT_ ?_; refine pv_ 23 2 83 7 rfl rfl HT_ ?_; refine pv_ 23 3 84 15 rfl rfl HT_ ?_; refine pv_ 23 4 85 31 rfl rfl HT_ ?_
          refine tv_ 23 5 86 63 rfl rfl HT_ HW_ hHeld (by rintro w' ⟨s0, s1, s2, s3, s4, s5⟩; go_simp; with_reducible rfl) ?_
          refine pv_ 23 6 87 127 rfl rfl HT_ ?_; refine pv_ 23 7 88 255 rfl rfl HT_ ?_; refine pv_ 23 8 89 511 rfl rfl HT_ ?_; refine pu_ 23 9 90 1023 rfl rfl HT_ ?_; refine pu_ 23 10 91 2047 rfl rfl HT_ ?_; refine pu_ 23 11 92 4095 rfl rfl HT_ ?_; refine pu_ 23 12 93 8191 rfl rfl HT_ ?_; refine pu_ 23 13 94 16383 rfl rfl HT_ ?_; refine pu_ 23 14 95 32767 rfl rfl HT_ ?_; refine pu_ 23 15 96 65535 rfl rfl HT_ ?_; refine pu_ 23 16 97 131071 rfl rfl HT_ ?_; refine pu_ 23 17 98 262143 rfl rfl HT_ ?_; refine pu_ 23 18 99 524287 rfl rfl HT_ ?_; refine pu_ 23 19 100 1048575 rfl rfl HT_ ?_; refine pu_ 23 20 101 2097151 rfl rfl HT_ ?_; refine pu_ 23 21 102 4194303 rfl rfl HT_ ?_; refine pv_ 23 22 103 8388607 rfl rfl HT_ ?_
          refine done_ (done_of HT_.out (by kernel_rfl)) ?_
          try go_wp2
          go_ret
          exact ⟨by first | rfl | (simp [errW_none, errW_some] <;> rfl) | (simp [*, errW_none, errW_some] <;> rfl), by repeat (first | (with_reducible first | exact HB.out | apply below_alloc | apply pw_below_drewN | apply below_drew1 | refine below_set ?_ GE168.out) | exact HB.out)⟩
         rw [if_pos c62] at H
         have c62b0 : decide (t180 < 0) = true := decide_eq_true c62
         clear c62
         obtain rfl := Option.some.inj H
         have p179 : 0 ≤ (x74_3 : Int) := of_decide_eq_true (by first | (with_reducible assumption) | assumption)
         have q179 : x74_3 < (((rd_T61 l0 x14_1).f5).length : Int) := of_decide_eq_true (by first | (with_reducible assumption) | assumption)
         obtain ⟨ad179, e179, hx179_0⟩ := Kd.at_int HR167_5.out x74_3 p179 q179
         cases e179
         replace hx179_0 := (HB.out.cell (World.block_lt_of_cell? w _ hx179_0)).trans hx179_0
         replace p179 := eq_true p179
         replace q179 := eq_true q179
         try go_wp2_with (first | ((with_reducible refine gate_callee (f := 18) rfl ?_); refine goesL_ (some 80) rfl rfl Try.func18 (by kernel_rfl) rfl #[.slice (some ad167) l0.length c0, .int .i64 (rd ((rd_T61 l0 x14_1).f5) x74_3)] rfl (by (try simp only [List.map_toArray, List.map_cons, List.map_nil]); first | done | rfl | (simp only [List.length_drop, List.length_take]; rfl)) ?_; (with_reducible refine (impl_FindTeam.calls _ _ l0 (rd ((rd_T61 l0 x14_1).f5) x74_3) t180 _ ?side1 ?side2 A61.out).mono ?_); (case side1 => repeat (first | exact (Kd.C_below HR0.out HB.out) | (with_reducible refine Kd.C_alloc ?_ _) | (with_reducible refine Kd.C_drewN ?_ _) | (with_reducible refine Kd.C_drew ?_))); (case side2 => exact HC0.out); rintro e w63 ⟨rfl, hb⟩; refine ⟨_, rfl, ?_⟩; have n0_ := Aside0.mk (blk_below (g := gb168) (o := .cells #[.int .i64 ((rd_T61 l0 x14_1).f0), .int .i64 ((rd_T61 l0 x14_1).f1), .int .i64 ((rd_T61 l0 x14_1).f2), .int .i64 ((rd_T61 l0 x14_1).f3), .int .i64 ((rd_T61 l0 x14_1).f4), .slice (some ad179) ((rd_T61 l0 x14_1).f5).length c167_5] 61 (0, 0)) (by (with_reducible repeat (first | refine blk_drewN ?_ _ | refine blk_drew ?_ | refine blk_alloc ?_ _)); exact BK168.out) hb); have n1_ := Aside0.mk (below_step (by repeat (first | (with_reducible first | exact HB.out | apply below_alloc | apply pw_below_drewN | apply below_drew1 | refine below_set ?_ GE168.out) | exact HB.out)) hb); clear BK168; clear HB; have BK168 := n0_; have HB := n1_; clear n0_ n1_; (try clear hb); (try clear hb2); (try clear hk); (try clear hi)))
         have n0_ := Aside0.mk (blk_drew BK168.out)
         have n1_ := Aside0.mk (below_drew1 HB.out)
         clear BK168
         clear HB
         have BK168 := n0_
         have HB := n1_
         clear n0_ n1_
         refine start_ (n := 23) (S := fun w' => True) (ds := []) (bv 23 0) (by kernel_rfl) rfl rfl trivial (fun hHeld => ?_); refine with_tabW impl_AreTeams.tab13 impl_AreTeams.bits13 (fun HT_ HW_ => ?_)
         generalize w63.drew = w64 at BK168 HB hHeld ⊢
         refine pv_ 23 0 81 1 rfl rfl HT_ ?_; refine pv_ 23 1 82 3 rfl rfl HT_ ?_; refine pv_ 23 2 83 7 rfl rfl HT_ ?_; refine pu_ 23 3 84 15 rfl rfl HT_ ?_; refine pu_ 23 4 85 31 rfl rfl HT_ ?_; refine pu_ 23 5 86 63 rfl rfl HT_ ?_; refine pu_ 23 6 87 127 rfl rfl HT_ ?_; refine pv_ 23 7 88 255 rfl rfl HT_ ?_; refine pv_ 23 8 89 511 rfl rfl HT_ ?_; refine pu_ 23 9 90 1023 rfl rfl HT_ ?_; refine pu_ 23 10 91 2047 rfl rfl HT_ ?_; refine pu_ 23 11 92 4095 rfl rfl HT_ ?_; refine pu_ 23 12 93 8191 rfl rfl HT_ ?_; refine pu_ 23 13 94 16383 rfl rfl HT_ ?_; refine pu_ 23 14 95 32767 rfl rfl HT_ ?_; refine pu_ 23 15 96 65535 rfl rfl HT_ ?_; refine pu_ 23 16 97 131071 rfl rfl HT_ ?_; refine pu_ 23 17 98 262143 rfl rfl HT_ ?_; refine pu_ 23 18 99 524287 rfl rfl HT_ ?_; refine pu_ 23 19 100 1048575 rfl rfl HT_ ?_; refine pu_ 23 20 101 2097151 rfl rfl HT_ ?_; refine pu_ 23 21 102 4194303 rfl rfl HT_ ?_
         refine pv_ 23 22 103 8388607 rfl rfl HT_ ?_
         refine done_ (done_of HT_.out (by kernel_rfl)) ?_
         try go_wp2
         go_ret
         exact ⟨by first | rfl | (simp [errW_none, errW_some] <;> rfl) | (simp [*, errW_none, errW_some] <;> rfl), by repeat (first | (with_reducible first | exact HB.out | apply below_alloc | apply pw_below_drewN | apply below_drew1 | refine below_set ?_ GE168.out) | exact HB.out)⟩
      subst c56
      have H1 : (some false) = some r := by rw [if_pos rfl] at H; exact H
      clear H
      have H := H1
      clear H1
      obtain rfl := Option.some.inj H
      go_wp2
      go_ret
      exact ⟨by first | rfl | (simp [errW_none, errW_some] <;> rfl) | (simp [*, errW_none, errW_some] <;> rfl), by repeat (first | (with_reducible first | exact HB.out | apply below_alloc | apply pw_below_drewN | apply below_drew1 | refine below_set ?_ GE168.out) | exact HB.out)⟩
 rw [if_pos c2] at H
 have c2b0 : decide (10 < (l0.length : Int)) = true := decide_eq_true c2
 have c2b1 : decide (10 < l0.length) = true := decide_eq_true (by omega)
 clear c2
 obtain rfl := Option.some.inj H
 go_enter Try.func21, Try.ntmps21
 go_wp2
 go_ret
 exact ⟨by first | rfl | (simp [errW_none, errW_some] <;> rfl) | (simp [*, errW_none, errW_some] <;> rfl), by repeat (first | (with_reducible first | exact HB.out | apply below_alloc | apply pw_below_drewN | apply below_drew1) | exact HB.out)⟩
end Go.Proofs.Ytiimiogpiflkdaa.A
end

section
set_option linter.unusedVariables false
set_option linter.unusedSimpArgs false
namespace Go.Proofs.Ytiimiogpiflkdaa.A
open Go.RowKit Go.Proofs.YtiimiogpiflkdaaW.PrintWords Go.Proofs.YtiimiogpiflkdaaW.PrintLast Go.Proofs.YtiimiogpiflkdaaW.PrintMore Go.Shelf Go.Sort
theorem CloneT_none (n c : Nat) (w : World) : Calls Try.prog 68 #[.slice none n c] w fun e w' => e = .returned (.slice none 0 0) ∧ w' = w := by
  have q41 : ∀ (w : World) (a : Option Addr) (n c n' c' : Nat), (binOp .eql 25 (.slice a n c) (.slice none n' c')).run Try.prog w = .ok (.bool a.isNone) w := fun w a n c n' c' => hkT_nil
  go_enter Try.func68, Try.ntmps68
  go_wp2
  go_ret
  exact ⟨rfl, rfl⟩
theorem SortFunc_none (w : World) : Calls Try.prog 69 #[.slice none 0 0, .func (.func 70) #[] #[]] w fun e w' => e = .returned (.tuple #[]) ∧ w' = w :=
  AnyF.slices_SortFunc_none { Try.sortT with } none 0 (.func (.func 70) #[] #[]) w
def RowT (W : World) (g : Nat) (d : Array TmA) : Prop := g < W.heap.size ∧ ∀ (i : Nat) (hi : i < d.size) (j : Nat) (u : Value), (d[i].cells)[j]? = some u → W.cell? ⟨g, i * 6 + j, none⟩ = some u
theorem RowT.step {W W' : World} {g : Nat} {d : Array TmA} (h : RowT W g d) (hs : W.heap.size ≤ W'.heap.size) (he : W'.heap[g]? = W.heap[g]?) : RowT W' g d :=
  ⟨Nat.lt_of_lt_of_le h.1 hs, fun i hi j u hu => by
    have := h.2 i hi j u hu
    simpa [World.cell?, he] using this⟩
def impl_Standing.f (k : Nat) (l0 : List S61) : Option (List Int) := (impl_AreTeams.f k l0).bind fun b => if b = true then (if l0.length ≤ 12 then some ((ordT l0).map (fun t => t.f0)) else none) else some []
set_option maxHeartbeats 4000000 in
set_option maxRecDepth 100000 in
theorem impl_Standing.calls (k : Nat) (A0 : Option Addr) (c0 : Nat) (l0 : List S61) (r : List Int) (w : World) (hr0 : Kd.C k61 w A0 l0.length l0) (hc0 : l0.length ≤ c0) (h : impl_Standing.f k l0 = some r) :
    Calls Try.prog 34 #[.slice A0 l0.length c0] w fun e w' => ∃ v0_, e = .returned v0_ ∧ Kd.R (Kd.int .i64) 3 w' w.heap.size (fun _ => True) v0_ r ∧ Below w.heap.size w w' := by
  unfold impl_Standing.f at h
  replace h := Option.bind_eq_some_iff.mp h
  obtain ⟨b, hb, h⟩ := h
  have hA := fun W hW => impl_AreTeams.calls k A0 c0 l0 b W (Kd.C_below hr0 hW) hc0 hb
  have HA := Aside0.mk hA
  have HR0 := Aside0.mk hr0
  clear hA hr0 hb
  cases b with
  | false =>
    rw [if_neg (by simp)] at h
    obtain rfl := Option.some.inj h
    clear h
    go_enter Try.func34, Try.ntmps34
    go_wp2_with (go_at_call 21; refine (HA.out _ ?hb1).mono ?_; (case hb1 => exact below_alloc (Below.refl _ _) _); rintro e w' ⟨rfl, hb'⟩)
    go_ret
    refine ⟨_, rfl, ?_, (below_alloc (Below.refl _ w) _).trans (hb'.mono (by simp))⟩
    exact Kd.R_below (Kd.R_of_own (World.ownsRow_made w #[] 0 (Nat.le_refl _) (Nat.zero_le _) rfl) (fun _ _ => trivial)) hb'
  | true =>
    rw [if_pos rfl] at h
    by_cases hl : l0.length ≤ 12
    rotate_left
    · rw [if_neg hl] at h
      cases h
    rw [if_pos hl] at h
    obtain rfl := Option.some.inj h
    clear h
    have HL := Aside0.mk hl
    clear hl
    cases A0 with
    | none =>
      have hl0 : l0 = [] := by
        rcases Nat.eq_zero_or_pos l0.length with h0 | h0
        · exact List.eq_nil_of_length_eq_zero h0
        · obtain ⟨ad, e, _⟩ := HR0.out.2.2 h0
          cases e
      subst hl0
      have hC := CloneT_none
      have hS := SortFunc_none
      go_enter Try.func34, Try.ntmps34
      go_wp2_with (first | (go_at_call 21; refine (HA.out _ ?hb1).mono ?_; (case hb1 => exact below_alloc (Below.refl _ _) _); rintro e w' ⟨rfl, hb'⟩; have HB := Aside0.mk hb'; clear hb') | (go_at_call 68; refine (hC _ _ _).mono ?_; rintro e w2 ⟨rfl, rfl⟩) | (go_at_call 69; refine (hS _).mono ?_; rintro e w3 ⟨rfl, rfl⟩))
      refine wp_loop_rounds 1 ?_
      rw [rounds_succ]
      go_wp2
      go_ret
      have e0 : (ordT ([] : List S61)).map (fun t => t.f0) = [] := by simp [ordT]
      rw [e0]
      refine ⟨_, rfl, ?_, (below_alloc (Below.refl _ w) _).trans (HB.out.mono (by simp))⟩
      exact Kd.R_below (Kd.R_of_own (World.ownsRow_made w #[] 0 (Nat.le_refl _) (Nat.zero_le _) rfl) (fun _ _ => trivial)) HB.out
    | some ad =>
      have hC := fun W hW => CloneT_calls ad c0 l0 W (Kd.C_below HR0.out hW) HL.out
      have hS := SortFunc_calls
      go_enter Try.func34, Try.ntmps34
      go_wp2_with (first | (go_at_call 21; refine (HA.out _ ?hb1).mono ?_; (case hb1 => exact below_alloc (Below.refl _ _) _); rintro e w1 ⟨rfl, hb'⟩; have HB := Aside0.mk ((below_alloc (Below.refl _ w) _).trans (hb'.mono (by simp)) : Below w.heap.size w w1); have HO := Aside0.mk (Kd.R_below (Kd.R_of_own (ok := fun _ => True) (e := 3) (enc := Value.int .i64) (h1 := fun _ => rfl) (xs := []) (World.ownsRow_made w #[] 0 (Nat.le_refl _) (Nat.zero_le _) rfl) (fun _ _ => trivial)) hb'); have HW1 := Aside0.mk (Nat.lt_of_lt_of_le (by simp : w.heap.size < (w.alloc (.cells #[] 3)).heap.size) hb'.size); clear hb') | (go_at_call 68; refine (hC _ HB.out).mono ?_; rintro e w2 ⟨g, cap, d, rfl, hds, hdk, hH, hg1, hg2, hb2⟩; have H2 := Aside0.mk hb2; have HK := Aside0.mk hdk; have HD := Aside0.mk hds; have HG := Aside0.mk hg1; have HH := Aside0.mk hH; have HG2 := Aside0.mk hg2; clear hb2 hdk hds hg1 hH hg2) | (go_at_call 69; refine (hS _ _ _ _ HH.out HG2.out (by rw [HD.out]; exact HL.out)).mono ?_; rintro e w3 ⟨rfl, d', n, os, hp, hs, hw3⟩; have HP := Aside0.mk hp; have HS := Aside0.mk hs; have HW3 := Aside0.mk hw3; clear hp hs hw3))
      have HR := Aside0.mk (sorted_ids HK.out HP.out HS.out)
      have hsz : d'.size = d.size := HP.out.1
      have HSZ := Aside0.mk (hsz.trans HD.out)
      have hb3 : Below w1.heap.size w1 w3 := by
        rw [HW3.out]
        exact sortW_below H2.out HG.out
      have HB3 := Aside0.mk (HB.out.trans (hb3.mono HB.out.size))
      have HO3 := Aside0.mk (Kd.R_below HO.out hb3)
      have HT3 : Aside0 (RowT w3 g d') := by
        refine ⟨?_, fun i hi j u hu => ?_⟩
        · rw [HW3.out]
          exact Nat.lt_of_lt_of_le HG2.out sortW_size
        · rw [HW3.out]
          have hj : j < 6 := (List.getElem?_eq_some_iff.1 hu).1
          have := (holdsK_sortWorldK_c TmA.cells 6 w2 g 0 d d' n os HH.out HG2.out hsz).cell hi hj
          rw [Nat.zero_add] at this
          have e1 : (TmA.cells d'[i]!)[j]! = u := by
            rw [getElem!_pos d' i hi, getElem!_pos _ j hj]
            exact (List.getElem?_eq_some_iff.1 hu).2
          rw [e1] at this
          exact this.1
      have hne : (Value.slice (some ⟨w.heap.size, 0, none⟩) 0 0).ownBlock ≠ some g := by
        simp only [Value.ownBlock, ne_eq, Option.some.injEq]
        have := HW1.out
        have := HG.out
        omega
      have HE := Aside0.mk hne
      clear hb3 hsz hne HW3 HH HO HB H2 HP HS HK hS hC
      go_loopg [3, 6, 18] d.size (fun gg v3 _ v18 wr => ∃ (kk : Nat), v18 = .int .i64 kk ∧ Aside0 (kk ≤ d.size ∧ d.size - kk ≤ gg) ∧ Aside0 (Kd.R (Kd.int .i64) 3 wr w.heap.size (fun _ => True) v3 ((d'.toList.map (fun x => x.f0)).take kk)) ∧ Aside0 (v3.ownBlock ≠ some g) ∧ Aside0 (RowT wr g d') ∧ Aside0 (Below w.heap.size w wr))
      case atStart => exact ⟨0, rfl, ⟨by omega⟩, HO3, HE, HT3, HB3⟩
      case round =>
        obtain ⟨kk, rfl, HI, HO, HE, HT, HB⟩ := hrel
        by_cases hlt : kk < d.size
        · have hltb : ((kk : Int) < (d.size : Int)) = True := eq_true (by omega)
          have hlt' : kk < d'.size := by rw [HSZ.out, ← HD.out]; exact hlt
          have HLT := Aside0.mk hlt
          have HLT' := Aside0.mk hlt'
          obtain ⟨x, hx⟩ : ∃ x, d'[kk] = x := ⟨_, rfl⟩
          have HX : Aside0 (d'[kk]? = some x) := ⟨by rw [← hx]; exact Array.getElem?_eq_getElem hlt'⟩
          have hc := HT.out.2 kk hlt'
          rw [hx] at hc
          have x0 : wr.cell? ⟨g, kk * 6, none⟩ = some (.int .i64 x.f0) := hc 0 _ rfl
          have x1 : wr.cell? ⟨g, kk * 6 + 1, none⟩ = some (.int .i64 x.f1) := hc 1 _ rfl
          have x2 : wr.cell? ⟨g, kk * 6 + 2, none⟩ = some (.int .i64 x.f2) := hc 2 _ rfl
          have x3 : wr.cell? ⟨g, kk * 6 + 3, none⟩ = some (.int .i64 x.f3) := hc 3 _ rfl
          have x4 : wr.cell? ⟨g, kk * 6 + 4, none⟩ = some (.int .i64 x.f4) := hc 4 _ rfl
          have x5 : wr.cell? ⟨g, kk * 6 + 5, none⟩ = some (.slice x.A x.n x.c) := hc 5 _ rfl
          clear hc hx hlt hlt'
          obtain ⟨ys, hys⟩ : ∃ ys, ys = (d'.toList.map (fun x => x.f0)).take kk := ⟨_, rfl⟩
          have HY := Aside0.mk hys
          have HO2 := HO.out
          rw [← hys] at HO2
          have HYL : Aside0 (ys.length ≤ 12) := ⟨by have := HLT.out; have := HD.out; have := HL.out; rw [hys]; simp; omega⟩
          clear hys HO
          have HO := Aside0.mk HO2
          clear HO2
          obtain ⟨A3, c3, e3⟩ := Kd.R_slice HO.out
          subst e3
          have hu61 := Try.underlying61
          have HW : Aside0 (wrap64 ((kk : Int) + 1) = ((kk + 1 : Nat) : Int)) := ⟨by have := HLT.out; have := HD.out; have := HL.out; unfold wrap64; omega⟩
          go_wp2_with (at_builtin; refine Kd.R_append (Kd.int .i64) (w0 := w) w.heap.size rfl (.tmp 22) (.tmp 25) 41 3 (.int .i64 0) 8 rfl Try.underlying41 (by kernel_rfl) rfl (by decide) (by omega) (.slice A3 ys.length c3) ys x.f0 [.int .i64 x.f0] (fun _ => True) (fun _ => False) rfl ?hx ?aP (fun _ h => h.elim) ?aF ?hO ?hB ?hs ?hl ?_; (case hx => exact congrArg (fun m => Value.slice (some ⟨m, 0, none⟩) 1 1) (by simp : wr.heap.size + 1 = (World.alloc _ _).heap.size)); (case aP => exact rfl); (case aF => exact fun _ _ => trivial); (case hO => exact Kd.R_alloc HO.out _); (case hB => exact below_alloc HB.out _); (case hs => exact Nat.le_trans HB.out.size (by simp)); (case hl => have := HYL.out; omega); intro v1 w4 hr hb hg hat; have H4 := Aside0.mk hr; have HB4 := Aside0.mk hb; have HG4 := Aside0.mk hg; have HAT := Aside0.mk hat; clear hr hb hg hat)
          go_roundg (d.size - (kk + 1))
          case measure => have := HI.out; have := HLT.out; omega
          case rel =>
            have hg := HT.out.1
            refine ⟨kk + 1, by rw [HW.out], ⟨by have := HLT.out; omega⟩, ⟨?_⟩, ⟨?_⟩, ⟨HT.out.step ?_ ?_⟩, HB4⟩
            · have e : (d'.toList.map (fun x => x.f0)).take (kk + 1) = (d'.toList.map (fun x => x.f0)).take kk ++ [x.f0] := by
                have hk : kk < (d'.toList.map (fun x => x.f0)).length := by simpa using HLT'.out
                rw [List.take_succ_eq_append_getElem hk]
                have := HX.out
                obtain ⟨_, hx⟩ := Array.getElem?_eq_some_iff.1 this
                simp [hx]
              rw [e, ← HY.out]
              exact H4.out
            · rcases HAT.out with e | ⟨b, e, hb⟩
              · rw [e]; exact HE.out
              · rw [e]
                simp only [ne_eq, Option.some.injEq]
                simp at hb
                omega
            · have := HG4.out.size
              simp at this
              omega
            · refine (HG4.out.block g (by simp; omega) (Ne.symm HE.out)).trans ?_
              exact heap_alloc_old _ _ hg
        · have hltb : ((kk : Int) < (d.size : Int)) = False := eq_false (by omega)
          have HLT := Aside0.mk hlt
          clear hlt
          go_wp2
          go_ret
          refine ⟨_, rfl, ?_, HB.out⟩
          have e : (d'.toList.map (fun x => x.f0)).take kk = (ordT l0).map (fun t => t.f0) := by
            rw [List.take_of_length_le (by have := HSZ.out; have := HD.out; have := HLT.out; simp; omega)]
            have := congrArg (List.map (fun k : K3 => k.2.2)) HR.out
            simpa [keyA, keyS, List.map_map, Function.comp_def] using this
          rw [← e]
          exact HO.out
end Go.Proofs.Ytiimiogpiflkdaa.A
end

section
namespace Go.Proofs.Ytiimiogpiflkdaa.A
open Go.RowKit Go.Proofs.YtiimiogpiflkdaaW.PrintWords Go.Proofs.YtiimiogpiflkdaaW.PrintLast Go.Proofs.YtiimiogpiflkdaaW.PrintMore
attribute [local go_sem] max2_int min2_int max_two min_two max_three min_three max_four min_four   -- for this text's walks alone
set_option linter.unusedVariables false
set_option linter.unusedSimpArgs false
def slices_Index_int_int.l0 : Nat → List Int → Int → Int → Int → Option (Int)
  | 0, _, _, _, _ => none
  | k + 1, x0, x1, x7, x8 => if x8 < x7 then (if 0 ≤ x8 then (if x8 < (x0.length : Int) then (if x1 = (rd x0 x8) then (some x8) else (slices_Index_int_int.l0 k x0 x1 x7 (wrap64 (x8 + 1)))) else (none)) else (none)) else (some (-1))
def slices_Index_int_int.f (k : Nat) (l0 : List Int) (a1 : Int) : Option (Int) := slices_Index_int_int.l0 k l0 a1 (l0.length : Int) 0
set_option maxHeartbeats 8000000 in
set_option maxRecDepth 100000 in
theorem slices_Index_int_int.calls (k : Nat) (A0 : Option Addr) (c0 : Nat) (l0 : List Int) (a1 : Int) (r : Int) (w : World) (hr0 : Kd.C (Kd.int .i64) w A0 l0.length l0) (hc0 : l0.length ≤ c0) (h : slices_Index_int_int.f k l0 a1 = some r) :
  Calls Try.prog 73 #[.slice A0 l0.length c0, .int .i64 a1] w fun e w' => e = .returned (.int .i64 r) ∧ Drawn0 w w' := by
 have HR0 := Aside0.mk hr0
 have HC0 := Aside0.mk hc0
 clear hr0 hc0
 have H : (slices_Index_int_int.l0 k l0 a1 (l0.length : Int) 0) = some r := h
 clear h
 have H' := Aside0.mk H
 clear H
 go_enter Try.func73, Try.ntmps73
 go_wp2
 go_loopg [8] k (fun kq v8 w' => ∃ (x8_1 : Int), v8 = .int .i64 x8_1 ∧ Aside0 (slices_Index_int_int.l0 kq l0 a1 (l0.length : Int) x8_1 = some r) ∧ Aside0 (kq ≤ k) ∧ Drawn0 w w')
 case atStart => exact ⟨(0), (by first | rfl | (simp; done) | (simp [*]; done)), H', ⟨Nat.le_refl _⟩, by repeat (first | exact Drawn0.refl _ | apply Drawn0.step)⟩
 case round =>
  clear H'
  try clear p2
  obtain ⟨x8_1, rfl, HA, HK1, ⟨m1, rfl⟩⟩ := hrel
  cases gk with
  | zero => exact absurd HA.out (by simp [slices_Index_int_int.l0])
  | succ k1 =>
   have H := HA.out
   clear HA
   simp only [slices_Index_int_int.l0] at H
   by_cases c3 : x8_1 < (l0.length : Int)
   ·
    rw [if_pos c3] at H
    have c3b0 : decide (x8_1 < (l0.length : Int)) = true := decide_eq_true c3
    clear c3
    by_cases c4 : 0 ≤ x8_1
    ·
     rw [if_pos c4] at H
     have c4b0 : decide (0 ≤ x8_1) = true := decide_eq_true c4
     clear c4
     by_cases c5 : x8_1 < (l0.length : Int)
     ·
      rw [if_pos c5] at H
      have c5b0 : decide (x8_1 < (l0.length : Int)) = true := decide_eq_true c5
      clear c5
      by_cases c6 : a1 = (rd l0 x8_1)
      ·
       rw [if_pos c6] at H
       have c6b0 : (a1 == (rd l0 x8_1)) = true := beq_iff_eq.mpr c6
       have c6b1 : (a1 != (rd l0 x8_1)) = false := bne_eq_false_iff_eq.mpr c6
       clear c6
       obtain rfl := Option.some.inj H
       have p201 : 0 ≤ (x8_1 : Int) := of_decide_eq_true (by first | (with_reducible assumption) | assumption)
       have q201 : x8_1 < (l0.length : Int) := of_decide_eq_true (by first | (with_reducible assumption) | assumption)
       obtain ⟨ad201, e201, hx201_0⟩ := Kd.at_int HR0.out x8_1 p201 q201
       cases e201
       replace p201 := eq_true p201
       replace q201 := eq_true q201
       go_wp2
       go_ret
       exact ⟨by first | rfl | (simp; done) | (simp [*]; done), by repeat (first | exact Drawn0.refl _ | apply Drawn0.step)⟩
      ·
       rw [if_neg c6] at H
       have c6b0 : (a1 == (rd l0 x8_1)) = false := beq_eq_false_iff_ne.mpr c6
       have c6b1 : (a1 != (rd l0 x8_1)) = true := bne_iff_ne.mpr c6
       have H' := Aside0.mk H
       clear H
       have p201 : 0 ≤ (x8_1 : Int) := of_decide_eq_true (by first | (with_reducible assumption) | assumption)
       have q201 : x8_1 < (l0.length : Int) := of_decide_eq_true (by first | (with_reducible assumption) | assumption)
       obtain ⟨ad201, e201, hx201_0⟩ := Kd.at_int HR0.out x8_1 p201 q201
       cases e201
       replace p201 := eq_true p201
       replace q201 := eq_true q201
       go_wp2
       go_roundg k1
       case measure => have := HK1.out; omega
       case rel => exact ⟨(wrap64 (x8_1 + 1)), (by first | rfl | (simp; done) | (simp [*]; done)), H', ⟨by have := HK1.out; omega⟩, by repeat (first | exact Drawn0.refl _ | apply Drawn0.step)⟩
     ·
      rw [if_neg c5] at H
      exact absurd H (by simp)
    ·
     rw [if_neg c4] at H
     exact absurd H (by simp)
   ·
    rw [if_neg c3] at H
    have c3b0 : decide (x8_1 < (l0.length : Int)) = false := decide_eq_false c3
    clear c3
    obtain rfl := Option.some.inj H
    go_wp2
    go_ret
    exact ⟨by first | rfl | (simp; done) | (simp [*]; done), by repeat (first | exact Drawn0.refl _ | apply Drawn0.step)⟩
end Go.Proofs.Ytiimiogpiflkdaa.A
end
