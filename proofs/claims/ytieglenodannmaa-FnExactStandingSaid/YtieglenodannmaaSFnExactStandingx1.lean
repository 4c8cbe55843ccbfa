/- What the row FnExactStanding rests on, put together: A40, A41, A42, A44, Shelf, LHCmp, LHClo, LHSortT, LHCloT, LBase, LInt, LTeam1, A5, A15, LFind, A6, A16, LCnt, A4, LRngS, A13, LRngI, LTeamP, LHAreTi, LHStand, LHBef, LHAreTs, LHStandS. No condition. -/
import Derived.Test.YtieglenodannmaaSFnExactStandingx0
import Derived.Shelf.SlGeneric
import Derived.Ground.NamesProg
import Derived.Ground.SlsfProg
import Derived.Shelf.SlSortCmp.SmallK
import Derived.Shelf.Small.Bits
import Derived.Test.YtieglenodannmaaProg
import Derived.Shelf.Abstract
import Derived.StillTailTactics
import Derived.BigQuiet
import Derived.Shelf.SlSortCmp.NoneTotal
import Derived.Deep.RegionHeld3
section
namespace Go.Proofs.Ytieglenodannmaa.A
open Go.RowKit Go.Proofs.YtieglenodannmaaW.PrintWords Go.Proofs.YtieglenodannmaaW.PrintLast Go.Proofs.YtieglenodannmaaW.PrintMore
attribute [local go_sem] max2_int min2_int max_two min_two max_three min_three max_four min_four   -- for this text's walks alone
set_option linter.unusedVariables false
set_option linter.unusedSimpArgs false
def laws_eqTeam.f (k : Nat) (a0_0 : Int) (a0_1 : Int) (a0_2 : Int) (a0_3 : Int) (a0_4 : Int) (l0_5 : List Int) (a1_0 : Int) (a1_1 : Int) (a1_2 : Int) (a1_3 : Int) (a1_4 : Int) (l1_5 : List Int) : Option (Bool) := if a0_0 = a1_0 then (if a0_1 = a1_1 then (if a0_2 = a1_2 then (if a0_3 = a1_3 then (if a0_4 = a1_4 then ((laws_eqIntS.f k l0_5 l1_5).bind fun t140 => (if t140 = true then (some true) else (some false))) else (some false)) else (some false)) else (some false)) else (some false)) else (some false)
set_option maxHeartbeats 8000000 in
set_option maxRecDepth 100000 in
theorem laws_eqTeam.calls (k : Nat) (a0_0 : Int) (a0_1 : Int) (a0_2 : Int) (a0_3 : Int) (a0_4 : Int) (A0_5 : Option Addr) (c0_5 : Nat) (l0_5 : List Int) (a1_0 : Int) (a1_1 : Int) (a1_2 : Int) (a1_3 : Int) (a1_4 : Int) (A1_5 : Option Addr) (c1_5 : Nat) (l1_5 : List Int) (r : Bool) (w : World) (hr0_5 : Kd.C (Kd.int .i64) w A0_5 l0_5.length l0_5) (hc0_5 : l0_5.length ≤ c0_5) (hr1_5 : Kd.C (Kd.int .i64) w A1_5 l1_5.length l1_5) (hc1_5 : l1_5.length ≤ c1_5) (h : laws_eqTeam.f k a0_0 a0_1 a0_2 a0_3 a0_4 l0_5 a1_0 a1_1 a1_2 a1_3 a1_4 l1_5 = some r) :
  Calls Try.prog 23 #[.agg #[.int .i64 a0_0, .int .i64 a0_1, .int .i64 a0_2, .int .i64 a0_3, .int .i64 a0_4, .slice A0_5 l0_5.length c0_5], .agg #[.int .i64 a1_0, .int .i64 a1_1, .int .i64 a1_2, .int .i64 a1_3, .int .i64 a1_4, .slice A1_5 l1_5.length c1_5]] w fun e w' => e = .returned (.bool r) ∧ Below w.heap.size w w' := by
 have hu38 := Try.underlying38
 have HR0_5 := Aside0.mk hr0_5
 have HC0_5 := Aside0.mk hc0_5
 clear hr0_5 hc0_5
 have HR1_5 := Aside0.mk hr1_5
 have HC1_5 := Aside0.mk hc1_5
 clear hr1_5 hc1_5
 have HB := Aside0.mk (Below.refl w.heap.size w)
 have H : (if a0_0 = a1_0 then (if a0_1 = a1_1 then (if a0_2 = a1_2 then (if a0_3 = a1_3 then (if a0_4 = a1_4 then ((laws_eqIntS.f k l0_5 l1_5).bind fun t140 => (if t140 = true then (some true) else (some false))) else (some false)) else (some false)) else (some false)) else (some false)) else (some false)) = some r := h
 clear h
 by_cases c3 : a0_0 = a1_0
 ·
  rw [if_pos c3] at H
  have c3b0 : (a0_0 == a1_0) = true := beq_iff_eq.mpr c3
  have c3b1 : (a0_0 != a1_0) = false := bne_eq_false_iff_eq.mpr c3
  clear c3
  by_cases c4 : a0_1 = a1_1
  ·
   rw [if_pos c4] at H
   have c4b0 : (a0_1 == a1_1) = true := beq_iff_eq.mpr c4
   have c4b1 : (a0_1 != a1_1) = false := bne_eq_false_iff_eq.mpr c4
   clear c4
   by_cases c5 : a0_2 = a1_2
   ·
    rw [if_pos c5] at H
    have c5b0 : (a0_2 == a1_2) = true := beq_iff_eq.mpr c5
    have c5b1 : (a0_2 != a1_2) = false := bne_eq_false_iff_eq.mpr c5
    clear c5
    by_cases c6 : a0_3 = a1_3
    ·
     rw [if_pos c6] at H
     have c6b0 : (a0_3 == a1_3) = true := beq_iff_eq.mpr c6
     have c6b1 : (a0_3 != a1_3) = false := bne_eq_false_iff_eq.mpr c6
     clear c6
     by_cases c7 : a0_4 = a1_4
     ·
      rw [if_pos c7] at H
      have c7b0 : (a0_4 == a1_4) = true := beq_iff_eq.mpr c7
      have c7b1 : (a0_4 != a1_4) = false := bne_eq_false_iff_eq.mpr c7
      clear c7
      replace H := Option.bind_eq_some_iff.mp H
      obtain ⟨t140, A80, H⟩ := H
      replace H : (if t140 = true then (some true) else (some false)) = some r := H
      have A8 := Aside0.mk A80
      clear A80
      by_cases c9 : t140 = true
      ·
       subst c9
       have H1 : (some true) = some r := by rw [if_pos rfl] at H; exact H
       clear H
       have H := H1
       clear H1
       obtain rfl := Option.some.inj H
       go_enter Try.func23, Try.ntmps23
       go_wp2_with (first | ((with_reducible refine gate_dst (N := 2) rfl ?_); refine box_event ?hg (N := 2) ?hd (cs := #[.int .i64 a0_0, .int .i64 a0_1, .int .i64 a0_2, .int .i64 a0_3, .int .i64 a0_4, .slice A0_5 l0_5.length c0_5]) (t := 38) ?hr ?_; (case hd => rfl); (case hg => rfl); (case hr => first | (go_simp; done) | (go_simp; rfl)); intro gb138 hg w10 hbox hb; have n0_ := Aside0.mk (below_step (by repeat (first | (with_reducible first | exact HB.out | apply below_alloc | apply pw_below_drewN | apply below_drew1) | exact HB.out)) hb); have n1_ := Aside0.mk (hbox); have n2_ := Aside0.mk ((by rw [hg]; exact (below_size (by repeat (first | (with_reducible first | exact HB.out | apply below_alloc | apply pw_below_drewN | apply below_drew1) | exact HB.out))) : w.heap.size ≤ gb138)); have n3_ := Aside0.mk ((by rw [hg]; exact (below_size (by repeat (first | (with_reducible first | exact HB.out | apply below_alloc | apply pw_below_drewN | apply below_drew1) | exact HB.out))) : w.heap.size ≤ gb138)); clear HB; have HB := n0_; have BK138 := n1_; have GW138 := n2_; have GE138 := n3_; clear n0_ n1_ n2_ n3_; clear hb hbox hg) | ((with_reducible refine gate_dst (N := 3) rfl ?_); refine box_event ?hg (N := 3) ?hd (cs := #[.int .i64 a1_0, .int .i64 a1_1, .int .i64 a1_2, .int .i64 a1_3, .int .i64 a1_4, .slice A1_5 l1_5.length c1_5]) (t := 38) ?hr ?_; (case hd => rfl); (case hg => rfl); (case hr => first | (go_simp; done) | (go_simp; rfl)); intro gb139 hg w11 hbox hb; have n0_ := Aside0.mk (blk_below (g := gb138) (o := .cells #[.int .i64 a0_0, .int .i64 a0_1, .int .i64 a0_2, .int .i64 a0_3, .int .i64 a0_4, .slice A0_5 l0_5.length c0_5] 38 (0, 0)) (by (with_reducible repeat (first | refine blk_drewN ?_ _ | refine blk_drew ?_ | refine blk_alloc ?_ _)); exact BK138.out) hb); have n1_ := Aside0.mk (below_step (by repeat (first | (with_reducible first | exact HB.out | apply below_alloc | apply pw_below_drewN | apply below_drew1 | refine below_set ?_ GE138.out) | exact HB.out)) hb); have n2_ := Aside0.mk (hbox); have n3_ := Aside0.mk ((by rw [hg]; exact (below_size (by repeat (first | (with_reducible first | exact HB.out | apply below_alloc | apply pw_below_drewN | apply below_drew1 | refine below_set ?_ GE138.out) | exact HB.out))) : w.heap.size ≤ gb139)); have n4_ := Aside0.mk ((by rw [hg]; exact (below_size (by repeat (first | (with_reducible first | exact HB.out | apply below_alloc | apply pw_below_drewN | apply below_drew1 | refine below_set ?_ GE138.out) | exact HB.out))) : w.heap.size ≤ gb139)); have n5_ := Aside0.mk ((by rw [hg]; exact Nat.ne_of_lt (blk_lt (g := gb138) (o := .cells #[.int .i64 a0_0, .int .i64 a0_1, .int .i64 a0_2, .int .i64 a0_3, .int .i64 a0_4, .slice A0_5 l0_5.length c0_5] 38 (0, 0)) (by (with_reducible repeat (first | refine blk_drewN ?_ _ | refine blk_drew ?_ | refine blk_alloc ?_ _)); exact BK138.out)) : gb138 ≠ gb139)); have n6_ := Aside0.mk ((by rw [hg]; exact Nat.ne_of_gt (blk_lt (g := gb138) (o := .cells #[.int .i64 a0_0, .int .i64 a0_1, .int .i64 a0_2, .int .i64 a0_3, .int .i64 a0_4, .slice A0_5 l0_5.length c0_5] 38 (0, 0)) (by (with_reducible repeat (first | refine blk_drewN ?_ _ | refine blk_drew ?_ | refine blk_alloc ?_ _)); exact BK138.out)) : gb139 ≠ gb138)); clear BK138; clear HB; have BK138 := n0_; have HB := n1_; have BK139 := n2_; have GW139 := n3_; have GE139 := n4_; have NB138_139 := n5_; have NB139_138 := n6_; clear n0_ n1_ n2_ n3_ n4_ n5_ n6_; clear hb hbox hg; have hnb12 := NB138_139.out; have hnc12 := NB139_138.out; have hcz13_0 : w11.cell? ⟨gb138, 0, none⟩ = some (.int .i64 a0_0) := (blk_cell BK138.out 0).trans rfl; have hcz13_1 : w11.cell? ⟨gb138, 1, none⟩ = some (.int .i64 a0_1) := (blk_cell BK138.out 1).trans rfl; have hcz13_2 : w11.cell? ⟨gb138, 2, none⟩ = some (.int .i64 a0_2) := (blk_cell BK138.out 2).trans rfl; have hcz13_3 : w11.cell? ⟨gb138, 3, none⟩ = some (.int .i64 a0_3) := (blk_cell BK138.out 3).trans rfl; have hcz13_4 : w11.cell? ⟨gb138, 4, none⟩ = some (.int .i64 a0_4) := (blk_cell BK138.out 4).trans rfl; have hcz13_5 : w11.cell? ⟨gb138, 5, none⟩ = some (.slice A0_5 l0_5.length c0_5) := (blk_cell BK138.out 5).trans rfl; have hfz13_0 := blk_frozen BK138.out 0; have hfz13_1 := blk_frozen BK138.out 1; have hfz13_2 := blk_frozen BK138.out 2; have hfz13_3 := blk_frozen BK138.out 3; have hfz13_4 := blk_frozen BK138.out 4; have hfz13_5 := blk_frozen BK138.out 5; have hcz14_0 : w11.cell? ⟨gb139, 0, none⟩ = some (.int .i64 a1_0) := (blk_cell BK139.out 0).trans rfl; have hcz14_1 : w11.cell? ⟨gb139, 1, none⟩ = some (.int .i64 a1_1) := (blk_cell BK139.out 1).trans rfl; have hcz14_2 : w11.cell? ⟨gb139, 2, none⟩ = some (.int .i64 a1_2) := (blk_cell BK139.out 2).trans rfl; have hcz14_3 : w11.cell? ⟨gb139, 3, none⟩ = some (.int .i64 a1_3) := (blk_cell BK139.out 3).trans rfl; have hcz14_4 : w11.cell? ⟨gb139, 4, none⟩ = some (.int .i64 a1_4) := (blk_cell BK139.out 4).trans rfl; have hcz14_5 : w11.cell? ⟨gb139, 5, none⟩ = some (.slice A1_5 l1_5.length c1_5) := (blk_cell BK139.out 5).trans rfl; have hfz14_0 := blk_frozen BK139.out 0; have hfz14_1 := blk_frozen BK139.out 1; have hfz14_2 := blk_frozen BK139.out 2; have hfz14_3 := blk_frozen BK139.out 3; have hfz14_4 := blk_frozen BK139.out 4; have hfz14_5 := blk_frozen BK139.out 5) | ((with_reducible refine gate_callee (f := 8) rfl ?_); refine goesL_ (some 34) rfl rfl Try.func8 (by kernel_rfl) rfl #[.slice A0_5 l0_5.length c0_5, .slice A1_5 l1_5.length c1_5] rfl (by (try simp only [List.map_toArray, List.map_cons, List.map_nil]); first | done | rfl | (simp only [List.length_drop, List.length_take]; rfl)) ?_; (with_reducible refine (laws_eqIntS.calls k _ _ l0_5 _ _ l1_5 true _ ?side1 ?side2 ?side3 ?side4 A8.out).mono ?_); (case side1 => repeat (first | exact (Kd.C_below HR0_5.out HB.out) | (with_reducible refine Kd.C_alloc ?_ _) | (with_reducible refine Kd.C_drewN ?_ _) | (with_reducible refine Kd.C_drew ?_))); (case side2 => exact HC0_5.out); (case side3 => repeat (first | exact (Kd.C_below HR1_5.out HB.out) | (with_reducible refine Kd.C_alloc ?_ _) | (with_reducible refine Kd.C_drewN ?_ _) | (with_reducible refine Kd.C_drew ?_))); (case side4 => exact HC1_5.out); rintro e w' ⟨rfl, ⟨nd, rfl⟩⟩; refine ⟨_, rfl, ?_⟩))
       go_ret
       exact ⟨by first | rfl | (simp [errW_none, errW_some] <;> rfl) | (simp [*, errW_none, errW_some] <;> rfl), by repeat (first | (with_reducible first | exact HB.out | apply below_alloc | apply pw_below_drewN | apply below_drew1 | refine below_set ?_ GE138.out | refine below_set ?_ GE139.out) | exact HB.out)⟩
      ·
       replace c9 := Bool.eq_false_iff.mpr c9
       subst c9
       have H1 : (some false) = some r := by rw [if_neg (show ¬ (false = true) by decide)] at H; exact H
       clear H
       have H := H1
       clear H1
       obtain rfl := Option.some.inj H
       go_enter Try.func23, Try.ntmps23
       go_wp2_with (first | ((with_reducible refine gate_dst (N := 2) rfl ?_); refine box_event ?hg (N := 2) ?hd (cs := #[.int .i64 a0_0, .int .i64 a0_1, .int .i64 a0_2, .int .i64 a0_3, .int .i64 a0_4, .slice A0_5 l0_5.length c0_5]) (t := 38) ?hr ?_; (case hd => rfl); (case hg => rfl); (case hr => first | (go_simp; done) | (go_simp; rfl)); intro gb138 hg w15 hbox hb; have n0_ := Aside0.mk (below_step (by repeat (first | (with_reducible first | exact HB.out | apply below_alloc | apply pw_below_drewN | apply below_drew1) | exact HB.out)) hb); have n1_ := Aside0.mk (hbox); have n2_ := Aside0.mk ((by rw [hg]; exact (below_size (by repeat (first | (with_reducible first | exact HB.out | apply below_alloc | apply pw_below_drewN | apply below_drew1) | exact HB.out))) : w.heap.size ≤ gb138)); have n3_ := Aside0.mk ((by rw [hg]; exact (below_size (by repeat (first | (with_reducible first | exact HB.out | apply below_alloc | apply pw_below_drewN | apply below_drew1) | exact HB.out))) : w.heap.size ≤ gb138)); clear HB; have HB := n0_; have BK138 := n1_; have GW138 := n2_; have GE138 := n3_; clear n0_ n1_ n2_ n3_; clear hb hbox hg) | ((with_reducible refine gate_dst (N := 3) rfl ?_); refine box_event ?hg (N := 3) ?hd (cs := #[.int .i64 a1_0, .int .i64 a1_1, .int .i64 a1_2, .int .i64 a1_3, .int .i64 a1_4, .slice A1_5 l1_5.length c1_5]) (t := 38) ?hr ?_; (case hd => rfl); (case hg => rfl); (case hr => first | (go_simp; done) | (go_simp; rfl)); intro gb139 hg w16 hbox hb; have n0_ := Aside0.mk (blk_below (g := gb138) (o := .cells #[.int .i64 a0_0, .int .i64 a0_1, .int .i64 a0_2, .int .i64 a0_3, .int .i64 a0_4, .slice A0_5 l0_5.length c0_5] 38 (0, 0)) (by (with_reducible repeat (first | refine blk_drewN ?_ _ | refine blk_drew ?_ | refine blk_alloc ?_ _)); exact BK138.out) hb); have n1_ := Aside0.mk (below_step (by repeat (first | (with_reducible first | exact HB.out | apply below_alloc | apply pw_below_drewN | apply below_drew1 | refine below_set ?_ GE138.out) | exact HB.out)) hb); have n2_ := Aside0.mk (hbox); have n3_ := Aside0.mk ((by rw [hg]; exact (below_size (by repeat (first | (with_reducible first | exact HB.out | apply below_alloc | apply pw_below_drewN | apply below_drew1 | refine below_set ?_ GE138.out) | exact HB.out))) : w.heap.size ≤ gb139)); have n4_ := Aside0.mk ((by rw [hg]; exact (below_size (by repeat (first | (with_reducible first | exact HB.out | apply below_alloc | apply pw_below_drewN | apply below_drew1 | refine below_set ?_ GE138.out) | exact HB.out))) : w.heap.size ≤ gb139)); have n5_ := Aside0.mk ((by rw [hg]; exact Nat.ne_of_lt (blk_lt (g := gb138) (o := .cells #[.int .i64 a0_0, .int .i64 a0_1, .int .i64 a0_2, .int .i64 a0_3, .int .i64 a0_4, .slice A0_5 l0_5.length c0_5] 38 (0, 0)) (by (with_reducible repeat (first | refine blk_drewN ?_ _ | refine blk_drew ?_ | refine blk_alloc ?_ _)); exact BK138.out)) : gb138 ≠ gb139)); have n6_ := Aside0.mk ((by rw [hg]; exact Nat.ne_of_gt (blk_lt (g := gb138) (o := .cells #[.int .i64 a0_0, .int .i64 a0_1, .int .i64 a0_2, .int .i64 a0_3, .int .i64 a0_4, .slice A0_5 l0_5.length c0_5] 38 (0, 0)) (by (with_reducible repeat (first | refine blk_drewN ?_ _ | refine blk_drew ?_ | refine blk_alloc ?_ _)); exact BK138.out)) : gb139 ≠ gb138)); clear BK138; clear HB; have BK138 := n0_; have HB := n1_; have BK139 := n2_; have GW139 := n3_; have GE139 := n4_; have NB138_139 := n5_; have NB139_138 := n6_; clear n0_ n1_ n2_ n3_ n4_ n5_ n6_; clear hb hbox hg; have hnb17 := NB138_139.out; have hnc17 := NB139_138.out; have hcz18_0 : w16.cell? ⟨gb138, 0, none⟩ = some (.int .i64 a0_0) := (blk_cell BK138.out 0).trans rfl; have hcz18_1 : w16.cell? ⟨gb138, 1, none⟩ = some (.int .i64 a0_1) := (blk_cell BK138.out 1).trans rfl; have hcz18_2 : w16.cell? ⟨gb138, 2, none⟩ = some (.int .i64 a0_2) := (blk_cell BK138.out 2).trans rfl; have hcz18_3 : w16.cell? ⟨gb138, 3, none⟩ = some (.int .i64 a0_3) := (blk_cell BK138.out 3).trans rfl; have hcz18_4 : w16.cell? ⟨gb138, 4, none⟩ = some (.int .i64 a0_4) := (blk_cell BK138.out 4).trans rfl; have hcz18_5 : w16.cell? ⟨gb138, 5, none⟩ = some (.slice A0_5 l0_5.length c0_5) := (blk_cell BK138.out 5).trans rfl; have hfz18_0 := blk_frozen BK138.out 0; have hfz18_1 := blk_frozen BK138.out 1; have hfz18_2 := blk_frozen BK138.out 2; have hfz18_3 := blk_frozen BK138.out 3; have hfz18_4 := blk_frozen BK138.out 4; have hfz18_5 := blk_frozen BK138.out 5; have hcz19_0 : w16.cell? ⟨gb139, 0, none⟩ = some (.int .i64 a1_0) := (blk_cell BK139.out 0).trans rfl; have hcz19_1 : w16.cell? ⟨gb139, 1, none⟩ = some (.int .i64 a1_1) := (blk_cell BK139.out 1).trans rfl; have hcz19_2 : w16.cell? ⟨gb139, 2, none⟩ = some (.int .i64 a1_2) := (blk_cell BK139.out 2).trans rfl; have hcz19_3 : w16.cell? ⟨gb139, 3, none⟩ = some (.int .i64 a1_3) := (blk_cell BK139.out 3).trans rfl; have hcz19_4 : w16.cell? ⟨gb139, 4, none⟩ = some (.int .i64 a1_4) := (blk_cell BK139.out 4).trans rfl; have hcz19_5 : w16.cell? ⟨gb139, 5, none⟩ = some (.slice A1_5 l1_5.length c1_5) := (blk_cell BK139.out 5).trans rfl; have hfz19_0 := blk_frozen BK139.out 0; have hfz19_1 := blk_frozen BK139.out 1; have hfz19_2 := blk_frozen BK139.out 2; have hfz19_3 := blk_frozen BK139.out 3; have hfz19_4 := blk_frozen BK139.out 4; have hfz19_5 := blk_frozen BK139.out 5) | ((with_reducible refine gate_callee (f := 8) rfl ?_); refine goesL_ (some 34) rfl rfl Try.func8 (by kernel_rfl) rfl #[.slice A0_5 l0_5.length c0_5, .slice A1_5 l1_5.length c1_5] rfl (by (try simp only [List.map_toArray, List.map_cons, List.map_nil]); first | done | rfl | (simp only [List.length_drop, List.length_take]; rfl)) ?_; (with_reducible refine (laws_eqIntS.calls k _ _ l0_5 _ _ l1_5 false _ ?side1 ?side2 ?side3 ?side4 A8.out).mono ?_); (case side1 => repeat (first | exact (Kd.C_below HR0_5.out HB.out) | (with_reducible refine Kd.C_alloc ?_ _) | (with_reducible refine Kd.C_drewN ?_ _) | (with_reducible refine Kd.C_drew ?_))); (case side2 => exact HC0_5.out); (case side3 => repeat (first | exact (Kd.C_below HR1_5.out HB.out) | (with_reducible refine Kd.C_alloc ?_ _) | (with_reducible refine Kd.C_drewN ?_ _) | (with_reducible refine Kd.C_drew ?_))); (case side4 => exact HC1_5.out); rintro e w' ⟨rfl, ⟨nd, rfl⟩⟩; refine ⟨_, rfl, ?_⟩))
       go_ret
       exact ⟨by first | rfl | (simp [errW_none, errW_some] <;> rfl) | (simp [*, errW_none, errW_some] <;> rfl), by repeat (first | (with_reducible first | exact HB.out | apply below_alloc | apply pw_below_drewN | apply below_drew1 | refine below_set ?_ GE138.out | refine below_set ?_ GE139.out) | exact HB.out)⟩
     ·
      rw [if_neg c7] at H
      have c7b0 : (a0_4 == a1_4) = false := beq_eq_false_iff_ne.mpr c7
      have c7b1 : (a0_4 != a1_4) = true := bne_iff_ne.mpr c7
      obtain rfl := Option.some.inj H
      go_enter Try.func23, Try.ntmps23
      go_wp2_with (first | ((with_reducible refine gate_dst (N := 2) rfl ?_); refine box_event ?hg (N := 2) ?hd (cs := #[.int .i64 a0_0, .int .i64 a0_1, .int .i64 a0_2, .int .i64 a0_3, .int .i64 a0_4, .slice A0_5 l0_5.length c0_5]) (t := 38) ?hr ?_; (case hd => rfl); (case hg => rfl); (case hr => first | (go_simp; done) | (go_simp; rfl)); intro gb138 hg w20 hbox hb; have n0_ := Aside0.mk (below_step (by repeat (first | (with_reducible first | exact HB.out | apply below_alloc | apply pw_below_drewN | apply below_drew1) | exact HB.out)) hb); have n1_ := Aside0.mk (hbox); have n2_ := Aside0.mk ((by rw [hg]; exact (below_size (by repeat (first | (with_reducible first | exact HB.out | apply below_alloc | apply pw_below_drewN | apply below_drew1) | exact HB.out))) : w.heap.size ≤ gb138)); have n3_ := Aside0.mk ((by rw [hg]; exact (below_size (by repeat (first | (with_reducible first | exact HB.out | apply below_alloc | apply pw_below_drewN | apply below_drew1) | exact HB.out))) : w.heap.size ≤ gb138)); clear HB; have HB := n0_; have BK138 := n1_; have GW138 := n2_; have GE138 := n3_; clear n0_ n1_ n2_ n3_; clear hb hbox hg) | ((with_reducible refine gate_dst (N := 3) rfl ?_); refine box_event ?hg (N := 3) ?hd (cs := #[.int .i64 a1_0, .int .i64 a1_1, .int .i64 a1_2, .int .i64 a1_3, .int .i64 a1_4, .slice A1_5 l1_5.length c1_5]) (t := 38) ?hr ?_; (case hd => rfl); (case hg => rfl); (case hr => first | (go_simp; done) | (go_simp; rfl)); intro gb139 hg w21 hbox hb; have n0_ := Aside0.mk (blk_below (g := gb138) (o := .cells #[.int .i64 a0_0, .int .i64 a0_1, .int .i64 a0_2, .int .i64 a0_3, .int .i64 a0_4, .slice A0_5 l0_5.length c0_5] 38 (0, 0)) (by (with_reducible repeat (first | refine blk_drewN ?_ _ | refine blk_drew ?_ | refine blk_alloc ?_ _)); exact BK138.out) hb); have n1_ := Aside0.mk (below_step (by repeat (first | (with_reducible first | exact HB.out | apply below_alloc | apply pw_below_drewN | apply below_drew1 | refine below_set ?_ GE138.out) | exact HB.out)) hb); have n2_ := Aside0.mk (hbox); have n3_ := Aside0.mk ((by rw [hg]; exact (below_size (by repeat (first | (with_reducible first | exact HB.out | apply below_alloc | apply pw_below_drewN | apply below_drew1 | refine below_set ?_ GE138.out) | exact HB.out))) : w.heap.size ≤ gb139)); have n4_ := Aside0.mk ((by rw [hg]; exact (below_size (by repeat (first | (with_reducible first | exact HB.out | apply below_alloc | apply pw_below_drewN | apply below_drew1 | refine below_set ?_ GE138.out) | exact HB.out))) : w.heap.size ≤ gb139)); have n5_ := Aside0.mk ((by rw [hg]; exact Nat.ne_of_lt (blk_lt (g := gb138) (o := .cells #[.int .i64 a0_0, .int .i64 a0_1, .int .i64 a0_2, .int .i64 a0_3, .int .i64 a0_4, .slice A0_5 l0_5.length c0_5] 38 (0, 0)) (by (with_reducible repeat (first | refine blk_drewN ?_ _ | refine blk_drew ?_ | refine blk_alloc ?_ _)); exact BK138.out)) : gb138 ≠ gb139)); have n6_ := Aside0.mk ((by rw [hg]; exact Nat.ne_of_gt (blk_lt (g := gb138) (o := .cells #[.int .i64 a0_0, .int .i64 a0_1, .int .i64 a0_2, .int .i64 a0_3, .int .i64 a0_4, .slice A0_5 l0_5.length c0_5] 38 (0, 0)) (by (with_reducible repeat (first | refine blk_drewN ?_ _ | refine blk_drew ?_ | refine blk_alloc ?_ _)); exact BK138.out)) : gb139 ≠ gb138)); clear BK138; clear HB; have BK138 := n0_; have HB := n1_; have BK139 := n2_; have GW139 := n3_; have GE139 := n4_; have NB138_139 := n5_; have NB139_138 := n6_; clear n0_ n1_ n2_ n3_ n4_ n5_ n6_; clear hb hbox hg; have hnb22 := NB138_139.out; have hnc22 := NB139_138.out; have hcz23_0 : w21.cell? ⟨gb138, 0, none⟩ = some (.int .i64 a0_0) := (blk_cell BK138.out 0).trans rfl; have hcz23_1 : w21.cell? ⟨gb138, 1, none⟩ = some (.int .i64 a0_1) := (blk_cell BK138.out 1).trans rfl; have hcz23_2 : w21.cell? ⟨gb138, 2, none⟩ = some (.int .i64 a0_2) := (blk_cell BK138.out 2).trans rfl; have hcz23_3 : w21.cell? ⟨gb138, 3, none⟩ = some (.int .i64 a0_3) := (blk_cell BK138.out 3).trans rfl; have hcz23_4 : w21.cell? ⟨gb138, 4, none⟩ = some (.int .i64 a0_4) := (blk_cell BK138.out 4).trans rfl; have hcz23_5 : w21.cell? ⟨gb138, 5, none⟩ = some (.slice A0_5 l0_5.length c0_5) := (blk_cell BK138.out 5).trans rfl; have hfz23_0 := blk_frozen BK138.out 0; have hfz23_1 := blk_frozen BK138.out 1; have hfz23_2 := blk_frozen BK138.out 2; have hfz23_3 := blk_frozen BK138.out 3; have hfz23_4 := blk_frozen BK138.out 4; have hfz23_5 := blk_frozen BK138.out 5; have hcz24_0 : w21.cell? ⟨gb139, 0, none⟩ = some (.int .i64 a1_0) := (blk_cell BK139.out 0).trans rfl; have hcz24_1 : w21.cell? ⟨gb139, 1, none⟩ = some (.int .i64 a1_1) := (blk_cell BK139.out 1).trans rfl; have hcz24_2 : w21.cell? ⟨gb139, 2, none⟩ = some (.int .i64 a1_2) := (blk_cell BK139.out 2).trans rfl; have hcz24_3 : w21.cell? ⟨gb139, 3, none⟩ = some (.int .i64 a1_3) := (blk_cell BK139.out 3).trans rfl; have hcz24_4 : w21.cell? ⟨gb139, 4, none⟩ = some (.int .i64 a1_4) := (blk_cell BK139.out 4).trans rfl; have hcz24_5 : w21.cell? ⟨gb139, 5, none⟩ = some (.slice A1_5 l1_5.length c1_5) := (blk_cell BK139.out 5).trans rfl; have hfz24_0 := blk_frozen BK139.out 0; have hfz24_1 := blk_frozen BK139.out 1; have hfz24_2 := blk_frozen BK139.out 2; have hfz24_3 := blk_frozen BK139.out 3; have hfz24_4 := blk_frozen BK139.out 4; have hfz24_5 := blk_frozen BK139.out 5))
      go_ret
      exact ⟨by first | rfl | (simp [errW_none, errW_some] <;> rfl) | (simp [*, errW_none, errW_some] <;> rfl), by repeat (first | (with_reducible first | exact HB.out | apply below_alloc | apply pw_below_drewN | apply below_drew1 | refine below_set ?_ GE138.out | refine below_set ?_ GE139.out) | exact HB.out)⟩
    ·
     rw [if_neg c6] at H
     have c6b0 : (a0_3 == a1_3) = false := beq_eq_false_iff_ne.mpr c6
     have c6b1 : (a0_3 != a1_3) = true := bne_iff_ne.mpr c6
     obtain rfl := Option.some.inj H
     go_enter Try.func23, Try.ntmps23
     go_wp2_with (first | ((with_reducible refine gate_dst (N := 2) rfl ?_); refine box_event ?hg (N := 2) ?hd (cs := #[.int .i64 a0_0, .int .i64 a0_1, .int .i64 a0_2, .int .i64 a0_3, .int .i64 a0_4, .slice A0_5 l0_5.length c0_5]) (t := 38) ?hr ?_; (case hd => rfl); (case hg => rfl); (case hr => first | (go_simp; done) | (go_simp; rfl)); intro gb138 hg w25 hbox hb; have n0_ := Aside0.mk (below_step (by repeat (first | (with_reducible first | exact HB.out | apply below_alloc | apply pw_below_drewN | apply below_drew1) | exact HB.out)) hb); have n1_ := Aside0.mk (hbox); have n2_ := Aside0.mk ((by rw [hg]; exact (below_size (by repeat (first | (with_reducible first | exact HB.out | apply below_alloc | apply pw_below_drewN | apply below_drew1) | exact HB.out))) : w.heap.size ≤ gb138)); have n3_ := Aside0.mk ((by rw [hg]; exact (below_size (by repeat (first | (with_reducible first | exact HB.out | apply below_alloc | apply pw_below_drewN | apply below_drew1) | exact HB.out))) : w.heap.size ≤ gb138)); clear HB; have HB := n0_; have BK138 := n1_; have GW138 := n2_; have GE138 := n3_; clear n0_ n1_ n2_ n3_; clear hb hbox hg) | ((with_reducible refine gate_dst (N := 3) rfl ?_); refine box_event ?hg (N := 3) ?hd (cs := #[.int .i64 a1_0, .int .i64 a1_1, .int .i64 a1_2, .int .i64 a1_3, .int .i64 a1_4, .slice A1_5 l1_5.length c1_5]) (t := 38) ?hr ?_; (case hd => rfl); (case hg => rfl); (case hr => first | (go_simp; done) | (go_simp; rfl)); intro gb139 hg w26 hbox hb; have n0_ := Aside0.mk (blk_below (g := gb138) (o := .cells #[.int .i64 a0_0, .int .i64 a0_1, .int .i64 a0_2, .int .i64 a0_3, .int .i64 a0_4, .slice A0_5 l0_5.length c0_5] 38 (0, 0)) (by (with_reducible repeat (first | refine blk_drewN ?_ _ | refine blk_drew ?_ | refine blk_alloc ?_ _)); exact BK138.out) hb); have n1_ := Aside0.mk (below_step (by repeat (first | (with_reducible first | exact HB.out | apply below_alloc | apply pw_below_drewN | apply below_drew1 | refine below_set ?_ GE138.out) | exact HB.out)) hb); have n2_ := Aside0.mk (hbox); have n3_ := Aside0.mk ((by rw [hg]; exact (below_size (by repeat (first | (with_reducible first | exact HB.out | apply below_alloc | apply pw_below_drewN | apply below_drew1 | refine below_set ?_ GE138.out) | exact HB.out))) : w.heap.size ≤ gb139)); have n4_ := Aside0.mk ((by rw [hg]; exact (below_size (by repeat (first | (with_reducible first | exact HB.out | apply below_alloc | apply pw_below_drewN | apply below_drew1 | refine below_set ?_ GE138.out) | exact HB.out))) : w.heap.size ≤ gb139)); have n5_ := Aside0.mk ((by rw [hg]; exact Nat.ne_of_lt (blk_lt (g := gb138) (o := .cells #[.int .i64 a0_0, .int .i64 a0_1, .int .i64 a0_2, .int .i64 a0_3, .int .i64 a0_4, .slice A0_5 l0_5.length c0_5] 38 (0, 0)) (by (with_reducible repeat (first | refine blk_drewN ?_ _ | refine blk_drew ?_ | refine blk_alloc ?_ _)); exact BK138.out)) : gb138 ≠ gb139)); have n6_ := Aside0.mk ((by rw [hg]; exact Nat.ne_of_gt (blk_lt (g := gb138) (o := .cells #[.int .i64 a0_0, .int .i64 a0_1, .int .i64 a0_2, .int .i64 a0_3, .int .i64 a0_4, .slice A0_5 l0_5.length c0_5] 38 (0, 0)) (by (with_reducible repeat (first | refine blk_drewN ?_ _ | refine blk_drew ?_ | refine blk_alloc ?_ _)); exact BK138.out)) : gb139 ≠ gb138)); clear BK138; clear HB; have BK138 := n0_; have HB := n1_; have BK139 := n2_; have GW139 := n3_; have GE139 := n4_; have NB138_139 := n5_; have NB139_138 := n6_; clear n0_ n1_ n2_ n3_ n4_ n5_ n6_; clear hb hbox hg; have hnb27 := NB138_139.out; have hnc27 := NB139_138.out; have hcz28_0 : w26.cell? ⟨gb138, 0, none⟩ = some (.int .i64 a0_0) := (blk_cell BK138.out 0).trans rfl; have hcz28_1 : w26.cell? ⟨gb138, 1, none⟩ = some (.int .i64 a0_1) := (blk_cell BK138.out 1).trans rfl; have hcz28_2 : w26.cell? ⟨gb138, 2, none⟩ = some (.int .i64 a0_2) := (blk_cell BK138.out 2).trans rfl; have hcz28_3 : w26.cell? ⟨gb138, 3, none⟩ = some (.int .i64 a0_3) := (blk_cell BK138.out 3).trans rfl; have hcz28_4 : w26.cell? ⟨gb138, 4, none⟩ = some (.int .i64 a0_4) := (blk_cell BK138.out 4).trans rfl; have hcz28_5 : w26.cell? ⟨gb138, 5, none⟩ = some (.slice A0_5 l0_5.length c0_5) := (blk_cell BK138.out 5).trans rfl; have hfz28_0 := blk_frozen BK138.out 0; have hfz28_1 := blk_frozen BK138.out 1; have hfz28_2 := blk_frozen BK138.out 2; have hfz28_3 := blk_frozen BK138.out 3; have hfz28_4 := blk_frozen BK138.out 4; have hfz28_5 := blk_frozen BK138.out 5; have hcz29_0 : w26.cell? ⟨gb139, 0, none⟩ = some (.int .i64 a1_0) := (blk_cell BK139.out 0).trans rfl; have hcz29_1 : w26.cell? ⟨gb139, 1, none⟩ = some (.int .i64 a1_1) := (blk_cell BK139.out 1).trans rfl; have hcz29_2 : w26.cell? ⟨gb139, 2, none⟩ = some (.int .i64 a1_2) := (blk_cell BK139.out 2).trans rfl; have hcz29_3 : w26.cell? ⟨gb139, 3, none⟩ = some (.int .i64 a1_3) := (blk_cell BK139.out 3).trans rfl; have hcz29_4 : w26.cell? ⟨gb139, 4, none⟩ = some (.int .i64 a1_4) := (blk_cell BK139.out 4).trans rfl; have hcz29_5 : w26.cell? ⟨gb139, 5, none⟩ = some (.slice A1_5 l1_5.length c1_5) := (blk_cell BK139.out 5).trans rfl; have hfz29_0 := blk_frozen BK139.out 0; have hfz29_1 := blk_frozen BK139.out 1; have hfz29_2 := blk_frozen BK139.out 2; have hfz29_3 := blk_frozen BK139.out 3; have hfz29_4 := blk_frozen BK139.out 4; have hfz29_5 := blk_frozen BK139.out 5))
     go_ret
     exact ⟨by first | rfl | (simp [errW_none, errW_some] <;> rfl) | (simp [*, errW_none, errW_some] <;> rfl), by repeat (first | (with_reducible first | exact HB.out | apply below_alloc | apply pw_below_drewN | apply below_drew1 | refine below_set ?_ GE138.out | refine below_set ?_ GE139.out) | exact HB.out)⟩
   ·
    rw [if_neg c5] at H
    have c5b0 : (a0_2 == a1_2) = false := beq_eq_false_iff_ne.mpr c5
    have c5b1 : (a0_2 != a1_2) = true := bne_iff_ne.mpr c5
    obtain rfl := Option.some.inj H
    go_enter Try.func23, Try.ntmps23
    go_wp2_with (first | ((with_reducible refine gate_dst (N := 2) rfl ?_); refine box_event ?hg (N := 2) ?hd (cs := #[.int .i64 a0_0, .int .i64 a0_1, .int .i64 a0_2, .int .i64 a0_3, .int .i64 a0_4, .slice A0_5 l0_5.length c0_5]) (t := 38) ?hr ?_; (case hd => rfl); (case hg => rfl); (case hr => first | (go_simp; done) | (go_simp; rfl)); intro gb138 hg w30 hbox hb; have n0_ := Aside0.mk (below_step (by repeat (first | (with_reducible first | exact HB.out | apply below_alloc | apply pw_below_drewN | apply below_drew1) | exact HB.out)) hb); have n1_ := Aside0.mk (hbox); have n2_ := Aside0.mk ((by rw [hg]; exact (below_size (by repeat (first | (with_reducible first | exact HB.out | apply below_alloc | apply pw_below_drewN | apply below_drew1) | exact HB.out))) : w.heap.size ≤ gb138)); have n3_ := Aside0.mk ((by rw [hg]; exact (below_size (by repeat (first | (with_reducible first | exact HB.out | apply below_alloc | apply pw_below_drewN | apply below_drew1) | exact HB.out))) : w.heap.size ≤ gb138)); clear HB; have HB := n0_; have BK138 := n1_; have GW138 := n2_; have GE138 := n3_; clear n0_ n1_ n2_ n3_; clear hb hbox hg) | ((with_reducible refine gate_dst (N := 3) rfl ?_); refine box_event ?hg (N := 3) ?hd (cs := #[.int .i64 a1_0, .int .i64 a1_1, .int .i64 a1_2, .int .i64 a1_3, .int .i64 a1_4, .slice A1_5 l1_5.length c1_5]) (t := 38) ?hr ?_; (case hd => rfl); (case hg => rfl); (case hr => first | (go_simp; done) | (go_simp; rfl)); intro gb139 hg w31 hbox hb; have n0_ := Aside0.mk (blk_below (g := gb138) (o := .cells #[.int .i64 a0_0, .int .i64 a0_1, .int .i64 a0_2, .int .i64 a0_3, .int .i64 a0_4, .slice A0_5 l0_5.length c0_5] 38 (0, 0)) (by (with_reducible repeat (first | refine blk_drewN ?_ _ | refine blk_drew ?_ | refine blk_alloc ?_ _)); exact BK138.out) hb); have n1_ := Aside0.mk (below_step (by repeat (first | (with_reducible first | exact HB.out | apply below_alloc | apply pw_below_drewN | apply below_drew1 | refine below_set ?_ GE138.out) | exact HB.out)) hb); have n2_ := Aside0.mk (hbox); have n3_ := Aside0.mk ((by rw [hg]; exact (below_size (by repeat (first | (with_reducible first | exact HB.out | apply below_alloc | apply pw_below_drewN | apply below_drew1 | refine below_set ?_ GE138.out) | exact HB.out))) : w.heap.size ≤ gb139)); have n4_ := Aside0.mk ((by rw [hg]; exact (below_size (by repeat (first | (with_reducible first | exact HB.out | apply below_alloc | apply pw_below_drewN | apply below_drew1 | refine below_set ?_ GE138.out) | exact HB.out))) : w.heap.size ≤ gb139)); have n5_ := Aside0.mk ((by rw [hg]; exact Nat.ne_of_lt (blk_lt (g := gb138) (o := .cells #[.int .i64 a0_0, .int .i64 a0_1, .int .i64 a0_2, .int .i64 a0_3, .int .i64 a0_4, .slice A0_5 l0_5.length c0_5] 38 (0, 0)) (by (with_reducible repeat (first | refine blk_drewN ?_ _ | refine blk_drew ?_ | refine blk_alloc ?_ _)); exact BK138.out)) : gb138 ≠ gb139)); have n6_ := Aside0.mk ((by rw [hg]; exact Nat.ne_of_gt (blk_lt (g := gb138) (o := .cells #[.int .i64 a0_0, .int .i64 a0_1, .int .i64 a0_2, .int .i64 a0_3, .int .i64 a0_4, .slice A0_5 l0_5.length c0_5] 38 (0, 0)) (by (with_reducible repeat (first | refine blk_drewN ?_ _ | refine blk_drew ?_ | refine blk_alloc ?_ _)); exact BK138.out)) : gb139 ≠ gb138)); clear BK138; clear HB; have BK138 := n0_; have HB := n1_; have BK139 := n2_; have GW139 := n3_; have GE139 := n4_; have NB138_139 := n5_; have NB139_138 := n6_; clear n0_ n1_ n2_ n3_ n4_ n5_ n6_; clear hb hbox hg; have hnb32 := NB138_139.out; have hnc32 := NB139_138.out; have hcz33_0 : w31.cell? ⟨gb138, 0, none⟩ = some (.int .i64 a0_0) := (blk_cell BK138.out 0).trans rfl; have hcz33_1 : w31.cell? ⟨gb138, 1, none⟩ = some (.int .i64 a0_1) := (blk_cell BK138.out 1).trans rfl; have hcz33_2 : w31.cell? ⟨gb138, 2, none⟩ = some (.int .i64 a0_2) := (blk_cell BK138.out 2).trans rfl; have hcz33_3 : w31.cell? ⟨gb138, 3, none⟩ = some (.int .i64 a0_3) := (blk_cell BK138.out 3).trans rfl; have hcz33_4 : w31.cell? ⟨gb138, 4, none⟩ = some (.int .i64 a0_4) := (blk_cell BK138.out 4).trans rfl; have hcz33_5 : w31.cell? ⟨gb138, 5, none⟩ = some (.slice A0_5 l0_5.length c0_5) := (blk_cell BK138.out 5).trans rfl; have hfz33_0 := blk_frozen BK138.out 0; have hfz33_1 := blk_frozen BK138.out 1; have hfz33_2 := blk_frozen BK138.out 2; have hfz33_3 := blk_frozen BK138.out 3; have hfz33_4 := blk_frozen BK138.out 4; have hfz33_5 := blk_frozen BK138.out 5; have hcz34_0 : w31.cell? ⟨gb139, 0, none⟩ = some (.int .i64 a1_0) := (blk_cell BK139.out 0).trans rfl; have hcz34_1 : w31.cell? ⟨gb139, 1, none⟩ = some (.int .i64 a1_1) := (blk_cell BK139.out 1).trans rfl; have hcz34_2 : w31.cell? ⟨gb139, 2, none⟩ = some (.int .i64 a1_2) := (blk_cell BK139.out 2).trans rfl; have hcz34_3 : w31.cell? ⟨gb139, 3, none⟩ = some (.int .i64 a1_3) := (blk_cell BK139.out 3).trans rfl; have hcz34_4 : w31.cell? ⟨gb139, 4, none⟩ = some (.int .i64 a1_4) := (blk_cell BK139.out 4).trans rfl; have hcz34_5 : w31.cell? ⟨gb139, 5, none⟩ = some (.slice A1_5 l1_5.length c1_5) := (blk_cell BK139.out 5).trans rfl; have hfz34_0 := blk_frozen BK139.out 0; have hfz34_1 := blk_frozen BK139.out 1; have hfz34_2 := blk_frozen BK139.out 2; have hfz34_3 := blk_frozen BK139.out 3; have hfz34_4 := blk_frozen BK139.out 4; have hfz34_5 := blk_frozen BK139.out 5))
    go_ret
    exact ⟨by first | rfl | (simp [errW_none, errW_some] <;> rfl) | (simp [*, errW_none, errW_some] <;> rfl), by repeat (first | (with_reducible first | exact HB.out | apply below_alloc | apply pw_below_drewN | apply below_drew1 | refine below_set ?_ GE138.out | refine below_set ?_ GE139.out) | exact HB.out)⟩
  ·
   rw [if_neg c4] at H
   have c4b0 : (a0_1 == a1_1) = false := beq_eq_false_iff_ne.mpr c4
   have c4b1 : (a0_1 != a1_1) = true := bne_iff_ne.mpr c4
   obtain rfl := Option.some.inj H
   go_enter Try.func23, Try.ntmps23
   go_wp2_with (first | ((with_reducible refine gate_dst (N := 2) rfl ?_); refine box_event ?hg (N := 2) ?hd (cs := #[.int .i64 a0_0, .int .i64 a0_1, .int .i64 a0_2, .int .i64 a0_3, .int .i64 a0_4, .slice A0_5 l0_5.length c0_5]) (t := 38) ?hr ?_; (case hd => rfl); (case hg => rfl); (case hr => first | (go_simp; done) | (go_simp; rfl)); intro gb138 hg w35 hbox hb; have n0_ := Aside0.mk (below_step (by repeat (first | (with_reducible first | exact HB.out | apply below_alloc | apply pw_below_drewN | apply below_drew1) | exact HB.out)) hb); have n1_ := Aside0.mk (hbox); have n2_ := Aside0.mk ((by rw [hg]; exact (below_size (by repeat (first | (with_reducible first | exact HB.out | apply below_alloc | apply pw_below_drewN | apply below_drew1) | exact HB.out))) : w.heap.size ≤ gb138)); have n3_ := Aside0.mk ((by rw [hg]; exact (below_size (by repeat (first | (with_reducible first | exact HB.out | apply below_alloc | apply pw_below_drewN | apply below_drew1) | exact HB.out))) : w.heap.size ≤ gb138)); clear HB; have HB := n0_; have BK138 := n1_; have GW138 := n2_; have GE138 := n3_; clear n0_ n1_ n2_ n3_; clear hb hbox hg) | ((with_reducible refine gate_dst (N := 3) rfl ?_); refine box_event ?hg (N := 3) ?hd (cs := #[.int .i64 a1_0, .int .i64 a1_1, .int .i64 a1_2, .int .i64 a1_3, .int .i64 a1_4, .slice A1_5 l1_5.length c1_5]) (t := 38) ?hr ?_; (case hd => rfl); (case hg => rfl); (case hr => first | (go_simp; done) | (go_simp; rfl)); intro gb139 hg w36 hbox hb; have n0_ := Aside0.mk (blk_below (g := gb138) (o := .cells #[.int .i64 a0_0, .int .i64 a0_1, .int .i64 a0_2, .int .i64 a0_3, .int .i64 a0_4, .slice A0_5 l0_5.length c0_5] 38 (0, 0)) (by (with_reducible repeat (first | refine blk_drewN ?_ _ | refine blk_drew ?_ | refine blk_alloc ?_ _)); exact BK138.out) hb); have n1_ := Aside0.mk (below_step (by repeat (first | (with_reducible first | exact HB.out | apply below_alloc | apply pw_below_drewN | apply below_drew1 | refine below_set ?_ GE138.out) | exact HB.out)) hb); have n2_ := Aside0.mk (hbox); have n3_ := Aside0.mk ((by rw [hg]; exact (below_size (by repeat (first | (with_reducible first | exact HB.out | apply below_alloc | apply pw_below_drewN | apply below_drew1 | refine below_set ?_ GE138.out) | exact HB.out))) : w.heap.size ≤ gb139)); have n4_ := Aside0.mk ((by rw [hg]; exact (below_size (by repeat (first | (with_reducible first | exact HB.out | apply below_alloc | apply pw_below_drewN | apply below_drew1 | refine below_set ?_ GE138.out) | exact HB.out))) : w.heap.size ≤ gb139)); have n5_ := Aside0.mk ((by rw [hg]; exact Nat.ne_of_lt (blk_lt (g := gb138) (o := .cells #[.int .i64 a0_0, .int .i64 a0_1, .int .i64 a0_2, .int .i64 a0_3, .int .i64 a0_4, .slice A0_5 l0_5.length c0_5] 38 (0, 0)) (by (with_reducible repeat (first | refine blk_drewN ?_ _ | refine blk_drew ?_ | refine blk_alloc ?_ _)); exact BK138.out)) : gb138 ≠ gb139)); have n6_ := Aside0.mk ((by rw [hg]; exact Nat.ne_of_gt (blk_lt (g := gb138) (o := .cells #[.int .i64 a0_0, .int .i64 a0_1, .int .i64 a0_2, .int .i64 a0_3, .int .i64 a0_4, .slice A0_5 l0_5.length c0_5] 38 (0, 0)) (by (with_reducible repeat (first | refine blk_drewN ?_ _ | refine blk_drew ?_ | refine blk_alloc ?_ _)); exact BK138.out)) : gb139 ≠ gb138)); clear BK138; clear HB; have BK138 := n0_; have HB := n1_; have BK139 := n2_; have GW139 := n3_; have GE139 := n4_; have NB138_139 := n5_; have NB139_138 := n6_; clear n0_ n1_ n2_ n3_ n4_ n5_ n6_; clear hb hbox hg; have hnb37 := NB138_139.out; have hnc37 := NB139_138.out; have hcz38_0 : w36.cell? ⟨gb138, 0, none⟩ = some (.int .i64 a0_0) := (blk_cell BK138.out 0).trans rfl; have hcz38_1 : w36.cell? ⟨gb138, 1, none⟩ = some (.int .i64 a0_1) := (blk_cell BK138.out 1).trans rfl; have hcz38_2 : w36.cell? ⟨gb138, 2, none⟩ = some (.int .i64 a0_2) := (blk_cell BK138.out 2).trans rfl; have hcz38_3 : w36.cell? ⟨gb138, 3, none⟩ = some (.int .i64 a0_3) := (blk_cell BK138.out 3).trans rfl; have hcz38_4 : w36.cell? ⟨gb138, 4, none⟩ = some (.int .i64 a0_4) := (blk_cell BK138.out 4).trans rfl; have hcz38_5 : w36.cell? ⟨gb138, 5, none⟩ = some (.slice A0_5 l0_5.length c0_5) := (blk_cell BK138.out 5).trans rfl; have hfz38_0 := blk_frozen BK138.out 0; have hfz38_1 := blk_frozen BK138.out 1; have hfz38_2 := blk_frozen BK138.out 2; have hfz38_3 := blk_frozen BK138.out 3; have hfz38_4 := blk_frozen BK138.out 4; have hfz38_5 := blk_frozen BK138.out 5; have hcz39_0 : w36.cell? ⟨gb139, 0, none⟩ = some (.int .i64 a1_0) := (blk_cell BK139.out 0).trans rfl; have hcz39_1 : w36.cell? ⟨gb139, 1, none⟩ = some (.int .i64 a1_1) := (blk_cell BK139.out 1).trans rfl; have hcz39_2 : w36.cell? ⟨gb139, 2, none⟩ = some (.int .i64 a1_2) := (blk_cell BK139.out 2).trans rfl; have hcz39_3 : w36.cell? ⟨gb139, 3, none⟩ = some (.int .i64 a1_3) := (blk_cell BK139.out 3).trans rfl; have hcz39_4 : w36.cell? ⟨gb139, 4, none⟩ = some (.int .i64 a1_4) := (blk_cell BK139.out 4).trans rfl; have hcz39_5 : w36.cell? ⟨gb139, 5, none⟩ = some (.slice A1_5 l1_5.length c1_5) := (blk_cell BK139.out 5).trans rfl; have hfz39_0 := blk_frozen BK139.out 0; have hfz39_1 := blk_frozen BK139.out 1; have hfz39_2 := blk_frozen BK139.out 2; have hfz39_3 := blk_frozen BK139.out 3; have hfz39_4 := blk_frozen BK139.out 4; have hfz39_5 := blk_frozen BK139.out 5))
   go_ret
   exact ⟨by first | rfl | (simp [errW_none, errW_some] <;> rfl) | (simp [*, errW_none, errW_some] <;> rfl), by repeat (first | (with_reducible first | exact HB.out | apply below_alloc | apply pw_below_drewN | apply below_drew1 | refine below_set ?_ GE138.out | refine below_set ?_ GE139.out) | exact HB.out)⟩
 ·
  rw [if_neg c3] at H
  have c3b0 : (a0_0 == a1_0) = false := beq_eq_false_iff_ne.mpr c3
  have c3b1 : (a0_0 != a1_0) = true := bne_iff_ne.mpr c3
  obtain rfl := Option.some.inj H
  go_enter Try.func23, Try.ntmps23
  go_wp2_with (first | ((with_reducible refine gate_dst (N := 2) rfl ?_); refine box_event ?hg (N := 2) ?hd (cs := #[.int .i64 a0_0, .int .i64 a0_1, .int .i64 a0_2, .int .i64 a0_3, .int .i64 a0_4, .slice A0_5 l0_5.length c0_5]) (t := 38) ?hr ?_; (case hd => rfl); (case hg => rfl); (case hr => first | (go_simp; done) | (go_simp; rfl)); intro gb138 hg w40 hbox hb; have n0_ := Aside0.mk (below_step (by repeat (first | (with_reducible first | exact HB.out | apply below_alloc | apply pw_below_drewN | apply below_drew1) | exact HB.out)) hb); have n1_ := Aside0.mk (hbox); have n2_ := Aside0.mk ((by rw [hg]; exact (below_size (by repeat (first | (with_reducible first | exact HB.out | apply below_alloc | apply pw_below_drewN | apply below_drew1) | exact HB.out))) : w.heap.size ≤ gb138)); have n3_ := Aside0.mk ((by rw [hg]; exact (below_size (by repeat (first | (with_reducible first | exact HB.out | apply below_alloc | apply pw_below_drewN | apply below_drew1) | exact HB.out))) : w.heap.size ≤ gb138)); clear HB; have HB := n0_; have BK138 := n1_; have GW138 := n2_; have GE138 := n3_; clear n0_ n1_ n2_ n3_; clear hb hbox hg) | ((with_reducible refine gate_dst (N := 3) rfl ?_); refine box_event ?hg (N := 3) ?hd (cs := #[.int .i64 a1_0, .int .i64 a1_1, .int .i64 a1_2, .int .i64 a1_3, .int .i64 a1_4, .slice A1_5 l1_5.length c1_5]) (t := 38) ?hr ?_; (case hd => rfl); (case hg => rfl); (case hr => first | (go_simp; done) | (go_simp; rfl)); intro gb139 hg w41 hbox hb; have n0_ := Aside0.mk (blk_below (g := gb138) (o := .cells #[.int .i64 a0_0, .int .i64 a0_1, .int .i64 a0_2, .int .i64 a0_3, .int .i64 a0_4, .slice A0_5 l0_5.length c0_5] 38 (0, 0)) (by (with_reducible repeat (first | refine blk_drewN ?_ _ | refine blk_drew ?_ | refine blk_alloc ?_ _)); exact BK138.out) hb); have n1_ := Aside0.mk (below_step (by repeat (first | (with_reducible first | exact HB.out | apply below_alloc | apply pw_below_drewN | apply below_drew1 | refine below_set ?_ GE138.out) | exact HB.out)) hb); have n2_ := Aside0.mk (hbox); have n3_ := Aside0.mk ((by rw [hg]; exact (below_size (by repeat (first | (with_reducible first | exact HB.out | apply below_alloc | apply pw_below_drewN | apply below_drew1 | refine below_set ?_ GE138.out) | exact HB.out))) : w.heap.size ≤ gb139)); have n4_ := Aside0.mk ((by rw [hg]; exact (below_size (by repeat (first | (with_reducible first | exact HB.out | apply below_alloc | apply pw_below_drewN | apply below_drew1 | refine below_set ?_ GE138.out) | exact HB.out))) : w.heap.size ≤ gb139)); have n5_ := Aside0.mk ((by rw [hg]; exact Nat.ne_of_lt (blk_lt (g := gb138) (o := .cells #[.int .i64 a0_0, .int .i64 a0_1, .int .i64 a0_2, .int .i64 a0_3, .int .i64 a0_4, .slice A0_5 l0_5.length c0_5] 38 (0, 0)) (by (with_reducible repeat (first | refine blk_drewN ?_ _ | refine blk_drew ?_ | refine blk_alloc ?_ _)); exact BK138.out)) : gb138 ≠ gb139)); have n6_ := Aside0.mk ((by rw [hg]; exact Nat.ne_of_gt (blk_lt (g := gb138) (o := .cells #[.int .i64 a0_0, .int .i64 a0_1, .int .i64 a0_2, .int .i64 a0_3, .int .i64 a0_4, .slice A0_5 l0_5.length c0_5] 38 (0, 0)) (by (with_reducible repeat (first | refine blk_drewN ?_ _ | refine blk_drew ?_ | refine blk_alloc ?_ _)); exact BK138.out)) : gb139 ≠ gb138)); clear BK138; clear HB; have BK138 := n0_; have HB := n1_; have BK139 := n2_; have GW139 := n3_; have GE139 := n4_; have NB138_139 := n5_; have NB139_138 := n6_; clear n0_ n1_ n2_ n3_ n4_ n5_ n6_; clear hb hbox hg; have hnb42 := NB138_139.out; have hnc42 := NB139_138.out; have hcz43_0 : w41.cell? ⟨gb138, 0, none⟩ = some (.int .i64 a0_0) := (blk_cell BK138.out 0).trans rfl; have hcz43_1 : w41.cell? ⟨gb138, 1, none⟩ = some (.int .i64 a0_1) := (blk_cell BK138.out 1).trans rfl; have hcz43_2 : w41.cell? ⟨gb138, 2, none⟩ = some (.int .i64 a0_2) := (blk_cell BK138.out 2).trans rfl; have hcz43_3 : w41.cell? ⟨gb138, 3, none⟩ = some (.int .i64 a0_3) := (blk_cell BK138.out 3).trans rfl; have hcz43_4 : w41.cell? ⟨gb138, 4, none⟩ = some (.int .i64 a0_4) := (blk_cell BK138.out 4).trans rfl; have hcz43_5 : w41.cell? ⟨gb138, 5, none⟩ = some (.slice A0_5 l0_5.length c0_5) := (blk_cell BK138.out 5).trans rfl; have hfz43_0 := blk_frozen BK138.out 0; have hfz43_1 := blk_frozen BK138.out 1; have hfz43_2 := blk_frozen BK138.out 2; have hfz43_3 := blk_frozen BK138.out 3; have hfz43_4 := blk_frozen BK138.out 4; have hfz43_5 := blk_frozen BK138.out 5; have hcz44_0 : w41.cell? ⟨gb139, 0, none⟩ = some (.int .i64 a1_0) := (blk_cell BK139.out 0).trans rfl; have hcz44_1 : w41.cell? ⟨gb139, 1, none⟩ = some (.int .i64 a1_1) := (blk_cell BK139.out 1).trans rfl; have hcz44_2 : w41.cell? ⟨gb139, 2, none⟩ = some (.int .i64 a1_2) := (blk_cell BK139.out 2).trans rfl; have hcz44_3 : w41.cell? ⟨gb139, 3, none⟩ = some (.int .i64 a1_3) := (blk_cell BK139.out 3).trans rfl; have hcz44_4 : w41.cell? ⟨gb139, 4, none⟩ = some (.int .i64 a1_4) := (blk_cell BK139.out 4).trans rfl; have hcz44_5 : w41.cell? ⟨gb139, 5, none⟩ = some (.slice A1_5 l1_5.length c1_5) := (blk_cell BK139.out 5).trans rfl; have hfz44_0 := blk_frozen BK139.out 0; have hfz44_1 := blk_frozen BK139.out 1; have hfz44_2 := blk_frozen BK139.out 2; have hfz44_3 := blk_frozen BK139.out 3; have hfz44_4 := blk_frozen BK139.out 4; have hfz44_5 := blk_frozen BK139.out 5))
  go_ret
  exact ⟨by first | rfl | (simp [errW_none, errW_some] <;> rfl) | (simp [*, errW_none, errW_some] <;> rfl), by repeat (first | (with_reducible first | exact HB.out | apply below_alloc | apply pw_below_drewN | apply below_drew1 | refine below_set ?_ GE138.out | refine below_set ?_ GE139.out) | exact HB.out)⟩
end Go.Proofs.Ytieglenodannmaa.A
end

section
namespace Go.Proofs.Ytieglenodannmaa.A
open Go.RowKit Go.Proofs.YtieglenodannmaaW.PrintWords Go.Proofs.YtieglenodannmaaW.PrintLast Go.Proofs.YtieglenodannmaaW.PrintMore
attribute [local go_sem] max2_int min2_int max_two min_two max_three min_three max_four min_four   -- for this text's walks alone
set_option linter.unusedVariables false
set_option linter.unusedSimpArgs false
def laws_eqTeamS.l0 : Nat → List (S38) → List (S38) → Int → Option (Bool)
  | 0, _, _, _ => none
  | k + 1, x0, x1, x5 => if x5 < (x0.length : Int) then (if 0 ≤ x5 then (if x5 < (x1.length : Int) then ((laws_eqTeam.f k ((rd_T38 x0 x5).f0) ((rd_T38 x0 x5).f1) ((rd_T38 x0 x5).f2) ((rd_T38 x0 x5).f3) ((rd_T38 x0 x5).f4) ((rd_T38 x0 x5).f5) ((rd_T38 x1 x5).f0) ((rd_T38 x1 x5).f1) ((rd_T38 x1 x5).f2) ((rd_T38 x1 x5).f3) ((rd_T38 x1 x5).f4) ((rd_T38 x1 x5).f5)).bind fun t143 => (if t143 = true then (laws_eqTeamS.l0 k x0 x1 (wrap64 (x5 + 1))) else (some false))) else (none)) else (none)) else (some true)
def laws_eqTeamS.f (k : Nat) (l0 : List (S38)) (l1 : List (S38)) : Option (Bool) := if (l0.length : Int) = (l1.length : Int) then (laws_eqTeamS.l0 k l0 l1 0) else (some false)
def laws_eqTeamS.T6 : Bool × List (List Nat × List Nat) := (true, [([], []), ([], []), ([0, 1], [0, 1]), ([2], [2]), ([], []), ([], []), ([4, 5], [4, 5]), ([6], [6]), ([3, 7], [3, 7]), ([8], [8])])
def laws_eqTeamS.B6 : List Nat := [0, 0, 3, 7, 0, 0, 48, 112, 255, 511]
theorem laws_eqTeamS.tab6 : rtab .any (opsOf Try.f9 6) = laws_eqTeamS.T6 := by kernel_rfl
theorem laws_eqTeamS.bits6 : waitsOk laws_eqTeamS.T6.2 laws_eqTeamS.B6 = true := by kernel_rfl
set_option maxHeartbeats 8000000 in
set_option maxRecDepth 100000 in
theorem laws_eqTeamS.calls (k : Nat) (A0 : Option Addr) (c0 : Nat) (l0 : List (S38)) (A1 : Option Addr) (c1 : Nat) (l1 : List (S38)) (r : Bool) (w : World) (hr0 : Kd.C k38 w A0 l0.length l0) (hc0 : l0.length ≤ c0) (hr1 : Kd.C k38 w A1 l1.length l1) (hc1 : l1.length ≤ c1) (h : laws_eqTeamS.f k l0 l1 = some r) :
  Calls Try.prog 9 #[.slice A0 l0.length c0, .slice A1 l1.length c1] w fun e w' => e = .returned (.bool r) ∧ Below w.heap.size w w' := by
 have hu38 := Try.underlying38
 have HR0 := Aside0.mk hr0
 have HC0 := Aside0.mk hc0
 clear hr0 hc0
 have HR1 := Aside0.mk hr1
 have HC1 := Aside0.mk hc1
 clear hr1 hc1
 have HB := Aside0.mk (Below.refl w.heap.size w)
 have H : (if (l0.length : Int) = (l1.length : Int) then (laws_eqTeamS.l0 k l0 l1 0) else (some false)) = some r := h
 clear h
 by_cases c3 : (l0.length : Int) = (l1.length : Int)
 ·
  rw [if_pos c3] at H
  have c3b0 : ((l0.length : Int) == (l1.length : Int)) = true := beq_iff_eq.mpr c3
  have c3b1 : ((l0.length : Int) != (l1.length : Int)) = false := bne_eq_false_iff_eq.mpr c3
  have c3b2 : (l0.length == l1.length) = true := by first | simpa using c3 | (simp at c3 ⊢; omega)
  clear c3
  have H' := Aside0.mk H
  clear H
  go_enter Try.func9, Try.ntmps9
  go_wp2
  go_loopg [5] k (fun kq v5 w' => ∃ (x5_1 : Int), v5 = .int .i64 x5_1 ∧ Aside0 (laws_eqTeamS.l0 kq l0 l1 x5_1 = some r) ∧ Aside0 (kq ≤ k) ∧ Aside0 (Below w.heap.size w w'))
  case atStart => exact ⟨(0), (by first | rfl | (simp; done) | (simp [*]; done)), H', ⟨Nat.le_refl _⟩, ⟨by repeat (first | (with_reducible first | exact HB.out | apply below_alloc | apply pw_below_drewN | apply below_drew1) | exact HB.out)⟩⟩
  case round =>
   clear H'
   try clear c1
   try clear p2
   try clear c3
   try clear c3b0
   try clear c3b1
   try clear c3b2
   obtain ⟨x5_1, rfl, HA, HK1, HB⟩ := hrel
   cases gk with
   | zero => exact absurd HA.out (by simp [laws_eqTeamS.l0])
   | succ k1 =>
    have H := HA.out
    clear HA
    simp only [laws_eqTeamS.l0] at H
    by_cases c4 : x5_1 < (l0.length : Int)
    ·
     rw [if_pos c4] at H
     have c4b0 : decide (x5_1 < (l0.length : Int)) = true := decide_eq_true c4
     clear c4
     by_cases c5 : 0 ≤ x5_1
     ·
      rw [if_pos c5] at H
      have c5b0 : decide (0 ≤ x5_1) = true := decide_eq_true c5
      clear c5
      by_cases c6 : x5_1 < (l1.length : Int)
      ·
       rw [if_pos c6] at H
       have c6b0 : decide (x5_1 < (l1.length : Int)) = true := decide_eq_true c6
       clear c6
       replace H := Option.bind_eq_some_iff.mp H
       obtain ⟨t143, A70, H⟩ := H
       replace H : (if t143 = true then (laws_eqTeamS.l0 k1 l0 l1 (wrap64 (x5_1 + 1))) else (some false)) = some r := H
       have A7 := Aside0.mk A70
       clear A70
       by_cases c8 : t143 = true
       ·
        subst c8
        have H1 : (laws_eqTeamS.l0 k1 l0 l1 (wrap64 (x5_1 + 1))) = some r := by rw [if_pos rfl] at H; exact H
        clear H
        have H := H1
        clear H1
        have H' := Aside0.mk H
        clear H
        try go_wp2
        have n0_ := Aside0.mk (below_drew1 HB.out)
        clear HB
        have HB := n0_
        clear n0_
        have p141 : 0 ≤ (x5_1 : Int) := of_decide_eq_true (by first | (with_reducible assumption) | assumption)
        have q141 : x5_1 < (l0.length : Int) := of_decide_eq_true (by first | (with_reducible assumption) | assumption)
        obtain ⟨ad141, A141_5, c141_5, e141, hx141_0, hx141_1, hx141_2, hx141_3, hx141_4, hx141_5, hl141_5, hi141_5⟩ := at_T38 HR0.out x5_1 p141 q141
        have hw141_5 := hx141_5
        have hw141_4 := hx141_4
        have hw141_3 := hx141_3
        have hw141_2 := hx141_2
        have hw141_1 := hx141_1
        have hw141_0 := hx141_0
        cases e141
        replace hx141_0 := (HB.out.cell (World.block_lt_of_cell? w _ hx141_0)).trans hx141_0
        replace hx141_1 := (HB.out.cell (World.block_lt_of_cell? w _ hx141_1)).trans hx141_1
        replace hx141_2 := (HB.out.cell (World.block_lt_of_cell? w _ hx141_2)).trans hx141_2
        replace hx141_3 := (HB.out.cell (World.block_lt_of_cell? w _ hx141_3)).trans hx141_3
        replace hx141_4 := (HB.out.cell (World.block_lt_of_cell? w _ hx141_4)).trans hx141_4
        replace hx141_5 := (HB.out.cell (World.block_lt_of_cell? w _ hx141_5)).trans hx141_5
        have HR141_5 := Aside0.mk hi141_5
        have HC141_5 := Aside0.mk hl141_5
        clear hi141_5 hl141_5
        replace p141 := eq_true p141
        replace q141 := eq_true q141
        have p142 : 0 ≤ (x5_1 : Int) := of_decide_eq_true (by first | (with_reducible assumption) | assumption)
        have q142 : x5_1 < (l1.length : Int) := of_decide_eq_true (by first | (with_reducible assumption) | assumption)
        obtain ⟨ad142, A142_5, c142_5, e142, hx142_0, hx142_1, hx142_2, hx142_3, hx142_4, hx142_5, hl142_5, hi142_5⟩ := at_T38 HR1.out x5_1 p142 q142
        have hw142_5 := hx142_5
        have hw142_4 := hx142_4
        have hw142_3 := hx142_3
        have hw142_2 := hx142_2
        have hw142_1 := hx142_1
        have hw142_0 := hx142_0
        cases e142
        replace hx142_0 := (HB.out.cell (World.block_lt_of_cell? w _ hx142_0)).trans hx142_0
        replace hx142_1 := (HB.out.cell (World.block_lt_of_cell? w _ hx142_1)).trans hx142_1
        replace hx142_2 := (HB.out.cell (World.block_lt_of_cell? w _ hx142_2)).trans hx142_2
        replace hx142_3 := (HB.out.cell (World.block_lt_of_cell? w _ hx142_3)).trans hx142_3
        replace hx142_4 := (HB.out.cell (World.block_lt_of_cell? w _ hx142_4)).trans hx142_4
        replace hx142_5 := (HB.out.cell (World.block_lt_of_cell? w _ hx142_5)).trans hx142_5
        have HR142_5 := Aside0.mk hi142_5
        have HC142_5 := Aside0.mk hl142_5
        clear hi142_5 hl142_5
        replace p142 := eq_true p142
        replace q142 := eq_true q142
        refine start_ (n := 10) (S := fun w' => w'.cell? (ad141.add ((x5_1).toNat * 6)) = some (.int .i64 ((rd_T38 l0 x5_1).f0)) ∧ w'.cell? ⟨(ad141.add ((x5_1).toNat * 6)).block, (ad141.add ((x5_1).toNat * 6)).off + 1, none⟩ = some (.int .i64 ((rd_T38 l0 x5_1).f1)) ∧ w'.cell? ⟨(ad141.add ((x5_1).toNat * 6)).block, (ad141.add ((x5_1).toNat * 6)).off + 2, none⟩ = some (.int .i64 ((rd_T38 l0 x5_1).f2)) ∧ w'.cell? ⟨(ad141.add ((x5_1).toNat * 6)).block, (ad141.add ((x5_1).toNat * 6)).off + 3, none⟩ = some (.int .i64 ((rd_T38 l0 x5_1).f3)) ∧ w'.cell? ⟨(ad141.add ((x5_1).toNat * 6)).block, (ad141.add ((x5_1).toNat * 6)).off + 4, none⟩ = some (.int .i64 ((rd_T38 l0 x5_1).f4)) ∧ w'.cell? ⟨(ad141.add ((x5_1).toNat * 6)).block, (ad141.add ((x5_1).toNat * 6)).off + 5, none⟩ = some (.slice A141_5 ((rd_T38 l0 x5_1).f5).length c141_5) ∧ w'.cell? (ad142.add ((x5_1).toNat * 6)) = some (.int .i64 ((rd_T38 l1 x5_1).f0)) ∧ w'.cell? ⟨(ad142.add ((x5_1).toNat * 6)).block, (ad142.add ((x5_1).toNat * 6)).off + 1, none⟩ = some (.int .i64 ((rd_T38 l1 x5_1).f1)) ∧ w'.cell? ⟨(ad142.add ((x5_1).toNat * 6)).block, (ad142.add ((x5_1).toNat * 6)).off + 2, none⟩ = some (.int .i64 ((rd_T38 l1 x5_1).f2)) ∧ w'.cell? ⟨(ad142.add ((x5_1).toNat * 6)).block, (ad142.add ((x5_1).toNat * 6)).off + 3, none⟩ = some (.int .i64 ((rd_T38 l1 x5_1).f3)) ∧ w'.cell? ⟨(ad142.add ((x5_1).toNat * 6)).block, (ad142.add ((x5_1).toNat * 6)).off + 4, none⟩ = some (.int .i64 ((rd_T38 l1 x5_1).f4)) ∧ w'.cell? ⟨(ad142.add ((x5_1).toNat * 6)).block, (ad142.add ((x5_1).toNat * 6)).off + 5, none⟩ = some (.slice A142_5 ((rd_T38 l1 x5_1).f5).length c142_5)) (ds := []) #[zz,zz,zz,zz,zz,zz,zz,zz,zz,zz] (by kernel_rfl) rfl rfl ⟨((HB.out.cell (World.block_lt_of_cell? w _ hw141_0)).trans hw141_0), ((HB.out.cell (World.block_lt_of_cell? w _ hw141_1)).trans hw141_1), ((HB.out.cell (World.block_lt_of_cell? w _ hw141_2)).trans hw141_2), ((HB.out.cell (World.block_lt_of_cell? w _ hw141_3)).trans hw141_3), ((HB.out.cell (World.block_lt_of_cell? w _ hw141_4)).trans hw141_4), ((HB.out.cell (World.block_lt_of_cell? w _ hw141_5)).trans hw141_5), ((HB.out.cell (World.block_lt_of_cell? w _ hw142_0)).trans hw142_0), ((HB.out.cell (World.block_lt_of_cell? w _ hw142_1)).trans hw142_1), ((HB.out.cell (World.block_lt_of_cell? w _ hw142_2)).trans hw142_2), ((HB.out.cell (World.block_lt_of_cell? w _ hw142_3)).trans hw142_3), ((HB.out.cell (World.block_lt_of_cell? w _ hw142_4)).trans hw142_4), ((HB.out.cell (World.block_lt_of_cell? w _ hw142_5)).trans hw142_5)⟩ (fun hHeld => ?_); refine with_tabW laws_eqTeamS.tab6 laws_eqTeamS.bits6 (fun HT_ HW_ => ?_)
        generalize wr.drew = w9 at HB HR141_5 HR142_5 hx141_0 hx141_1 hx141_2 hx141_3 hx141_4 hx141_5 hx142_0 hx142_1 hx142_2 hx142_3 hx142_4 hx142_5 hHeld ⊢
        refine pure_ (i := 0) (N := some 17) (v := ?_) (a' := ?_) #[oo,zz,zz,zz,zz,zz,zz,zz,zz,zz] rfl rfl (any_of HT_.out (by kernel_rfl)) (fun _ _ _ h => h) (Or.inl ⟨by rfl, ?_⟩) ?_ ?_
        rotate_left
        ·
         intro w'
         go_simp
         with_reducible rfl
        rotate_left
        ·
         simp only [Act.put, List.setIfInBounds_toArray, List.set_cons_zero, List.set_cons_succ, i64_w, i32_w]
         rfl
        refine pure_ (i := 1) (N := some 18) (v := ?_) (a' := ?_) #[oo,oo,zz,zz,zz,zz,zz,zz,zz,zz] rfl rfl (any_of HT_.out (by kernel_rfl)) (fun _ _ _ h => h) (Or.inl ⟨by rfl, ?_⟩) ?_ ?_
        rotate_left
        ·
         intro w'
         go_simp
         with_reducible rfl
        rotate_left
        ·
         simp only [Act.put, List.setIfInBounds_toArray, List.set_cons_zero, List.set_cons_succ, i64_w, i32_w]
         rfl
        refine pure_ (i := 2) (N := some 19) (v := ?_) (a' := ?_) #[oo,oo,oo,zz,zz,zz,zz,zz,zz,zz] rfl rfl (any_of HT_.out (by kernel_rfl)) (fun _ _ _ h => h) (Or.inl ⟨by rfl, ?_⟩) ?_ ?_
        rotate_left
        ·
         intro w'
         go_simp
         with_reducible rfl
        rotate_left
        ·
         simp only [Act.put, List.setIfInBounds_toArray, List.set_cons_zero, List.set_cons_succ, i64_w, i32_w]
         rfl
        refine pure_ (i := 4) (N := some 21) (v := ?_) (a' := ?_) #[oo,oo,oo,zz,oo,zz,zz,zz,zz,zz] rfl rfl (any_of HT_.out (by kernel_rfl)) (fun _ _ _ h => h) (Or.inl ⟨by rfl, ?_⟩) ?_ ?_
        rotate_left
        ·
         intro w'
         go_simp
         with_reducible rfl
        rotate_left
        ·
         simp only [Act.put, List.setIfInBounds_toArray, List.set_cons_zero, List.set_cons_succ, i64_w, i32_w]
         rfl
        refine pure_ (i := 5) (N := some 22) (v := ?_) (a' := ?_) #[oo,oo,oo,zz,oo,oo,zz,zz,zz,zz] rfl rfl (any_of HT_.out (by kernel_rfl)) (fun _ _ _ h => h) (Or.inl ⟨by rfl, ?_⟩) ?_ ?_
        rotate_left
        ·
         intro w'
         go_simp
         with_reducible rfl
        rotate_left
        ·
         simp only [Act.put, List.setIfInBounds_toArray, List.set_cons_zero, List.set_cons_succ, i64_w, i32_w]
         rfl
        refine pure_ (i := 6) (N := some 23) (v := ?_) (a' := ?_) #[oo,oo,oo,zz,oo,oo,oo,zz,zz,zz] rfl rfl (any_of HT_.out (by kernel_rfl)) (fun _ _ _ h => h) (Or.inl ⟨by rfl, ?_⟩) ?_ ?_
        rotate_left
        ·
         intro w'
         go_simp
         with_reducible rfl
        rotate_left
        ·
         simp only [Act.put, List.setIfInBounds_toArray, List.set_cons_zero, List.set_cons_succ, i64_w, i32_w]
         rfl
        refine take_ (i := 3) (N := some 20) (v := ?_) (a' := ?_) #[oo,oo,oo,oo,oo,oo,oo,zz,zz,zz] rfl rfl (take_ofW HT_.out HW_.out (by kernel_rfl)) (fun _ _ _ h => h) (Or.inl ⟨by rfl, ?_⟩) hHeld ?_ ?_
        rotate_left
        ·
         rintro w' ⟨s0, s1, s2, s3, s4, s5, s6, s7, s8, s9, s10, s11⟩
         go_simp
         with_reducible rfl
        rotate_left
        ·
         simp only [Act.put, List.setIfInBounds_toArray, List.set_cons_zero, List.set_cons_succ, i64_w, i32_w]
         rfl
        refine take_ (i := 7) (N := some 24) (v := ?_) (a' := ?_) #[oo,oo,oo,oo,oo,oo,oo,oo,zz,zz] rfl rfl (take_ofW HT_.out HW_.out (by kernel_rfl)) (fun _ _ _ h => h) (Or.inl ⟨by rfl, ?_⟩) hHeld ?_ ?_
        rotate_left
        ·
         rintro w' ⟨s0, s1, s2, s3, s4, s5, s6, s7, s8, s9, s10, s11⟩
         go_simp
         with_reducible rfl
        rotate_left
        ·
         simp only [Act.put, List.setIfInBounds_toArray, List.set_cons_zero, List.set_cons_succ, i64_w, i32_w]
         rfl
        refine one_ (i := 8) (N := some 25) #[oo,oo,oo,oo,oo,oo,oo,oo,oo,zz] rfl rfl (one_of HT_.out (by kernel_rfl)) (by decide) (fun K hK => ?_)
        refine goes_ Try.func23 (by kernel_rfl) rfl #[.agg #[.int .i64 ((rd_T38 l0 x5_1).f0), .int .i64 ((rd_T38 l0 x5_1).f1), .int .i64 ((rd_T38 l0 x5_1).f2), .int .i64 ((rd_T38 l0 x5_1).f3), .int .i64 ((rd_T38 l0 x5_1).f4), .slice A141_5 ((rd_T38 l0 x5_1).f5).length c141_5], .agg #[.int .i64 ((rd_T38 l1 x5_1).f0), .int .i64 ((rd_T38 l1 x5_1).f1), .int .i64 ((rd_T38 l1 x5_1).f2), .int .i64 ((rd_T38 l1 x5_1).f3), .int .i64 ((rd_T38 l1 x5_1).f4), .slice A142_5 ((rd_T38 l1 x5_1).f5).length c142_5]] (by rfl) rfl rfl (by (try simp only [List.map_toArray, List.map_cons, List.map_nil]); first | done | rfl | (simp only [List.length_drop, List.length_take]; rfl)) ?_
        with_reducible refine (laws_eqTeam.calls k1 ((rd_T38 l0 x5_1).f0) ((rd_T38 l0 x5_1).f1) ((rd_T38 l0 x5_1).f2) ((rd_T38 l0 x5_1).f3) ((rd_T38 l0 x5_1).f4) _ _ ((rd_T38 l0 x5_1).f5) ((rd_T38 l1 x5_1).f0) ((rd_T38 l1 x5_1).f1) ((rd_T38 l1 x5_1).f2) ((rd_T38 l1 x5_1).f3) ((rd_T38 l1 x5_1).f4) _ _ ((rd_T38 l1 x5_1).f5) true _ ?side1 ?side2 ?side3 ?side4 A7.out).mono ?_
        (case side1 => repeat (first | exact (Kd.C_below HR141_5.out HB.out) | (with_reducible refine Kd.C_alloc ?_ _) | (with_reducible refine Kd.C_drewN ?_ _) | (with_reducible refine Kd.C_drew ?_)))
        (case side2 => exact HC141_5.out)
        (case side3 => repeat (first | exact (Kd.C_below HR142_5.out HB.out) | (with_reducible refine Kd.C_alloc ?_ _) | (with_reducible refine Kd.C_drewN ?_ _) | (with_reducible refine Kd.C_drew ?_)))
        (case side4 => exact HC142_5.out)
        rintro e w10 ⟨rfl, hb⟩
        refine ⟨_, rfl, ?_⟩
        have n0_ := Aside0.mk (below_step (by repeat (first | (with_reducible first | exact HB.out | apply below_alloc | apply pw_below_drewN | apply below_drew1) | exact HB.out)) hb)
        clear HB
        have HB := n0_
        clear n0_
        (try clear hb)
        (try clear hb2)
        (try clear hk)
        (try clear hi)
        refine hK.out _ _ ⟨((HB.out.cell (World.block_lt_of_cell? w _ hw141_0)).trans hw141_0), ((HB.out.cell (World.block_lt_of_cell? w _ hw141_1)).trans hw141_1), ((HB.out.cell (World.block_lt_of_cell? w _ hw141_2)).trans hw141_2), ((HB.out.cell (World.block_lt_of_cell? w _ hw141_3)).trans hw141_3), ((HB.out.cell (World.block_lt_of_cell? w _ hw141_4)).trans hw141_4), ((HB.out.cell (World.block_lt_of_cell? w _ hw141_5)).trans hw141_5), ((HB.out.cell (World.block_lt_of_cell? w _ hw142_0)).trans hw142_0), ((HB.out.cell (World.block_lt_of_cell? w _ hw142_1)).trans hw142_1), ((HB.out.cell (World.block_lt_of_cell? w _ hw142_2)).trans hw142_2), ((HB.out.cell (World.block_lt_of_cell? w _ hw142_3)).trans hw142_3), ((HB.out.cell (World.block_lt_of_cell? w _ hw142_4)).trans hw142_4), ((HB.out.cell (World.block_lt_of_cell? w _ hw142_5)).trans hw142_5)⟩ (fun hHeld => ?_)
        clear hK K
        refine norm_ (a' := ?_) ?_ ?_
        rotate_left
        ·
         show Act.put _ (some 25) _ = _
         simp only [Act.put, List.setIfInBounds_toArray, List.set_cons_zero, List.set_cons_succ, i64_w, i32_w]
         rfl
        refine pure_ (i := 9) (N := some 26) (v := ?_) (a' := ?_) #[oo,oo,oo,oo,oo,oo,oo,oo,oo,oo] rfl rfl (any_of HT_.out (by kernel_rfl)) (fun _ _ _ h => h) (Or.inl ⟨by rfl, ?_⟩) ?_ ?_
        rotate_left
        ·
         intro w'
         go_simp
         with_reducible rfl
        rotate_left
        ·
         simp only [Act.put, List.setIfInBounds_toArray, List.set_cons_zero, List.set_cons_succ, i64_w, i32_w]
         rfl
        refine done_ (done_of HT_.out (by kernel_rfl)) ?_
        try go_wp2
        go_roundg k1
        case measure => have := HK1.out; omega
        case rel => exact ⟨(wrap64 (x5_1 + 1)), (by first | rfl | (simp; done) | (simp [*]; done)), H', ⟨by have := HK1.out; omega⟩, ⟨by repeat (first | (with_reducible first | exact HB.out | apply below_alloc | apply pw_below_drewN | apply below_drew1) | exact HB.out)⟩⟩
       ·
        replace c8 := Bool.eq_false_iff.mpr c8
        subst c8
        have H1 : (some false) = some r := by rw [if_neg (show ¬ (false = true) by decide)] at H; exact H
        clear H
        have H := H1
        clear H1
        obtain rfl := Option.some.inj H
        try go_wp2
        have n0_ := Aside0.mk (below_drew1 HB.out)
        clear HB
        have HB := n0_
        clear n0_
        have p141 : 0 ≤ (x5_1 : Int) := of_decide_eq_true (by first | (with_reducible assumption) | assumption)
        have q141 : x5_1 < (l0.length : Int) := of_decide_eq_true (by first | (with_reducible assumption) | assumption)
        obtain ⟨ad141, A141_5, c141_5, e141, hx141_0, hx141_1, hx141_2, hx141_3, hx141_4, hx141_5, hl141_5, hi141_5⟩ := at_T38 HR0.out x5_1 p141 q141
        have hw141_5 := hx141_5
        have hw141_4 := hx141_4
        have hw141_3 := hx141_3
        have hw141_2 := hx141_2
        have hw141_1 := hx141_1
        have hw141_0 := hx141_0
        cases e141
        replace hx141_0 := (HB.out.cell (World.block_lt_of_cell? w _ hx141_0)).trans hx141_0
        replace hx141_1 := (HB.out.cell (World.block_lt_of_cell? w _ hx141_1)).trans hx141_1
        replace hx141_2 := (HB.out.cell (World.block_lt_of_cell? w _ hx141_2)).trans hx141_2
        replace hx141_3 := (HB.out.cell (World.block_lt_of_cell? w _ hx141_3)).trans hx141_3
        replace hx141_4 := (HB.out.cell (World.block_lt_of_cell? w _ hx141_4)).trans hx141_4
        replace hx141_5 := (HB.out.cell (World.block_lt_of_cell? w _ hx141_5)).trans hx141_5
        have HR141_5 := Aside0.mk hi141_5
        have HC141_5 := Aside0.mk hl141_5
        clear hi141_5 hl141_5
        replace p141 := eq_true p141
        replace q141 := eq_true q141
        have p142 : 0 ≤ (x5_1 : Int) := of_decide_eq_true (by first | (with_reducible assumption) | assumption)
        have q142 : x5_1 < (l1.length : Int) := of_decide_eq_true (by first | (with_reducible assumption) | assumption)
        obtain ⟨ad142, A142_5, c142_5, e142, hx142_0, hx142_1, hx142_2, hx142_3, hx142_4, hx142_5, hl142_5, hi142_5⟩ := at_T38 HR1.out x5_1 p142 q142
        have hw142_5 := hx142_5
        have hw142_4 := hx142_4
        have hw142_3 := hx142_3
        have hw142_2 := hx142_2
        have hw142_1 := hx142_1
        have hw142_0 := hx142_0
        cases e142
        replace hx142_0 := (HB.out.cell (World.block_lt_of_cell? w _ hx142_0)).trans hx142_0
        replace hx142_1 := (HB.out.cell (World.block_lt_of_cell? w _ hx142_1)).trans hx142_1
        replace hx142_2 := (HB.out.cell (World.block_lt_of_cell? w _ hx142_2)).trans hx142_2
        replace hx142_3 := (HB.out.cell (World.block_lt_of_cell? w _ hx142_3)).trans hx142_3
        replace hx142_4 := (HB.out.cell (World.block_lt_of_cell? w _ hx142_4)).trans hx142_4
        replace hx142_5 := (HB.out.cell (World.block_lt_of_cell? w _ hx142_5)).trans hx142_5
        have HR142_5 := Aside0.mk hi142_5
        have HC142_5 := Aside0.mk hl142_5
        clear hi142_5 hl142_5
        replace p142 := eq_true p142
        replace q142 := eq_true q142
        refine start_ (n := 10) (S := fun w' => w'.cell? (ad141.add ((x5_1).toNat * 6)) = some (.int .i64 ((rd_T38 l0 x5_1).f0)) ∧ w'.cell? ⟨(ad141.add ((x5_1).toNat * 6)).block, (ad141.add ((x5_1).toNat * 6)).off + 1, none⟩ = some (.int .i64 ((rd_T38 l0 x5_1).f1)) ∧ w'.cell? ⟨(ad141.add ((x5_1).toNat * 6)).block, (ad141.add ((x5_1).toNat * 6)).off + 2, none⟩ = some (.int .i64 ((rd_T38 l0 x5_1).f2)) ∧ w'.cell? ⟨(ad141.add ((x5_1).toNat * 6)).block, (ad141.add ((x5_1).toNat * 6)).off + 3, none⟩ = some (.int .i64 ((rd_T38 l0 x5_1).f3)) ∧ w'.cell? ⟨(ad141.add ((x5_1).toNat * 6)).block, (ad141.add ((x5_1).toNat * 6)).off + 4, none⟩ = some (.int .i64 ((rd_T38 l0 x5_1).f4)) ∧ w'.cell? ⟨(ad141.add ((x5_1).toNat * 6)).block, (ad141.add ((x5_1).toNat * 6)).off + 5, none⟩ = some (.slice A141_5 ((rd_T38 l0 x5_1).f5).length c141_5) ∧ w'.cell? (ad142.add ((x5_1).toNat * 6)) = some (.int .i64 ((rd_T38 l1 x5_1).f0)) ∧ w'.cell? ⟨(ad142.add ((x5_1).toNat * 6)).block, (ad142.add ((x5_1).toNat * 6)).off + 1, none⟩ = some (.int .i64 ((rd_T38 l1 x5_1).f1)) ∧ w'.cell? ⟨(ad142.add ((x5_1).toNat * 6)).block, (ad142.add ((x5_1).toNat * 6)).off + 2, none⟩ = some (.int .i64 ((rd_T38 l1 x5_1).f2)) ∧ w'.cell? ⟨(ad142.add ((x5_1).toNat * 6)).block, (ad142.add ((x5_1).toNat * 6)).off + 3, none⟩ = some (.int .i64 ((rd_T38 l1 x5_1).f3)) ∧ w'.cell? ⟨(ad142.add ((x5_1).toNat * 6)).block, (ad142.add ((x5_1).toNat * 6)).off + 4, none⟩ = some (.int .i64 ((rd_T38 l1 x5_1).f4)) ∧ w'.cell? ⟨(ad142.add ((x5_1).toNat * 6)).block, (ad142.add ((x5_1).toNat * 6)).off + 5, none⟩ = some (.slice A142_5 ((rd_T38 l1 x5_1).f5).length c142_5)) (ds := []) #[zz,zz,zz,zz,zz,zz,zz,zz,zz,zz] (by kernel_rfl) rfl rfl ⟨((HB.out.cell (World.block_lt_of_cell? w _ hw141_0)).trans hw141_0), ((HB.out.cell (World.block_lt_of_cell? w _ hw141_1)).trans hw141_1), ((HB.out.cell (World.block_lt_of_cell? w _ hw141_2)).trans hw141_2), ((HB.out.cell (World.block_lt_of_cell? w _ hw141_3)).trans hw141_3), ((HB.out.cell (World.block_lt_of_cell? w _ hw141_4)).trans hw141_4), ((HB.out.cell (World.block_lt_of_cell? w _ hw141_5)).trans hw141_5), ((HB.out.cell (World.block_lt_of_cell? w _ hw142_0)).trans hw142_0), ((HB.out.cell (World.block_lt_of_cell? w _ hw142_1)).trans hw142_1), ((HB.out.cell (World.block_lt_of_cell? w _ hw142_2)).trans hw142_2), ((HB.out.cell (World.block_lt_of_cell? w _ hw142_3)).trans hw142_3), ((HB.out.cell (World.block_lt_of_cell? w _ hw142_4)).trans hw142_4), ((HB.out.cell (World.block_lt_of_cell? w _ hw142_5)).trans hw142_5)⟩ (fun hHeld => ?_); refine with_tabW laws_eqTeamS.tab6 laws_eqTeamS.bits6 (fun HT_ HW_ => ?_)
        generalize wr.drew = w11 at HB HR141_5 HR142_5 hx141_0 hx141_1 hx141_2 hx141_3 hx141_4 hx141_5 hx142_0 hx142_1 hx142_2 hx142_3 hx142_4 hx142_5 hHeld ⊢
        refine pure_ (i := 0) (N := some 17) (v := ?_) (a' := ?_) #[oo,zz,zz,zz,zz,zz,zz,zz,zz,zz] rfl rfl (any_of HT_.out (by kernel_rfl)) (fun _ _ _ h => h) (Or.inl ⟨by rfl, ?_⟩) ?_ ?_
        rotate_left
        ·
         intro w'
         go_simp
         with_reducible rfl
        rotate_left
        ·
         simp only [Act.put, List.setIfInBounds_toArray, List.set_cons_zero, List.set_cons_succ, i64_w, i32_w]
         rfl
        refine pure_ (i := 1) (N := some 18) (v := ?_) (a' := ?_) #[oo,oo,zz,zz,zz,zz,zz,zz,zz,zz] rfl rfl (any_of HT_.out (by kernel_rfl)) (fun _ _ _ h => h) (Or.inl ⟨by rfl, ?_⟩) ?_ ?_
        rotate_left
        ·
         intro w'
         go_simp
         with_reducible rfl
        rotate_left
        ·
         simp only [Act.put, List.setIfInBounds_toArray, List.set_cons_zero, List.set_cons_succ, i64_w, i32_w]
         rfl
        refine pure_ (i := 2) (N := some 19) (v := ?_) (a' := ?_) #[oo,oo,oo,zz,zz,zz,zz,zz,zz,zz] rfl rfl (any_of HT_.out (by kernel_rfl)) (fun _ _ _ h => h) (Or.inl ⟨by rfl, ?_⟩) ?_ ?_
        rotate_left
        ·
         intro w'
         go_simp
         with_reducible rfl
        rotate_left
        ·
         simp only [Act.put, List.setIfInBounds_toArray, List.set_cons_zero, List.set_cons_succ, i64_w, i32_w]
         rfl
        refine pure_ (i := 4) (N := some 21) (v := ?_) (a' := ?_) #[oo,oo,oo,zz,oo,zz,zz,zz,zz,zz] rfl rfl (any_of HT_.out (by kernel_rfl)) (fun _ _ _ h => h) (Or.inl ⟨by rfl, ?_⟩) ?_ ?_
        rotate_left
        ·
         intro w'
         go_simp
         with_reducible rfl
        rotate_left
        ·
         simp only [Act.put, List.setIfInBounds_toArray, List.set_cons_zero, List.set_cons_succ, i64_w, i32_w]
         rfl
        refine pure_ (i := 5) (N := some 22) (v := ?_) (a' := ?_) #[oo,oo,oo,zz,oo,oo,zz,zz,zz,zz] rfl rfl (any_of HT_.out (by kernel_rfl)) (fun _ _ _ h => h) (Or.inl ⟨by rfl, ?_⟩) ?_ ?_
        rotate_left
        ·
         intro w'
         go_simp
         with_reducible rfl
        rotate_left
        ·
         simp only [Act.put, List.setIfInBounds_toArray, List.set_cons_zero, List.set_cons_succ, i64_w, i32_w]
         rfl
        refine pure_ (i := 6) (N := some 23) (v := ?_) (a' := ?_) #[oo,oo,oo,zz,oo,oo,oo,zz,zz,zz] rfl rfl (any_of HT_.out (by kernel_rfl)) (fun _ _ _ h => h) (Or.inl ⟨by rfl, ?_⟩) ?_ ?_
        rotate_left
        ·
         intro w'
         go_simp
         with_reducible rfl
        rotate_left
        ·
         simp only [Act.put, List.setIfInBounds_toArray, List.set_cons_zero, List.set_cons_succ, i64_w, i32_w]
         rfl
        refine take_ (i := 3) (N := some 20) (v := ?_) (a' := ?_) #[oo,oo,oo,oo,oo,oo,oo,zz,zz,zz] rfl rfl (take_ofW HT_.out HW_.out (by kernel_rfl)) (fun _ _ _ h => h) (Or.inl ⟨by rfl, ?_⟩) hHeld ?_ ?_
        rotate_left
        ·
         rintro w' ⟨s0, s1, s2, s3, s4, s5, s6, s7, s8, s9, s10, s11⟩
         go_simp
         with_reducible rfl
        rotate_left
        ·
         simp only [Act.put, List.setIfInBounds_toArray, List.set_cons_zero, List.set_cons_succ, i64_w, i32_w]
         rfl
        refine take_ (i := 7) (N := some 24) (v := ?_) (a' := ?_) #[oo,oo,oo,oo,oo,oo,oo,oo,zz,zz] rfl rfl (take_ofW HT_.out HW_.out (by kernel_rfl)) (fun _ _ _ h => h) (Or.inl ⟨by rfl, ?_⟩) hHeld ?_ ?_
        rotate_left
        ·
         rintro w' ⟨s0, s1, s2, s3, s4, s5, s6, s7, s8, s9, s10, s11⟩
         go_simp
         with_reducible rfl
        rotate_left
        ·
         simp only [Act.put, List.setIfInBounds_toArray, List.set_cons_zero, List.set_cons_succ, i64_w, i32_w]
         rfl
        refine one_ (i := 8) (N := some 25) #[oo,oo,oo,oo,oo,oo,oo,oo,oo,zz] rfl rfl (one_of HT_.out (by kernel_rfl)) (by decide) (fun K hK => ?_)
        refine goes_ Try.func23 (by kernel_rfl) rfl #[.agg #[.int .i64 ((rd_T38 l0 x5_1).f0), .int .i64 ((rd_T38 l0 x5_1).f1), .int .i64 ((rd_T38 l0 x5_1).f2), .int .i64 ((rd_T38 l0 x5_1).f3), .int .i64 ((rd_T38 l0 x5_1).f4), .slice A141_5 ((rd_T38 l0 x5_1).f5).length c141_5], .agg #[.int .i64 ((rd_T38 l1 x5_1).f0), .int .i64 ((rd_T38 l1 x5_1).f1), .int .i64 ((rd_T38 l1 x5_1).f2), .int .i64 ((rd_T38 l1 x5_1).f3), .int .i64 ((rd_T38 l1 x5_1).f4), .slice A142_5 ((rd_T38 l1 x5_1).f5).length c142_5]] (by rfl) rfl rfl (by (try simp only [List.map_toArray, List.map_cons, List.map_nil]); first | done | rfl | (simp only [List.length_drop, List.length_take]; rfl)) ?_
        with_reducible refine (laws_eqTeam.calls k1 ((rd_T38 l0 x5_1).f0) ((rd_T38 l0 x5_1).f1) ((rd_T38 l0 x5_1).f2) ((rd_T38 l0 x5_1).f3) ((rd_T38 l0 x5_1).f4) _ _ ((rd_T38 l0 x5_1).f5) ((rd_T38 l1 x5_1).f0) ((rd_T38 l1 x5_1).f1) ((rd_T38 l1 x5_1).f2) ((rd_T38 l1 x5_1).f3) ((rd_T38 l1 x5_1).f4) _ _ ((rd_T38 l1 x5_1).f5) false _ ?side1 ?side2 ?side3 ?side4 A7.out).mono ?_
        (case side1 => repeat (first | exact (Kd.C_below HR141_5.out HB.out) | (with_reducible refine Kd.C_alloc ?_ _) | (with_reducible refine Kd.C_drewN ?_ _) | (with_reducible refine Kd.C_drew ?_)))
        (case side2 => exact HC141_5.out)
        (case side3 => repeat (first | exact (Kd.C_below HR142_5.out HB.out) | (with_reducible refine Kd.C_alloc ?_ _) | (with_reducible refine Kd.C_drewN ?_ _) | (with_reducible refine Kd.C_drew ?_)))
        (case side4 => exact HC142_5.out)
        rintro e w12 ⟨rfl, hb⟩
        refine ⟨_, rfl, ?_⟩
        have n0_ := Aside0.mk (below_step (by repeat (first | (with_reducible first | exact HB.out | apply below_alloc | apply pw_below_drewN | apply below_drew1) | exact HB.out)) hb)
        clear HB
        have HB := n0_
        clear n0_
        (try clear hb)
        (try clear hb2)
        (try clear hk)
        (try clear hi)
        refine hK.out _ _ ⟨((HB.out.cell (World.block_lt_of_cell? w _ hw141_0)).trans hw141_0), ((HB.out.cell (World.block_lt_of_cell? w _ hw141_1)).trans hw141_1), ((HB.out.cell (World.block_lt_of_cell? w _ hw141_2)).trans hw141_2), ((HB.out.cell (World.block_lt_of_cell? w _ hw141_3)).trans hw141_3), ((HB.out.cell (World.block_lt_of_cell? w _ hw141_4)).trans hw141_4), ((HB.out.cell (World.block_lt_of_cell? w _ hw141_5)).trans hw141_5), ((HB.out.cell (World.block_lt_of_cell? w _ hw142_0)).trans hw142_0), ((HB.out.cell (World.block_lt_of_cell? w _ hw142_1)).trans hw142_1), ((HB.out.cell (World.block_lt_of_cell? w _ hw142_2)).trans hw142_2), ((HB.out.cell (World.block_lt_of_cell? w _ hw142_3)).trans hw142_3), ((HB.out.cell (World.block_lt_of_cell? w _ hw142_4)).trans hw142_4), ((HB.out.cell (World.block_lt_of_cell? w _ hw142_5)).trans hw142_5)⟩ (fun hHeld => ?_)
        clear hK K
        refine norm_ (a' := ?_) ?_ ?_
        rotate_left
        ·
         show Act.put _ (some 25) _ = _
         simp only [Act.put, List.setIfInBounds_toArray, List.set_cons_zero, List.set_cons_succ, i64_w, i32_w]
         rfl
        refine pure_ (i := 9) (N := some 26) (v := ?_) (a' := ?_) #[oo,oo,oo,oo,oo,oo,oo,oo,oo,oo] rfl rfl (any_of HT_.out (by kernel_rfl)) (fun _ _ _ h => h) (Or.inl ⟨by rfl, ?_⟩) ?_ ?_
        rotate_left
        ·
         intro w'
         go_simp
         with_reducible rfl
        rotate_left
        ·
         simp only [Act.put, List.setIfInBounds_toArray, List.set_cons_zero, List.set_cons_succ, i64_w, i32_w]
         rfl
        refine done_ (done_of HT_.out (by kernel_rfl)) ?_
        try go_wp2
        go_ret
        exact ⟨by first | rfl | (simp [errW_none, errW_some] <;> rfl) | (simp [*, errW_none, errW_some] <;> rfl), by repeat (first | (with_reducible first | exact HB.out | apply below_alloc | apply pw_below_drewN | apply below_drew1) | exact HB.out)⟩
      ·
       rw [if_neg c6] at H
       exact absurd H (by simp)
     ·
      rw [if_neg c5] at H
      exact absurd H (by simp)
    ·
     rw [if_neg c4] at H
     have c4b0 : decide (x5_1 < (l0.length : Int)) = false := decide_eq_false c4
     clear c4
     obtain rfl := Option.some.inj H
     go_wp2
     go_ret
     exact ⟨by first | rfl | (simp [errW_none, errW_some] <;> rfl) | (simp [*, errW_none, errW_some] <;> rfl), by repeat (first | (with_reducible first | exact HB.out | apply below_alloc | apply pw_below_drewN | apply below_drew1) | exact HB.out)⟩
 ·
  rw [if_neg c3] at H
  have c3b0 : ((l0.length : Int) == (l1.length : Int)) = false := beq_eq_false_iff_ne.mpr c3
  have c3b1 : ((l0.length : Int) != (l1.length : Int)) = true := bne_iff_ne.mpr c3
  have c3b2 : (l0.length == l1.length) = false := by first | simpa using c3 | (simp at c3 ⊢; omega)
  obtain rfl := Option.some.inj H
  go_enter Try.func9, Try.ntmps9
  go_wp2
  go_ret
  exact ⟨by first | rfl | (simp [errW_none, errW_some] <;> rfl) | (simp [*, errW_none, errW_some] <;> rfl), by repeat (first | (with_reducible first | exact HB.out | apply below_alloc | apply pw_below_drewN | apply below_drew1) | exact HB.out)⟩
end Go.Proofs.Ytieglenodannmaa.A
end

section
namespace Go.Proofs.Ytieglenodannmaa.A
open Go.RowKit Go.Proofs.YtieglenodannmaaW.PrintWords Go.Proofs.YtieglenodannmaaW.PrintLast Go.Proofs.YtieglenodannmaaW.PrintMore
attribute [local go_sem] max2_int min2_int max_two min_two max_three min_three max_four min_four   -- for this text's walks alone
set_option linter.unusedVariables false
set_option linter.unusedSimpArgs false
def laws_markIntS.l0 : Nat → List Int → Int → Int → Option (Int × List Int)
  | 0, _, _, _ => none
  | k + 1, x0, x1, x5 => if x5 < (x0.length : Int) then (if 0 ≤ x5 then (laws_markIntS.l0 k (x0.set (x5 : Int).toNat x1) (wrap64 (x1 + 1)) (wrap64 (x5 + 1))) else (none)) else (some (x1, x0))
def laws_markIntS.f (k : Nat) (l0 : List Int) (a1 : Int) : Option (Int × List Int) := laws_markIntS.l0 k l0 a1 0
set_option maxHeartbeats 8000000 in
set_option maxRecDepth 100000 in
theorem laws_markIntS.calls (k : Nat) (P0_ : Nat → Prop) (u9000_ : Value) (l0 : List Int) (a1 : Int) (r1 : Int) (r2 : List Int) (w0 w : World) (hB : Below w0.heap.size w0 w) (ho0 : Kd.R (Kd.int .i64) 3 w w0.heap.size P0_ u9000_ l0) (h : laws_markIntS.f k l0 a1 = some (r1, r2)) :
  Calls Try.prog 11 #[u9000_, .int .i64 a1] w fun e w' => e = .returned (.int .i64 r1) ∧ Kd.R (Kd.int .i64) 3 w' w0.heap.size (fun k_ => (P0_ k_ ∨ w.heap.size ≤ k_)) u9000_ r2 ∧ Below w0.heap.size w0 w' ∧ Kept w w' (fun k_ => P0_ k_) := by
 have HO0 := Aside0.mk (show Kd.R (Kd.int .i64) 3 w w0.heap.size (fun k_ => (P0_ k_ ∨ w.heap.size ≤ k_)) u9000_ l0 from Kd.R_mono ho0 (fun k_ hk => (.inl hk)))
 have HK := Aside0.mk (Kept.refl w (fun k_ => P0_ k_))
 have HW0 := Aside0.mk hB.size
 have HB := Aside0.mk hB
 clear hB
 have H : (laws_markIntS.l0 k l0 a1 0) = some (r1, r2) := h
 clear h
 have H' := Aside0.mk H
 clear H
 go_enter Try.func11, Try.ntmps11
 go_wp2
 go_loopg [1, 5] k (fun kq v1 v5 w' => ∃ (x0_1 : List Int) (x1_1 : Int) (x5_1 : Int), v1 = .int .i64 x1_1 ∧ v5 = .int .i64 x5_1 ∧ Aside0 (laws_markIntS.l0 kq x0_1 x1_1 x5_1 = some (r1, r2)) ∧ Aside0 (kq ≤ k) ∧ Aside0 (Kd.R (Kd.int .i64) 3 w' w0.heap.size (fun k_ => (P0_ k_ ∨ w.heap.size ≤ k_)) u9000_ x0_1) ∧ Aside0 (Kept w w' (fun k_ => P0_ k_)) ∧ Aside0 (Below w0.heap.size w0 w'))
 case atStart => exact ⟨(l0), (a1), (0), (by first | rfl | (simp; done) | (simp [*]; done)), (by first | rfl | (simp; done) | (simp [*]; done)), H', ⟨Nat.le_refl _⟩, ⟨by (with_reducible repeat (first | apply Kd.R_alloc | apply Kd.R_drewN | apply Kd.R_drew)); exact HO0.out⟩, ⟨by repeat (first | (with_reducible first | exact HK.out | apply Kept.alloc | apply Kept.drewN | apply Kept.drew) | exact HK.out)⟩, ⟨by repeat (first | (with_reducible first | exact HB.out | apply below_alloc | apply pw_below_drewN | apply below_drew1) | exact HB.out)⟩⟩
 case round =>
  clear H'
  try clear c1
  try clear p2
  obtain ⟨x0_1, x1_1, x5_1, rfl, rfl, HA, HK1, HO_0, HK, HB⟩ := hrel
  cases gk with
  | zero => exact absurd HA.out (by simp [laws_markIntS.l0])
  | succ k1 =>
   have H := HA.out
   clear HA
   simp only [laws_markIntS.l0] at H
   by_cases c3 : x5_1 < (x0_1.length : Int)
   ·
    rw [if_pos c3] at H
    have c3b0 : decide (x5_1 < (x0_1.length : Int)) = true := decide_eq_true c3
    clear c3
    by_cases c4 : 0 ≤ x5_1
    ·
     rw [if_pos c4] at H
     have c4b0 : decide (0 ≤ x5_1) = true := decide_eq_true c4
     clear c4
     obtain ⟨y144, hy144⟩ : ∃ y_ : List Int, y_ = (x0_1.set (x5_1 : Int).toNat x1_1) := ⟨_, rfl⟩
     replace H : (laws_markIntS.l0 k1 y144 (wrap64 (x1_1 + 1)) (wrap64 (x5_1 + 1))) = some (r1, r2) := by first | (rw [hy144]; with_reducible exact H) | (have H2_ := (Option.bind_some _ _).symm.trans H; rw [hy144]; with_reducible exact H2_) | (have H2_ := (Option.bind_some _ _).symm.trans H; with_reducible exact H2_) | with_reducible exact H | (rw [hy144]; exact H) | exact H
     have Ny144 := Aside0.mk hy144
     clear hy144
     have H' := Aside0.mk H
     clear H
     obtain ⟨Ao6, co6, eo6⟩ := Kd.R_slice HO_0.out
     subst eo6
     have p5 : 0 ≤ (x5_1 : Int) := of_decide_eq_true (by first | (with_reducible assumption) | assumption)
     have q5 : (x5_1 : Int) < ((x0_1.length : Int) : Int) := of_decide_eq_true (by first | (with_reducible assumption) | assumption)
     obtain ⟨go5, co5, eo5, gb5, gl5, cl5, HG5⟩ := Kd.R_form HO_0.out (by omega)
     (first | cases eo5 | (injection eo5 with ea_ en_ ec_; (first | subst ea_ | (injection ea_ with ea_; subst ea_)); subst ec_; clear en_))
     have GB5 := Aside0.mk gb5
     have GG5 := Aside0.mk HG5
     clear gb5 gl5 HG5
     have HMgo5 := Aside0.mk (show (P0_ go5 ∨ w.heap.size ≤ go5) from (HO_0.out.1 _ rfl))
     obtain ⟨hx5_0, hf5_0⟩ := Kd.R_celln 0 HO_0.out (x5_1 : Int) p5 q5
     replace p5 := eq_true p5
     replace q5 := eq_true q5
     have HP7 := Kd.R_putg HO_0.out (x5_1 : Int) x1_1
     go_wp2_with (first | ((with_reducible refine gate_store (t := 3) (p := 15) rfl ?_); refine store_event (t := 3) (p := 15) (v := ?vo_w8) (w1 := (wr.setCell ⟨go5, (x5_1 : Int).toNat, none⟩ (.int .i64 x1_1))) ?hg ?ho ?hn ?hr ?_; (case ho => rfl); (case hg => rfl); (case hn => rfl); (case hr => first | (go_simp; done) | (go_simp; rfl)); intro w8 hw; have hg : wr.grownBy w8 (some go5) := (by rw [hw]; exact HP7.2); have hp_ : Kd.R (Kd.int .i64) 3 w8 w0.heap.size (fun k_ => (P0_ k_ ∨ w.heap.size ≤ k_)) (.slice (some ⟨go5, 0, none⟩) x0_1.length co6) y144 := (by rw [hw, Ny144.out]; exact HP7.1); clear HP7; have n0_ := Aside0.mk (hp_); have n1_ := Aside0.mk ((by rw [hw]; exact below_set (HB.out) GB5.out : Below w0.heap.size w0 w8)); have n2_ := Aside0.mk (Kept.of_grown (S := (fun k_ => P0_ k_)) hg (by repeat (first | (with_reducible first | exact HK.out | apply Kept.alloc | apply Kept.drewN | apply Kept.drew) | exact HK.out)) (fun k_ e_ => (HO_0.out.1 k_ e_))); clear HO_0; clear HB; clear HK; have HO_0 := n0_; have HB := n1_; have HK := n2_; clear n0_ n1_ n2_; clear hg hw hp_))
     go_roundg k1
     case measure => have := HK1.out; omega
     case rel => exact ⟨(y144), (wrap64 (x1_1 + 1)), (wrap64 (x5_1 + 1)), (by first | rfl | (simp; done) | (simp [*]; done)), (by first | rfl | (simp; done) | (simp [*]; done)), H', ⟨by have := HK1.out; omega⟩, ⟨by (with_reducible repeat (first | apply Kd.R_alloc | apply Kd.R_drewN | apply Kd.R_drew)); exact HO_0.out⟩, ⟨by repeat (first | (with_reducible first | exact HK.out | apply Kept.alloc | apply Kept.drewN | apply Kept.drew) | exact HK.out)⟩, ⟨by repeat (first | (with_reducible first | exact HB.out | apply below_alloc | apply pw_below_drewN | apply below_drew1) | exact HB.out)⟩⟩
    ·
     rw [if_neg c4] at H
     exact absurd H (by simp)
   ·
    rw [if_neg c3] at H
    have c3b0 : decide (x5_1 < (x0_1.length : Int)) = false := decide_eq_false c3
    clear c3
    simp only [Option.some.injEq, Prod.mk.injEq] at H
    obtain ⟨rfl, rfl⟩ := H
    obtain ⟨Ao9, co9, eo9⟩ := Kd.R_slice HO_0.out
    subst eo9
    go_wp2
    go_ret
    exact ⟨by first | rfl | (simp [errW_none, errW_some] <;> rfl) | (simp [*, errW_none, errW_some] <;> rfl), by (with_reducible repeat (first | apply Kd.R_alloc | apply Kd.R_drewN | apply Kd.R_drew)); exact HO_0.out, by repeat (first | (with_reducible first | exact HB.out | apply below_alloc | apply pw_below_drewN | apply below_drew1) | exact HB.out), by repeat (first | (with_reducible first | exact HK.out | apply Kept.alloc | apply Kept.drewN | apply Kept.drew) | exact HK.out)⟩
end Go.Proofs.Ytieglenodannmaa.A
end

section
namespace Go.Proofs.Ytieglenodannmaa.A
open Go.RowKit Go.Proofs.YtieglenodannmaaW.PrintWords Go.Proofs.YtieglenodannmaaW.PrintLast Go.Proofs.YtieglenodannmaaW.PrintMore
attribute [local go_sem] max2_int min2_int max_two min_two max_three min_three max_four min_four   -- for this text's walks alone
set_option linter.unusedVariables false
set_option linter.unusedSimpArgs false
def laws_heldIntS.l0 : Nat → List Int → Int → Int → Option (Int)
  | 0, _, _, _ => none
  | k + 1, x0, x1, x5 => if x5 < (x0.length : Int) then (if 0 ≤ x5 then (if (rd x0 x5) = x1 then (laws_heldIntS.l0 k x0 (wrap64 (x1 + 1)) (wrap64 (x5 + 1))) else (some (-1))) else (none)) else (some x1)
def laws_heldIntS.f (k : Nat) (l0 : List Int) (a1 : Int) : Option (Int) := laws_heldIntS.l0 k l0 a1 0
set_option maxHeartbeats 8000000 in
set_option maxRecDepth 100000 in
theorem laws_heldIntS.calls (k : Nat) (A0 : Option Addr) (c0 : Nat) (l0 : List Int) (a1 : Int) (r : Int) (w : World) (hr0 : Kd.C (Kd.int .i64) w A0 l0.length l0) (hc0 : l0.length ≤ c0) (h : laws_heldIntS.f k l0 a1 = some r) :
  Calls Try.prog 12 #[.slice A0 l0.length c0, .int .i64 a1] w fun e w' => e = .returned (.int .i64 r) ∧ Drawn0 w w' := by
 have HR0 := Aside0.mk hr0
 have HC0 := Aside0.mk hc0
 clear hr0 hc0
 have H : (laws_heldIntS.l0 k l0 a1 0) = some r := h
 clear h
 have H' := Aside0.mk H
 clear H
 go_enter Try.func12, Try.ntmps12
 go_wp2
 go_loopg [1, 5] k (fun kq v1 v5 w' => ∃ (x1_1 : Int) (x5_1 : Int), v1 = .int .i64 x1_1 ∧ v5 = .int .i64 x5_1 ∧ Aside0 (laws_heldIntS.l0 kq l0 x1_1 x5_1 = some r) ∧ Aside0 (kq ≤ k) ∧ Drawn0 w w')
 case atStart => exact ⟨(a1), (0), (by first | rfl | (simp; done) | (simp [*]; done)), (by first | rfl | (simp; done) | (simp [*]; done)), H', ⟨Nat.le_refl _⟩, by repeat (first | exact Drawn0.refl _ | apply Drawn0.step)⟩
 case round =>
  clear H'
  try clear c1
  try clear p2
  obtain ⟨x1_1, x5_1, rfl, rfl, HA, HK1, ⟨m1, rfl⟩⟩ := hrel
  cases gk with
  | zero => exact absurd HA.out (by simp [laws_heldIntS.l0])
  | succ k1 =>
   have H := HA.out
   clear HA
   simp only [laws_heldIntS.l0] at H
   by_cases c3 : x5_1 < (l0.length : Int)
   ·
    rw [if_pos c3] at H
    have c3b0 : decide (x5_1 < (l0.length : Int)) = true := decide_eq_true c3
    clear c3
    by_cases c4 : 0 ≤ x5_1
    ·
     rw [if_pos c4] at H
     have c4b0 : decide (0 ≤ x5_1) = true := decide_eq_true c4
     clear c4
     by_cases c5 : (rd l0 x5_1) = x1_1
     ·
      rw [if_pos c5] at H
      have c5b0 : ((rd l0 x5_1) == x1_1) = true := beq_iff_eq.mpr c5
      have c5b1 : ((rd l0 x5_1) != x1_1) = false := bne_eq_false_iff_eq.mpr c5
      clear c5
      have H' := Aside0.mk H
      clear H
      have p145 : 0 ≤ (x5_1 : Int) := of_decide_eq_true (by first | (with_reducible assumption) | assumption)
      have q145 : x5_1 < (l0.length : Int) := of_decide_eq_true (by first | (with_reducible assumption) | assumption)
      obtain ⟨ad145, e145, hx145_0⟩ := Kd.at_int HR0.out x5_1 p145 q145
      cases e145
      replace p145 := eq_true p145
      replace q145 := eq_true q145
      go_wp2
      go_roundg k1
      case measure => have := HK1.out; omega
      case rel => exact ⟨(wrap64 (x1_1 + 1)), (wrap64 (x5_1 + 1)), (by first | rfl | (simp; done) | (simp [*]; done)), (by first | rfl | (simp; done) | (simp [*]; done)), H', ⟨by have := HK1.out; omega⟩, by repeat (first | exact Drawn0.refl _ | apply Drawn0.step)⟩
     ·
      rw [if_neg c5] at H
      have c5b0 : ((rd l0 x5_1) == x1_1) = false := beq_eq_false_iff_ne.mpr c5
      have c5b1 : ((rd l0 x5_1) != x1_1) = true := bne_iff_ne.mpr c5
      obtain rfl := Option.some.inj H
      have p145 : 0 ≤ (x5_1 : Int) := of_decide_eq_true (by first | (with_reducible assumption) | assumption)
      have q145 : x5_1 < (l0.length : Int) := of_decide_eq_true (by first | (with_reducible assumption) | assumption)
      obtain ⟨ad145, e145, hx145_0⟩ := Kd.at_int HR0.out x5_1 p145 q145
      cases e145
      replace p145 := eq_true p145
      replace q145 := eq_true q145
      go_wp2
      go_ret
      exact ⟨by first | rfl | (simp; done) | (simp [*]; done), by repeat (first | exact Drawn0.refl _ | apply Drawn0.step)⟩
    ·
     rw [if_neg c4] at H
     exact absurd H (by simp)
   ·
    rw [if_neg c3] at H
    have c3b0 : decide (x5_1 < (l0.length : Int)) = false := decide_eq_false c3
    clear c3
    obtain rfl := Option.some.inj H
    go_wp2
    go_ret
    exact ⟨by first | rfl | (simp; done) | (simp [*]; done), by repeat (first | exact Drawn0.refl _ | apply Drawn0.step)⟩
end Go.Proofs.Ytieglenodannmaa.A
end

section
namespace Go.Proofs
open Go.Shelf
def Try.sortT_ren : Go.Shelf.Ren := ⟨fun | 6 => 19 | 15 => 33 | 14 => 32 | 28 => 45 | 29 => 46 | 20 => 37 | 21 => 38 | 22 => 39 | 23 => 40 | 24 => 41 | 25 => 42 | 26 => 43 | 27 => 44 | 46 => 47 | 47 => 48 | 48 => 49 | 49 => 50 | 50 => 51 | 57 => 52 | n => n, fun | 22 => 26 | 24 => 38 | 25 => 44 | 3 => 3 | 39 => 49 | 0 => 0 | 53 => 62 | 55 => 64 | 4 => 4 | 46 => 55 | 45 => 54 | 50 => 59 | 5 => 5 | 9 => 9 | 66 => 65 | 70 => 69 | 76 => 71 | 77 => 72 | n => n, fun | n => n⟩
theorem Try.sortT : Go.Proofs.SlLaysF0.n6 Try.prog Try.sortT_ren := {
  mixed := by kernel_rfl
  f6 := ⟨Try.f19.name, by decide, Try.func19.trans (congrArg some (by kernel_rfl))⟩
  f14 := ⟨Try.f32.name, by decide, Try.func32.trans (congrArg some (by kernel_rfl))⟩
  f15 := Try.func33.trans (congrArg some (by kernel_rfl))
  f20 := ⟨Try.f37.name, by decide, Try.func37.trans (congrArg some (by kernel_rfl))⟩
  f21 := ⟨Try.f38.name, by decide, Try.func38.trans (congrArg some (by kernel_rfl))⟩
  f22 := ⟨Try.f39.name, by decide, Try.func39.trans (congrArg some (by kernel_rfl))⟩
  f23 := ⟨Try.f40.name, by decide, Try.func40.trans (congrArg some (by kernel_rfl))⟩
  f24 := ⟨Try.f41.name, by decide, Try.func41.trans (congrArg some (by kernel_rfl))⟩
  f25 := ⟨Try.f42.name, by decide, Try.func42.trans (congrArg some (by kernel_rfl))⟩
  f26 := ⟨Try.f43.name, by decide, Try.func43.trans (congrArg some (by kernel_rfl))⟩
  f27 := ⟨Try.f44.name, by decide, Try.func44.trans (congrArg some (by kernel_rfl))⟩
  f28 := Try.func45.trans (congrArg some (by kernel_rfl))
  f29 := Try.func46.trans (congrArg some (by kernel_rfl))
  f46 := ⟨Try.f47.name, by decide, Try.func47.trans (congrArg some (by kernel_rfl))⟩
  f47 := Try.func48.trans (congrArg some (by kernel_rfl))
  f48 := Try.func49.trans (congrArg some (by kernel_rfl))
  f49 := ⟨Try.f50.name, by decide, Try.func50.trans (congrArg some (by kernel_rfl))⟩
  f50 := ⟨Try.f51.name, by decide, Try.func51.trans (congrArg some (by kernel_rfl))⟩
  f57 := ⟨Try.f52.name, by decide, Try.func52.trans (congrArg some (by kernel_rfl))⟩
  t0 := Try.underlying0
  a0 := Try.isAgg0
  z0 := Try.sizeOf0
  v0 := Try.zeroValue0
  t3 := Try.underlying3
  a3 := Try.isAgg3
  z3 := Try.sizeOf3
  v3 := Try.zeroValue3
  t4 := Try.underlying4
  a4 := Try.isAgg4
  z4 := Try.sizeOf4
  v4 := Try.zeroValue4
  t5 := Try.underlying5
  a5 := Try.isAgg5
  z5 := Try.sizeOf5
  v5 := Try.zeroValue5
  t9 := Try.underlying9
  a9 := Try.isAgg9
  z9 := Try.sizeOf9
  v9 := Try.zeroValue9
  t22 := Try.underlying26
  a22 := Try.isAgg26
  z22 := Try.sizeOf26
  v22 := Try.zeroValue26
  t25 := Try.underlying44
  a25 := Try.isAgg44
  z25 := Try.sizeOf44
  v25 := Try.zeroValue44
  t39 := Try.underlying49
  a39 := Try.isAgg49
  z39 := Try.sizeOf49
  v39 := Try.zeroValue49
  t45 := Try.underlying54
  a45 := Try.isAgg54
  z45 := Try.sizeOf54
  v45 := Try.zeroValue54
  t46 := Try.underlying55
  a46 := Try.isAgg55
  z46 := Try.sizeOf55
  v46 := Try.zeroValue55
  t50 := Try.underlying59
  a50 := Try.isAgg59
  z50 := Try.sizeOf59
  v50 := Try.zeroValue59
  t53 := Try.underlying62
  a53 := Try.isAgg62
  z53 := Try.sizeOf62
  v53 := Try.zeroValue62
  t55 := Try.underlying64
  a55 := Try.isAgg64
  z55 := Try.sizeOf64
  v55 := Try.zeroValue64
  t66 := Try.underlying65
  a66 := Try.isAgg65
  z66 := Try.sizeOf65
  v66 := Try.zeroValue65
  t70 := Try.underlying69
  a70 := Try.isAgg69
  z70 := Try.sizeOf69
  v70 := Try.zeroValue69
  t76 := Try.underlying71
  a76 := Try.isAgg71
  z76 := Try.sizeOf71
  v76 := Try.zeroValue71
  t77 := Try.underlying72
  a77 := Try.isAgg72
  z77 := Try.sizeOf72
  v77 := Try.zeroValue72 }
def Try.lays125_ren : Go.Shelf.Ren := ⟨fun | 125 => 33 | 128 => 45 | 129 => 46 | n => n, fun | 46 => 49 | 3 => 3 | 51 => 62 | 53 => 64 | 4 => 4 | 5 => 5 | 9 => 9 | n => n, fun | n => n⟩
theorem Try.lays125 : Go.Proofs.Lays.n125 Try.prog Try.lays125_ren := {
  mixed := by kernel_rfl
  f125 := Try.func33.trans (congrArg some (by kernel_rfl))
  f128 := Try.func45.trans (congrArg some (by kernel_rfl))
  f129 := Try.func46.trans (congrArg some (by kernel_rfl))
  t3 := Try.underlying3
  a3 := Try.isAgg3
  z3 := Try.sizeOf3
  v3 := Try.zeroValue3
  t4 := Try.underlying4
  a4 := Try.isAgg4
  z4 := Try.sizeOf4
  v4 := Try.zeroValue4
  t5 := Try.underlying5
  a5 := Try.isAgg5
  z5 := Try.sizeOf5
  v5 := Try.zeroValue5
  t9 := Try.underlying9
  a9 := Try.isAgg9
  z9 := Try.sizeOf9
  v9 := Try.zeroValue9
  t46 := Try.underlying49
  a46 := Try.isAgg49
  z46 := Try.sizeOf49
  v46 := Try.zeroValue49
  t51 := Try.underlying62
  a51 := Try.isAgg62
  z51 := Try.sizeOf62
  v51 := Try.zeroValue62
  t53 := Try.underlying64
  a53 := Try.isAgg64
  z53 := Try.sizeOf64
  v53 := Try.zeroValue64 }
end Go.Proofs
end

section
set_option linter.unusedVariables false
set_option linter.unusedSimpArgs false
namespace Go.Proofs.Ytieglenodannmaa.A
open Go.RowKit Go.Proofs.YtieglenodannmaaW.PrintWords Go.Proofs.YtieglenodannmaaW.PrintLast Go.Proofs.YtieglenodannmaaW.PrintMore Go.Shelf Go.Sort
def cmpC (x y : Int) : Int := if x < y then -1 else if y < x then 1 else 0
def orC (a b c : Int) : Int := if a ≠ 0 then a else if b ≠ 0 then b else c
set_option maxHeartbeats 2000000 in
set_option maxRecDepth 100000 in
theorem isNaN_calls (x : Int) (w : World) : Calls Try.prog 34 #[.int .i64 x] w fun e w' => e = .returned (.bool false) ∧ w' = w := by
  go_enter Try.func34, Try.ntmps34
  go_wp2
  go_ret
  exact ⟨by simp, rfl⟩
set_option maxHeartbeats 2000000 in
set_option maxRecDepth 100000 in
theorem Compare_calls (x y : Int) (w : World) : Calls Try.prog 22 #[.int .i64 x, .int .i64 y] w fun e w' => e = .returned (.int .i64 (cmpC x y)) ∧ w' = w := by
  have hN := fun x w => isNaN_calls x w
  rcases Int.lt_trichotomy x y with h | h | h
  · have e : cmpC x y = -1 := if_pos h
    have hd : (x < y) = True := eq_true h
    rw [e]
    clear e h
    go_enter Try.func22, Try.ntmps22
    go_wp2_with (go_at_call 34; refine (hN _ _).mono ?_; rintro e w' ⟨rfl, rfl⟩)
    go_ret
    exact ⟨rfl, rfl⟩
  · subst h
    have e : cmpC x x = 0 := by simp [cmpC]
    rw [e]
    clear e
    go_enter Try.func22, Try.ntmps22
    go_wp2_with (go_at_call 34; refine (hN _ _).mono ?_; rintro e w' ⟨rfl, rfl⟩)
    go_ret
    exact ⟨rfl, rfl⟩
  · have e : cmpC x y = 1 := by simp [cmpC, h, Int.not_lt.2 (Int.le_of_lt h)]
    have hd : (y < x) = True := eq_true h
    have hd2 : (x < y) = False := eq_false (Int.not_lt.2 (Int.le_of_lt h))
    rw [e]
    clear e h
    go_enter Try.func22, Try.ntmps22
    go_wp2_with (go_at_call 34; refine (hN _ _).mono ?_; rintro e w' ⟨rfl, rfl⟩)
    go_ret
    exact ⟨rfl, rfl⟩
set_option maxHeartbeats 2000000 in
set_option maxRecDepth 100000 in
theorem Or3_calls (a b c : Int) (B : Nat) (w : World) (h0 : w.cell? ⟨B, 0, none⟩ = some (.int .i64 a)) (h1 : w.cell? ⟨B, 1, none⟩ = some (.int .i64 b)) (h2 : w.cell? ⟨B, 2, none⟩ = some (.int .i64 c)) :
    Calls Try.prog 21 #[.slice (some ⟨B, 0, none⟩) 3 3] w fun e w' => e = .returned (.int .i64 (orC a b c)) ∧ w' = w := by
  by_cases ha : a = 0
  · subst ha
    by_cases hb : b = 0
    · subst hb
      have e : orC 0 0 c = c := by simp [orC]
      rw [e]
      clear e
      by_cases hc : c = 0
      · subst hc
        go_enter Try.func21, Try.ntmps21
        go_wp2
        refine wp_loop_rounds 4 ?_
        rw [rounds_succ]
        go_wp2
        rw [rounds_succ]
        go_wp2
        rw [rounds_succ]
        go_wp2
        rw [rounds_succ]
        go_wp2
        go_ret
        exact ⟨rfl, rfl⟩
      · go_enter Try.func21, Try.ntmps21
        go_wp2
        refine wp_loop_rounds 4 ?_
        rw [rounds_succ]
        go_wp2
        rw [rounds_succ]
        go_wp2
        rw [rounds_succ]
        go_wp2
        go_ret
        exact ⟨rfl, rfl⟩
    · have e : orC 0 b c = b := by simp [orC, hb]
      rw [e]
      clear e
      go_enter Try.func21, Try.ntmps21
      go_wp2
      refine wp_loop_rounds 3 ?_
      rw [rounds_succ]
      go_wp2
      rw [rounds_succ]
      go_wp2
      go_ret
      exact ⟨rfl, rfl⟩
  · have e : orC a b c = a := by simp [orC, ha]
    rw [e]
    clear e
    go_enter Try.func21, Try.ntmps21
    go_wp2
    refine wp_loop_rounds 2 ?_
    rw [rounds_succ]
    go_wp2
    go_ret
    exact ⟨rfl, rfl⟩
end Go.Proofs.Ytieglenodannmaa.A
end

section
set_option linter.unusedVariables false
set_option linter.unusedSimpArgs false
namespace Go.Proofs.Ytieglenodannmaa.A
open Go.RowKit Go.Proofs.YtieglenodannmaaW.PrintWords Go.Proofs.YtieglenodannmaaW.PrintLast Go.Proofs.YtieglenodannmaaW.PrintMore Go.Shelf Go.Sort
structure TmA where
  f0 : Int
  f1 : Int
  f2 : Int
  f3 : Int
  f4 : Int
  A : Option Addr
  n : Nat
  c : Nat
  deriving Inhabited
def TmA.cells (x : TmA) : List Value := [.int .i64 x.f0, .int .i64 x.f1, .int .i64 x.f2, .int .i64 x.f3, .int .i64 x.f4, .slice x.A x.n x.c]
def cmpT (x y : TmA) : Int := orC (cmpC y.f2 x.f2) (cmpC y.f3 x.f3) (cmpC x.f0 y.f0)
theorem grow3 (W : World) (a b c : Obj) : ((W.alloc a).alloc b).drew.alloc c = grow (W.drewN 1) #[a, b, c] := by
  rw [alloc_eq_grow W, alloc_eq_grow (grow W _), grow_grow, drew_grow, alloc_eq_grow, grow_grow]
  rfl
set_option maxHeartbeats 4000000 in
set_option maxRecDepth 100000 in
theorem Standing1_calls (x y : TmA) (W : World) : Calls Try.prog 20 #[.agg x.cells.toArray, .agg y.cells.toArray] W fun e w' => e = .returned (.int .i64 (cmpT x y)) ∧ ∃ q os', w' = grow (W.drewN q) os' := by
  obtain ⟨x0, x1, x2, x3, x4, xA, xn, xc⟩ := x
  obtain ⟨y0, y1, y2, y3, y4, yA, yn, yc⟩ := y
  have hu38 := Try.underlying38
  show Calls Try.prog 20 #[.agg #[.int .i64 x0, .int .i64 x1, .int .i64 x2, .int .i64 x3, .int .i64 x4, .slice xA xn xc], .agg #[.int .i64 y0, .int .i64 y1, .int .i64 y2, .int .i64 y3, .int .i64 y4, .slice yA yn yc]] W fun e w' => e = .returned (.int .i64 (orC (cmpC y2 x2) (cmpC y3 x3) (cmpC x0 y0))) ∧ _
  have hC := fun x y w => Compare_calls x y w
  have hO := fun a b c B w h0 h1 h2 => Or3_calls a b c B w h0 h1 h2
  go_enter Try.func20, Try.ntmps20
  go_wp2_with fail
  refine wp_region_still_tail 15 (by kernel_rfl) (by kernel_rfl) ?_
  show wpStill _ _ (World.drew _) (fun a' => wpList _ _ _ _ a' (World.drew _)) _ _
  generalize hw2 : World.drew _ = w2
  have a2 : w2.cell? ⟨W.heap.size, 2, none⟩ = some (.int .i64 x2) := by rw [← hw2]; simp
  have a3 : w2.cell? ⟨W.heap.size, 3, none⟩ = some (.int .i64 x3) := by rw [← hw2]; simp
  have a0 : w2.cell? ⟨W.heap.size, 0, none⟩ = some (.int .i64 x0) := by rw [← hw2]; simp
  have b2 : w2.cell? ⟨W.heap.size + 1, 2, none⟩ = some (.int .i64 y2) := by rw [← hw2]; simp
  have b3 : w2.cell? ⟨W.heap.size + 1, 3, none⟩ = some (.int .i64 y3) := by rw [← hw2]; simp
  have b0 : w2.cell? ⟨W.heap.size + 1, 0, none⟩ = some (.int .i64 y0) := by rw [← hw2]; simp
  have H2 := Aside0.mk hw2
  clear hw2
  simp only [List.take_succ_cons, List.take_zero, List.drop_succ_cons, List.drop_zero]
  repeat (first | still_step | still_call (hC _ _ _))
  refine wpStill_nil ?_
  go_wp2_with (go_at_call 21; refine (hO (cmpC y2 x2) (cmpC y3 x3) (cmpC x0 y0) _ _ (by simp) (by simp) (by simp)).mono ?_; rintro e w' ⟨rfl, rfl⟩)
  go_ret
  refine ⟨rfl, ?_⟩
  rw [← H2.out]
  exact ⟨1, _, grow3 W _ _ _⟩
end Go.Proofs.Ytieglenodannmaa.A
end

section
set_option linter.unusedVariables false
set_option linter.unusedSimpArgs false
namespace Go.Proofs.Ytieglenodannmaa.A
open Go.RowKit Go.Proofs.YtieglenodannmaaW.PrintWords Go.Proofs.YtieglenodannmaaW.PrintLast Go.Proofs.YtieglenodannmaaW.PrintMore Go.Shelf Go.Sort
abbrev K3 := Int × Int × Int
def befK (u v : K3) : Bool := decide (v.1 < u.1) || (decide (u.1 = v.1) && (decide (v.2.1 < u.2.1) || (decide (u.2.1 = v.2.1) && decide (u.2.2 < v.2.2))))
theorem befK_iff {u v : K3} : befK u v = true ↔ v.1 < u.1 ∨ u.1 = v.1 ∧ (v.2.1 < u.2.1 ∨ u.2.1 = v.2.1 ∧ u.2.2 < v.2.2) := by simp [befK]
def keyA (x : TmA) : K3 := (x.f2, x.f3, x.f0)
def keyS (x : S38) : K3 := (x.f2, x.f3, x.f0)
def befB (u v : S38) : Bool := befK (keyS u) (keyS v)
def ordT (l : List S38) : List S38 := l.mergeSort (fun u v => !befB v u)
theorem cmpC_neg {x y : Int} : cmpC x y < 0 ↔ x < y := by
  unfold cmpC
  split
  · omega
  · split <;> omega
theorem cmpC_zero {x y : Int} : cmpC x y = 0 ↔ x = y := by
  unfold cmpC
  split
  · omega
  · split <;> omega
theorem orC_neg {a b c : Int} : orC a b c < 0 ↔ a < 0 ∨ a = 0 ∧ (b < 0 ∨ b = 0 ∧ c < 0) := by
  unfold orC
  split
  · omega
  · split <;> omega
theorem ltOf_cmpT (x y : TmA) : ltOf cmpT x y = befK (keyA x) (keyA y) := by
  rw [Bool.eq_iff_iff, befK_iff]
  simp only [ltOf, cmpT, decide_eq_true_eq, orC_neg, cmpC_neg, cmpC_zero, keyA]
  omega
theorem swo_cmpT : SWO (ltOf cmpT) where
  irrefl x := by rw [ltOf_cmpT, Bool.eq_false_iff, Ne, befK_iff]; omega
  trans x y z h1 h2 := by rw [ltOf_cmpT, befK_iff] at *; omega
  ntrans x y z h1 h2 := by rw [ltOf_cmpT, Bool.eq_false_iff, Ne, befK_iff] at *; omega
theorem sorted_one {l1 l2 : List K3} (hp : l1.Perm l2) (h1 : l1.Pairwise (fun u v => befK v u = false)) (h2 : l2.Pairwise (fun u v => befK v u = false)) : l1 = l2 := by
  refine List.Perm.eq_of_pairwise (le := fun u v => befK v u = false) (fun a b _ _ hab hba => ?_) h1 h2 hp
  rw [Bool.eq_false_iff, Ne, befK_iff] at hab hba
  have e1 : a.1 = b.1 := by omega
  have e2 : a.2.1 = b.2.1 := by omega
  have e3 : a.2.2 = b.2.2 := by omega
  exact Prod.ext e1 (Prod.ext e2 e3)
theorem ordT_sortedK (l : List S38) : ((ordT l).map keyS).Pairwise (fun u v => befK v u = false) := by
  rw [List.pairwise_map]
  have := List.pairwise_mergeSort (le := fun u v : S38 => !befB v u) (fun a b c h1 h2 => by
    simp only [befB, Bool.not_eq_true', Bool.eq_false_iff, Ne, befK_iff] at *
    omega) (fun a b => by
    simp only [befB, Bool.or_eq_true, Bool.not_eq_true', Bool.eq_false_iff, Ne, befK_iff]
    omega) l
  exact this.imp (fun h => by simpa [befB] using h)
theorem sorted_ids {d d' : Array TmA} {l : List S38} (hd : d.toList.map keyA = l.map keyS) (hp : PermIn 0 d.size d d') (hs : SortedIn (ltOf cmpT) 0 d.size d') : d'.toList.map keyA = (ordT l).map keyS := by
  have hsz := hp.1
  have e1 : (d.extract 0 d.size).toList = d.toList := by simp
  have e2 : (d'.extract 0 d.size).toList = d'.toList := by rw [← hsz]; simp
  have hp' : d'.toList.Perm d.toList := by
    have := hp.2.2
    rwa [e1, e2] at this
  refine sorted_one (((hp'.map keyA).trans (by rw [hd])).trans ((List.mergeSort_perm l _).map keyS).symm) ?_ (ordT_sortedK l)
  rw [List.pairwise_map, List.pairwise_iff_getElem]
  intro i j hi hj hij
  simp only [Array.length_toList] at hi hj
  have := hs i j (Nat.zero_le _) hij (by omega)
  rw [ltOf_cmpT] at this
  simpa [hi, hj] using this
theorem listOf {α : Type} : ∀ (n : Nat) (P : Nat → α → Prop), (∀ i, i < n → ∃ x, P i x) → ∃ d : List α, d.length = n ∧ ∀ (i : Nat) (hi : i < d.length), P i d[i]
  | 0, P, h => ⟨[], rfl, fun i hi => by simp at hi⟩
  | n + 1, P, h => by
    obtain ⟨x, hx⟩ := h 0 (by omega)
    obtain ⟨d, hd, hP⟩ := listOf n (fun i => P (i + 1)) (fun i hi => h (i + 1) (by omega))
    refine ⟨x :: d, by simp [hd], fun i hi => ?_⟩
    cases i with
    | zero => exact hx
    | succ i => exact hP i (by simpa using hi)
theorem sortW_below {α : Type} [Inhabited α] {enc : α → List Value} {k : Nat} {w0 w : World} {g n : Nat} {d : Array α} {os : Array Obj} (hb : Below w0.heap.size w0 w) (hg : w0.heap.size ≤ g) : Below w0.heap.size w0 (sortWorldK enc k w g 0 n d os) := by
  refine hb.trans ⟨rfl, rfl, rfl, by unfold sortWorldK; rw [size_grow]; simp [putRowK, putRow, mapBlock, Sort.ahead], fun i hi => ?_⟩
  have hs := hb.size
  unfold sortWorldK
  rw [heap_grow_old _ _ (by simp [putRowK, putRow, mapBlock, Sort.ahead]; omega)]
  simp only [putRowK, putRow, mapBlock, Sort.ahead, Array.getElem?_modify]
  rw [if_neg (by omega)]
theorem sortW_size {α : Type} [Inhabited α] {enc : α → List Value} {k : Nat} {w : World} {g n : Nat} {d : Array α} {os : Array Obj} : w.heap.size ≤ (sortWorldK enc k w g 0 n d os).heap.size := by
  unfold sortWorldK
  rw [size_grow]
  simp [putRowK, putRow, mapBlock, Sort.ahead]
set_option maxHeartbeats 2000000 in
theorem SortFunc_calls (g cap : Nat) (d : Array TmA) (w : World) (hH : HoldsK TmA.cells 6 w g 0 d) (hblk : g < w.heap.size) (h12 : d.size ≤ 12) :
    Calls Try.prog 19 #[.slice (some ⟨g, 0, none⟩) d.size cap, .func (.func 20) #[] #[]] w fun e w' => e = .returned (.tuple #[]) ∧ ∃ d' n os, PermIn 0 d.size d d' ∧ SortedIn (ltOf cmpT) 0 d.size d' ∧ w' = sortWorldK TmA.cells 6 w g 0 n d' os := by
  have eg : ∀ args w, (callFunc 20 args).run Try.prog w = .ok (.enter 20 args) w := enters_of Try.func20 (by kernel_rfl) rfl
  have hlen : ∀ (n : Nat) (W : World), n ≤ 12 → Calls Try.prog 33 #[.int .u64 n] W fun e w' => (∃ l : Int, e = .returned (.int .i64 l)) ∧ w' = W := fun n W h =>
    (Any.bits_Len Try.lays125 n W (by omega) (by omega)).mono fun _ _ ⟨he, hw⟩ => ⟨⟨_, he⟩, hw⟩
  exact AnyQ.slices_SortFunc_small_sorted Try.sortT 6 Try.isAgg38 Try.sizeOf38 TmA.cells (fun _ => rfl) (fun x v hv => by simp only [TmA.cells, List.mem_cons, List.not_mem_nil, or_false] at hv; rcases hv with rfl | rfl | rfl | rfl | rfl | rfl <;> rfl) cmpT _ #[] swo_cmpT g 0 cap d w eg (fun _ _ _ _ x y => Standing1_calls x y _) hH hblk h12 hlen
end Go.Proofs.Ytieglenodannmaa.A
end

section
set_option linter.unusedVariables false
set_option linter.unusedSimpArgs false
namespace Go.Proofs.Ytieglenodannmaa.A
open Go.RowKit Go.Proofs.YtieglenodannmaaW.PrintWords Go.Proofs.YtieglenodannmaaW.PrintLast Go.Proofs.YtieglenodannmaaW.PrintMore Go.Shelf Go.Sort
theorem hkT_nil {w : World} {a : Option Addr} {n c n' c' : Nat} : (binOp .eql 26 (.slice a n c) (.slice none n' c')).run Try.prog w = .ok (.bool a.isNone) w := by
  have e : ∀ d, (Op.equalIn (d + 1) 26 (.slice a n c) (.slice none n' c')).run Try.prog w = .ok a.isNone w := by
    intro d
    cases a <;> simp [Op.equalIn, run_underlying Try.underlying26]
  simp only [binOp]
  simp [Op.equal, Op.maxDepth, e 9999]
theorem hkT_alloc {W : World} {a : Addr} {v : Value} (o : Obj) (h : W.cell? a = some v) : (W.alloc o).cell? a = some v := by
  have hlt : a.block < W.heap.size := World.block_lt_of_cell? W a h
  rw [← h]
  simp only [World.cell?, World.alloc, Array.getElem?_push, Nat.ne_of_lt hlt, if_false]
theorem cellsT {w : World} {ad : Addr} {l0 : List S38} (h : Kd.C k38 w (some ad) l0.length l0) : ∃ d : List TmA, d.length = l0.length ∧ d.map keyA = l0.map keyS ∧ ∀ (i : Nat) (hi : i < d.length) (j : Nat) (u : Value), (d[i].cells)[j]? = some u → w.cell? (ad.add (i * 6 + j)) = some u := by
  obtain ⟨d, hd, hP⟩ := listOf l0.length (fun i (x : TmA) => (∀ hi : i < l0.length, keyA x = keyS l0[i]) ∧ ∀ j u, x.cells[j]? = some u → w.cell? (ad.add (i * 6 + j)) = some u) (fun i hi => by
    obtain ⟨ad', A5, c5, e0, x0, x1, x2, x3, x4, x5, _⟩ := at_T38 h (i : Int) (by omega) (by omega)
    cases e0
    refine ⟨⟨(rd_T38 l0 (i : Int)).f0, (rd_T38 l0 (i : Int)).f1, (rd_T38 l0 (i : Int)).f2, (rd_T38 l0 (i : Int)).f3, (rd_T38 l0 (i : Int)).f4, A5, (rd_T38 l0 (i : Int)).f5.length, c5⟩, fun hi => ?_, fun j u hu => ?_⟩
    · simp [keyA, keyS, rd_T38, hi]
    · simp only [Int.toNat_natCast] at x0 x1 x2 x3 x4 x5
      have ha : ∀ j, 0 < j → ad.add (i * 6 + j) = ⟨(ad.add (i * 6)).block, (ad.add (i * 6)).off + j, none⟩ := fun j hj => add_field ad (i * 6) j hj
      rcases j with _ | _ | _ | _ | _ | _ | j
      · cases hu; exact x0
      · cases hu; rw [ha 1 (by omega)]; exact x1
      · cases hu; rw [ha 2 (by omega)]; exact x2
      · cases hu; rw [ha 3 (by omega)]; exact x3
      · cases hu; rw [ha 4 (by omega)]; exact x4
      · cases hu; rw [ha 5 (by omega)]; exact x5
      · cases hu)
  refine ⟨d, hd, ?_, fun i hi j u hu => (hP i hi).2 j u hu⟩
  refine List.ext_getElem (by simp [hd]) (fun i h1 h2 => ?_)
  simp only [List.length_map] at h1 h2
  simpa using (hP i h1).1 h2
set_option maxHeartbeats 2000000 in
set_option maxRecDepth 100000 in
theorem CloneT_calls (ad : Addr) (c0 : Nat) (l0 : List S38) (w : World) (hr0 : Kd.C k38 w (some ad) l0.length l0) (hlen : l0.length ≤ 12) :
    Calls Try.prog 18 #[.slice (some ad) l0.length c0] w fun e w' => ∃ (g cap : Nat) (d : Array TmA), e = .returned (.slice (some ⟨g, 0, none⟩) d.size cap) ∧ d.size = l0.length ∧ d.toList.map keyA = l0.map keyS ∧ HoldsK TmA.cells 6 w' g 0 d ∧ w.heap.size ≤ g ∧ g < w'.heap.size ∧ Below w.heap.size w w' := by
  obtain ⟨d, hd, hk, hcell⟩ := cellsT hr0
  have HD := Aside0.mk hcell
  have HK := Aside0.mk hk
  clear hcell hk hr0
  obtain ⟨D, hD⟩ : ∃ D : Array TmA, D = d.toArray := ⟨_, rfl⟩
  have hDs : D.size = l0.length := by rw [hD]; simpa using hd
  have HDD := Aside0.mk hD
  clear hD
  have q41 : ∀ (w : World) (a : Option Addr) (n c n' c' : Nat), (binOp .eql 26 (.slice a n c) (.slice none n' c')).run Try.prog w = .ok (.bool a.isNone) w := fun w a n c n' c' => hkT_nil
  have u41 : ∀ w, Sem.run Try.prog (underlying 26) w = .ok (TypeDesc.slice 38) w := run_underlying Try.underlying26
  obtain ⟨i0, hi, hzz⟩ := Option.map_eq_some_iff.1 (show (Try.prog.info? 38).map (fun i => (i.zero, i.size, i.bytes)) = some (some (.agg #[.int .i64 0, .int .i64 0, .int .i64 0, .int .i64 0, .int .i64 0, .slice none 0 0]), 6, 64) by kernel_rfl)
  simp only [Prod.mk.injEq] at hzz
  obtain ⟨hz0, hz1, hz2⟩ := hzz
  have HL := Aside0.mk hlen
  have HS := Aside0.mk hDs
  clear hlen hd
  go_enter Try.func18, Try.ntmps18
  go_wp2_with (at_builtin; refine wpList_append_own _ rfl _ _ 26 rfl w.heap.size 38 i0 (.agg #[.int .i64 0, .int .i64 0, .int .i64 0, .int .i64 0, .int .i64 0, .slice none 0 0]) 6 64 Try.underlying26 hi hz0 hz1 hz2 rfl (by decide) _ _ _ rfl (World.ownsRow_made w #[] 0 (Nat.le_refl _) (Nat.zero_le _) rfl) ad l0.length c0 (flatK TmA.cells 6 D).toList rfl ?qc1 ?qc2 ?qc3 ?qc4 ?qc5 ?qc6 ?_)
  case qc1 => have := HS.out; simp [this]
  case qc2 =>
    intro j u hj
    refine hkT_alloc _ ?_
    have hjl : j < D.size * 6 := by
      have := (List.getElem?_eq_some_iff.1 hj).1
      simpa using this
    have h6 : j / 6 < D.size := by omega
    have e1 : (flatK TmA.cells 6 D)[j]! = u := by
      have h2 := (List.getElem?_eq_some_iff.1 hj)
      obtain ⟨h3, h4⟩ := h2
      rw [getElem!_pos _ j (by simpa using hjl)]
      simpa using h4
    rw [get_flatK TmA.cells 6 D j hjl] at e1
    have hD2 := HDD.out
    subst hD2
    simp only [List.size_toArray] at h6
    have e2 : (d.toArray)[j / 6]! = d[j / 6] := by rw [getElem!_pos _ _ (by simpa using h6)]; simp
    rw [e2] at e1
    have e3 := HD.out (j / 6) h6 (j % 6) u (by
      have hl : (d[j / 6].cells).length = 6 := rfl
      rw [getElem!_pos _ _ (by rw [hl]; omega)] at e1
      rw [List.getElem?_eq_getElem (by rw [hl]; omega), e1])
    rw [show j / 6 * 6 + j % 6 = j by omega] at e3
    exact e3
  case qc3 =>
    intro u hu
    obtain ⟨j, hj, rfl⟩ := List.mem_iff_getElem.1 hu
    have hjl : j < D.size * 6 := by simpa using hj
    have e1 := get_flatK TmA.cells 6 D j hjl
    rw [getElem!_pos _ j (by simpa using hjl)] at e1
    simp only [Array.getElem_toList]
    rw [e1]
    have hl : ∀ x : TmA, x.cells.length = 6 := fun _ => rfl
    rw [getElem!_pos _ _ (by rw [hl]; omega)]
    have hm := List.getElem_mem (l := (D[j / 6]!).cells) (n := j % 6) (by rw [hl]; omega)
    generalize (D[j / 6]!).cells[j % 6]'(by rw [hl]; omega) = u at hm
    simp only [TmA.cells, List.mem_cons, List.not_mem_nil, or_false] at hm
    rcases hm with rfl | rfl | rfl | rfl | rfl | rfl <;> rfl
  case qc4 => have := HL.out; unfold maxLen; omega
  case qc5 => have := HL.out; omega
  case qc6 => simp
  intro v' w1 hown hgrow hnil
  have HO := Aside0.mk hown
  have HG := Aside0.mk hgrow
  have HN := Aside0.mk hnil
  clear hown hgrow hnil
  go_wp2
  go_ret
  have hb : Below w.heap.size w w1 := ((Below.refl _ w).alloc (Nat.le_refl _) _).grown HG.out (by simp) (by intro k hk; simp [Value.ownBlock] at hk; omega)
  have ho := HO.out
  try simp only [Nat.zero_add, List.nil_append] at ho
  rcases ho.2 with ⟨e, _⟩ | ⟨g, cap, cur, e, hge, hh, _, _, hcs, htk⟩
  · exact absurd e HN.out
  · subst e
    have hS := HS.out
    refine ⟨g, cap, D, by rw [hS]; rfl, hS, ?_, fun j hj => ⟨?_, ?_⟩, by simpa using hge, (Array.getElem?_eq_some_iff.1 hh).1, hb⟩
    · rw [HDD.out]; simpa using HK.out
    · have hj' : j < D.size * 6 := by simpa using hj
      have := ho.cells (g := g) rfl j ((flatK TmA.cells 6 D)[j]!) (by
        rw [List.getElem?_eq_getElem (by simpa using hj')]
        rw [getElem!_pos _ j (by simpa using hj')]
        simp)
      rw [Addr.add_lit] at this
      exact this
    · simp [World.frozen?, hh]
end Go.Proofs.Ytieglenodannmaa.A
end

section
set_option linter.unusedVariables false
set_option linter.unusedSimpArgs false
namespace Go.Proofs.Ytieglenodannmaa.L
open Go Go.RowKit Go.Proofs.YtieglenodannmaaW.PrintWords
theorem Ev.pos {α : Type} {c : Prop} [Decidable c] {A B : Nat → Option α} {r : α} (h : c) (k : Ev A r) : Ev (fun k => if c then A k else B k) r := by
  obtain ⟨K, k⟩ := k
  exact ⟨K, fun n hn => by show (if c then A n else B n) = some r; rw [if_pos h]; exact k n hn⟩
theorem Ev.neg {α : Type} {c : Prop} [Decidable c] {A B : Nat → Option α} {r : α} (h : ¬ c) (k : Ev B r) : Ev (fun k => if c then A k else B k) r := by
  obtain ⟨K, k⟩ := k
  exact ⟨K, fun n hn => by show (if c then A n else B n) = some r; rw [if_neg h]; exact k n hn⟩
theorem Ev.ite {α : Type} {c : Prop} [Decidable c] {A B : Nat → Option α} {r : α} (h : c → Ev A r) (k : ¬ c → Ev B r) : Ev (fun k => if c then A k else B k) r := by
  by_cases e : c
  · exact Ev.pos e (h e)
  · exact Ev.neg e (k e)
theorem Ev.cast {α : Type} {g : Nat → Option α} {r r' : α} (h : Ev g r) (e : r = r') : Ev g r' := e ▸ h
theorem Ev.bnd {α β : Type} {o : Option α} {a : α} {f : Nat → α → Option β} {r : β} (h : o = some a) (k : Ev (fun n => f n a) r) : Ev (fun n => o.bind (f n)) r := by
  obtain ⟨K, k⟩ := k
  exact ⟨K, fun n hn => by show o.bind (f n) = some r; rw [h]; exact k n hn⟩
theorem Ev.some_ {α : Type} {r r' : α} (h : r = r') : Ev (fun _ => some r) r' := h ▸ Ev.now r
theorem w64 {x : Int} (h0 : -9223372036854775808 ≤ x) (h1 : x ≤ 9223372036854775807) : wrap64 x = x := by
  unfold wrap64
  omega
theorem w64s {n : Nat} (h : n < 4611686018427387904) : wrap64 ((n : Int) + 1) = ((n + 1 : Nat) : Int) := by
  unfold wrap64
  omega
theorem rd_at {l : List Int} {n : Nat} (h : n < l.length) : rd l (n : Int) = l[n] := by
  simp [rd, h]
def inR (a b c : Int) : Bool := decide (b ≤ a ∧ a ≤ c)
end Go.Proofs.Ytieglenodannmaa.L
end

section
set_option linter.unusedVariables false
set_option linter.unusedSimpArgs false
namespace Go.Proofs.Ytieglenodannmaa.L
open Go Go.RowKit Go.Proofs.Ytieglenodannmaa.A Go.Proofs.YtieglenodannmaaW.PrintWords
theorem toIntS_l0 (l : List Int) (hl : l.length ≤ 1099511627776) : ∀ (d n : Nat) (xs : List Int), n + d = l.length → xs.length = l.length → xs.take n = l.take n → Ev (fun k => laws_toIntS.l0 k l xs (n : Int)) l := by
  intro d
  induction d with
  | zero =>
    intro n xs hd hx ht
    refine Ev.step (fun k => laws_toIntS.l0.eq_2 ..) ?_
    refine Ev.neg (by omega) (Ev.some_ ?_)
    rw [List.take_of_length_le (by omega), List.take_of_length_le (by omega)] at ht
    exact ht
  | succ d ih =>
    intro n xs hd hx ht
    refine Ev.step (fun k => laws_toIntS.l0.eq_2 ..) ?_
    refine Ev.pos (by omega) (Ev.pos (by omega) (Ev.pos (by omega) ?_))
    simp only [w64s (show n < 4611686018427387904 by omega), rd_at (show n < l.length by omega), Int.toNat_natCast]
    refine ih (n + 1) _ (by omega) (by simp [hx]) ?_
    rw [List.take_succ_eq_append_getElem (by simp; omega), List.take_succ_eq_append_getElem (by omega), List.take_set_of_le (by omega), ht]
    simp
theorem toIntS_ev (l : List Int) (hl : l.length ≤ 1099511627776) : Ev (fun k => laws_toIntS.f k l) l := by
  unfold laws_toIntS.f
  refine Ev.pos (by omega) (Ev.pos (by simp; omega) ?_)
  exact toIntS_l0 l hl l.length 0 _ (by omega) (by simp) (by simp)
theorem eqIntS_l0 (l m : List Int) (hl : l.length ≤ 1099511627776) (hm : l.length = m.length) : ∀ (d n : Nat), n + d = l.length → Ev (fun k => laws_eqIntS.l0 k l m (n : Int)) (decide (l.drop n = m.drop n)) := by
  intro d
  induction d with
  | zero =>
    intro n hd
    refine Ev.step (fun k => laws_eqIntS.l0.eq_2 ..) ?_
    refine Ev.neg (by omega) (Ev.some_ ?_)
    rw [List.drop_eq_nil_of_le (by omega), List.drop_eq_nil_of_le (by omega)]
    simp
  | succ d ih =>
    intro n hd
    refine Ev.step (fun k => laws_eqIntS.l0.eq_2 ..) ?_
    refine Ev.pos (by omega) (Ev.pos (by omega) (Ev.pos (by omega) ?_))
    simp only [w64s (show n < 4611686018427387904 by omega), rd_at (show n < l.length by omega), rd_at (show n < m.length by omega)]
    have h1 := ih (n + 1) (by omega)
    rw [List.drop_eq_getElem_cons (show n < l.length by omega), List.drop_eq_getElem_cons (show n < m.length by omega)]
    generalize l.drop (n + 1) = u at h1 ⊢
    generalize m.drop (n + 1) = v at h1 ⊢
    refine Ev.ite (fun h => Ev.cast h1 ?_) (fun h => Ev.some_ ?_)
    · simp [h]
    · simp [h]
theorem eqIntS_ev (l m : List Int) (hl : l.length ≤ 1099511627776) : Ev (fun k => laws_eqIntS.f k l m) (decide (l = m)) := by
  unfold laws_eqIntS.f
  refine Ev.ite (fun h => Ev.cast (eqIntS_l0 l m hl (by omega) l.length 0 (by omega)) (by simp)) (fun h => Ev.some_ ?_)
  have : l ≠ m := fun e => h (by rw [e])
  simp [this]
end Go.Proofs.Ytieglenodannmaa.L
end

section
set_option linter.unusedVariables false
set_option linter.unusedSimpArgs false
namespace Go.Proofs.Ytieglenodannmaa.L
open Go Go.RowKit Go.Proofs.Ytieglenodannmaa.A Go.Proofs.YtieglenodannmaaW.PrintWords
abbrev Tm := S38
theorem rdTm {l : List Tm} {n : Nat} (h : n < l.length) : rd_T38 l (n : Int) = l[n] := by
  simp [rd_T38, h]
theorem rdLTm {l : List S35} {n : Nat} (h : n < l.length) : rd_T35 l (n : Int) = l[n] := by
  simp [rd_T35, h]
def cvTm (x : S35) : Tm := ⟨x.f0, x.f1, x.f2, x.f3, x.f4, x.f5⟩
def Small (l : List Tm) : Prop := l.length ≤ 1099511627776 ∧ ∀ x ∈ l, x.f5.length ≤ 1099511627776
theorem szInt_eq (l : List Int) (left : Int) (h0 : 0 ≤ left) (h1 : left ≤ 1048576) (hl : l.length ≤ 9223372036854775807) : laws_szIntS.f l left = some (if left - l.length < 0 then -1 else left - l.length) := by
  unfold laws_szIntS.f
  rw [w64 (by omega) (by omega)]
  split <;> rfl
theorem szTeamS_l0 (l : List S35) (hl : l.length ≤ 1048576) (hi : ∀ x ∈ l, x.f5.length ≤ 9223372036854775807) : ∀ (d n : Nat) (left : Int), n + d = l.length → 0 ≤ left → left ≤ 1048576 → (∀ (i : Nat) (h : i < n) (h' : i < l.length), (l[i]).f5.length ≤ 1048576) → ∃ v, Ev (fun k => laws_szTeamS.l0 k l left (n : Int)) v ∧ v ≤ 1048576 ∧ (0 ≤ v → ∀ x ∈ l, x.f5.length ≤ 1048576) := by
  intro d
  induction d with
  | zero =>
    intro n left hd h0 h1 hp
    refine ⟨left, Ev.step (fun k => laws_szTeamS.l0.eq_2 ..) (Ev.neg (by omega) (Ev.now _)), h1, fun _ x hx => ?_⟩
    obtain ⟨j, hj, rfl⟩ := List.mem_iff_getElem.1 hx
    exact hp j (by omega) hj
  | succ d ih =>
    intro n left hd h0 h1 hp
    have hn : n < l.length := by omega
    have hs := szInt_eq (l[n]).f5 left h0 h1 (hi _ (List.getElem_mem _))
    by_cases hb : left - (l[n]).f5.length < 0
    · rw [if_pos hb] at hs
      have hs2 : laws_szTeam.f (l[n]).f0 (l[n]).f1 (l[n]).f2 (l[n]).f3 (l[n]).f4 (l[n]).f5 left = some (-1) := by
        unfold laws_szTeam.f
        rw [hs]
        rfl
      refine ⟨-1, Ev.step (fun k => laws_szTeamS.l0.eq_2 ..) (Ev.pos (by omega) (Ev.pos (by omega) ?_)), by omega, fun h => by omega⟩
      simp only [rdLTm hn]
      exact Ev.bnd hs2 (Ev.pos (by omega) (Ev.now _))
    · rw [if_neg hb] at hs
      have hs2 : laws_szTeam.f (l[n]).f0 (l[n]).f1 (l[n]).f2 (l[n]).f3 (l[n]).f4 (l[n]).f5 left = some (left - (l[n]).f5.length) := by
        unfold laws_szTeam.f
        rw [hs]
        simp only [Option.bind_some]
        rw [if_neg hb]
      obtain ⟨v, hv, hv1, hv2⟩ := ih (n + 1) (left - (l[n]).f5.length) (by omega) (by omega) (by omega) (fun i h h' => by
        by_cases e : i = n
        · subst e
          omega
        · exact hp i (by omega) h')
      refine ⟨v, Ev.step (fun k => laws_szTeamS.l0.eq_2 ..) (Ev.pos (by omega) (Ev.pos (by omega) ?_)), hv1, hv2⟩
      simp only [rdLTm hn, w64s (show n < 4611686018427387904 by omega)]
      exact Ev.bnd hs2 (Ev.neg (by omega) hv)
theorem szTeamS_ev (l : List S35) (hl : l.length ≤ 9223372036854775807) (hi : ∀ x ∈ l, x.f5.length ≤ 9223372036854775807) : ∃ v, Ev (fun k => laws_szTeamS.f k l 1048576) v ∧ v ≤ 1048576 ∧ (¬ v < 0 → l.length ≤ 1048576 ∧ ∀ x ∈ l, x.f5.length ≤ 1048576) := by
  unfold laws_szTeamS.f
  rw [w64 (by omega) (by omega)]
  by_cases hb : 1048576 - (l.length : Int) < 0
  · exact ⟨-1, Ev.pos hb (Ev.now _), by omega, fun h => by omega⟩
  · obtain ⟨v, hv, hv1, hv2⟩ := szTeamS_l0 l (by omega) hi l.length 0 (1048576 - l.length) (by omega) (by omega) (by omega) (fun i h => by omega)
    exact ⟨v, Ev.neg hb hv, hv1, fun h => ⟨by omega, hv2 (by omega)⟩⟩
theorem toTeam_ev (x : S35) (h : x.f5.length ≤ 1099511627776) : Ev (fun k => laws_toTeam.f k x.f0 x.f1 x.f2 x.f3 x.f4 x.f5) (x.f0, x.f1, x.f2, x.f3, x.f4, x.f5) := by
  unfold laws_toTeam.f
  exact Ev.bind (toIntS_ev x.f5 h) (Ev.now _)
theorem toTeamS_l0 (l : List S35) (hl : l.length ≤ 1099511627776) (hi : ∀ x ∈ l, x.f5.length ≤ 1099511627776) : ∀ (d n : Nat) (xs : List Tm), n + d = l.length → xs.length = l.length → xs.take n = (l.map cvTm).take n → Ev (fun k => laws_toTeamS.l0 k l xs (n : Int)) (l.map cvTm) := by
  intro d
  induction d with
  | zero =>
    intro n xs hd hx ht
    refine Ev.step (fun k => laws_toTeamS.l0.eq_2 ..) ?_
    refine Ev.neg (by omega) (Ev.some_ ?_)
    rw [List.take_of_length_le (by omega), List.take_of_length_le (by simp; omega)] at ht
    exact ht
  | succ d ih =>
    intro n xs hd hx ht
    refine Ev.step (fun k => laws_toTeamS.l0.eq_2 ..) ?_
    refine Ev.pos (by omega) (Ev.pos (by omega) ?_)
    simp only [w64s (show n < 4611686018427387904 by omega), rdLTm (show n < l.length by omega), Int.toNat_natCast]
    refine Ev.bind (toTeam_ev l[n] (hi _ (List.getElem_mem _))) (Ev.pos (by omega) ?_)
    refine ih (n + 1) _ (by omega) (by simp [hx]) ?_
    rw [List.take_succ_eq_append_getElem (by simp; omega), List.take_succ_eq_append_getElem (by simp; omega), List.take_set_of_le (by omega), ht]
    simp [cvTm]
theorem toTeamS_ev (l : List S35) (hl : l.length ≤ 1099511627776) (hi : ∀ x ∈ l, x.f5.length ≤ 1099511627776) : Ev (fun k => laws_toTeamS.f k l) (l.map cvTm) := by
  unfold laws_toTeamS.f
  refine Ev.pos (by omega) (Ev.pos (by simp; omega) ?_)
  exact toTeamS_l0 l hl hi l.length 0 _ (by omega) (by simp) (by simp)
theorem small_map (l : List S35) (hl : l.length ≤ 1099511627776) (hi : ∀ x ∈ l, x.f5.length ≤ 1099511627776) : Small (l.map cvTm) := by
  refine ⟨by simpa using hl, fun x hx => ?_⟩
  obtain ⟨y, hy, rfl⟩ := List.mem_map.1 hx
  exact hi y hy
theorem eqTeam_ev (x : Tm) (h : x.f5.length ≤ 1099511627776) : Ev (fun k => laws_eqTeam.f k x.f0 x.f1 x.f2 x.f3 x.f4 x.f5 x.f0 x.f1 x.f2 x.f3 x.f4 x.f5) true := by
  unfold laws_eqTeam.f
  exact Ev.pos rfl (Ev.pos rfl (Ev.pos rfl (Ev.pos rfl (Ev.pos rfl (Ev.bind (eqIntS_ev _ _ h) (Ev.pos (by simp) (Ev.now _)))))))
theorem eqTeamS_l0 (l : List Tm) (hs : Small l) : ∀ (d n : Nat), n + d = l.length → Ev (fun k => laws_eqTeamS.l0 k l l (n : Int)) true := by
  have hl := hs.1
  intro d
  induction d with
  | zero =>
    intro n hd
    refine Ev.step (fun k => laws_eqTeamS.l0.eq_2 ..) ?_
    exact Ev.neg (by omega) (Ev.now _)
  | succ d ih =>
    intro n hd
    refine Ev.step (fun k => laws_eqTeamS.l0.eq_2 ..) ?_
    refine Ev.pos (by omega) (Ev.pos (by omega) (Ev.pos (by omega) ?_))
    simp only [w64s (show n < 4611686018427387904 by omega), rdTm (show n < l.length by omega)]
    exact Ev.bind (eqTeam_ev l[n] (hs.2 _ (List.getElem_mem _))) (Ev.pos rfl (ih (n + 1) (by omega)))
theorem eqTeamS_ev (l : List Tm) (hs : Small l) : Ev (fun k => laws_eqTeamS.f k l l) true := by
  unfold laws_eqTeamS.f
  exact Ev.pos rfl (eqTeamS_l0 l hs l.length 0 (by omega))
end Go.Proofs.Ytieglenodannmaa.L
end

section
namespace Go.Proofs.Ytieglenodannmaa.A
open Go.RowKit Go.Proofs.YtieglenodannmaaW.PrintWords Go.Proofs.YtieglenodannmaaW.PrintLast Go.Proofs.YtieglenodannmaaW.PrintMore
attribute [local go_sem] max2_int min2_int max_two min_two max_three min_three max_four min_four   -- for this text's walks alone
set_option linter.unusedVariables false
set_option linter.unusedSimpArgs false
def spec_FindTeam.l0 : Nat → List (S38) → Int → Int → Option (Int)
  | 0, _, _, _ => none
  | k + 1, x0, x1, x5 => if x5 < (x0.length : Int) then (if 0 ≤ x5 then (if ((rd_T38 x0 x5).f0) = x1 then (some x5) else (spec_FindTeam.l0 k x0 x1 (wrap64 (x5 + 1)))) else (none)) else (some (-1))
def spec_FindTeam.f (k : Nat) (l0 : List (S38)) (a1 : Int) : Option (Int) := spec_FindTeam.l0 k l0 a1 0
set_option maxHeartbeats 8000000 in
set_option maxRecDepth 100000 in
theorem spec_FindTeam.calls (k : Nat) (A0 : Option Addr) (c0 : Nat) (l0 : List (S38)) (a1 : Int) (r : Int) (w : World) (hr0 : Kd.C k38 w A0 l0.length l0) (hc0 : l0.length ≤ c0) (h : spec_FindTeam.f k l0 a1 = some r) :
  Calls Try.prog 26 #[.slice A0 l0.length c0, .int .i64 a1] w fun e w' => e = .returned (.int .i64 r) ∧ Drawn0 w w' := by
 have HR0 := Aside0.mk hr0
 have HC0 := Aside0.mk hc0
 clear hr0 hc0
 have H : (spec_FindTeam.l0 k l0 a1 0) = some r := h
 clear h
 have H' := Aside0.mk H
 clear H
 go_enter Try.func26, Try.ntmps26
 go_wp2
 go_loopg [5] k (fun kq v5 w' => ∃ (x5_1 : Int), v5 = .int .i64 x5_1 ∧ Aside0 (spec_FindTeam.l0 kq l0 a1 x5_1 = some r) ∧ Aside0 (kq ≤ k) ∧ Drawn0 w w')
 case atStart => exact ⟨(0), (by first | rfl | (simp; done) | (simp [*]; done)), H', ⟨Nat.le_refl _⟩, by repeat (first | exact Drawn0.refl _ | apply Drawn0.step)⟩
 case round =>
  clear H'
  try clear c2
  try clear p2
  obtain ⟨x5_1, rfl, HA, HK1, ⟨m1, rfl⟩⟩ := hrel
  cases gk with
  | zero => exact absurd HA.out (by simp [spec_FindTeam.l0])
  | succ k1 =>
   have H := HA.out
   clear HA
   simp only [spec_FindTeam.l0] at H
   by_cases c3 : x5_1 < (l0.length : Int)
   ·
    rw [if_pos c3] at H
    have c3b0 : decide (x5_1 < (l0.length : Int)) = true := decide_eq_true c3
    clear c3
    by_cases c4 : 0 ≤ x5_1
    ·
     rw [if_pos c4] at H
     have c4b0 : decide (0 ≤ x5_1) = true := decide_eq_true c4
     clear c4
     by_cases c5 : ((rd_T38 l0 x5_1).f0) = a1
     ·
      rw [if_pos c5] at H
      have c5b0 : (((rd_T38 l0 x5_1).f0) == a1) = true := beq_iff_eq.mpr c5
      have c5b1 : (((rd_T38 l0 x5_1).f0) != a1) = false := bne_eq_false_iff_eq.mpr c5
      clear c5
      obtain rfl := Option.some.inj H
      have p105 : 0 ≤ (x5_1 : Int) := of_decide_eq_true (by first | (with_reducible assumption) | assumption)
      have q105 : x5_1 < (l0.length : Int) := of_decide_eq_true (by first | (with_reducible assumption) | assumption)
      obtain ⟨ad105, A105_5, c105_5, e105, hx105_0, hx105_1, hx105_2, hx105_3, hx105_4, hx105_5, hl105_5, hi105_5⟩ := at_T38 HR0.out x5_1 p105 q105
      cases e105
      have HR105_5 := Aside0.mk hi105_5
      have HC105_5 := Aside0.mk hl105_5
      clear hi105_5 hl105_5
      replace p105 := eq_true p105
      replace q105 := eq_true q105
      go_wp2
      go_ret
      exact ⟨by first | rfl | (simp; done) | (simp [*]; done), by repeat (first | exact Drawn0.refl _ | apply Drawn0.step)⟩
     ·
      rw [if_neg c5] at H
      have c5b0 : (((rd_T38 l0 x5_1).f0) == a1) = false := beq_eq_false_iff_ne.mpr c5
      have c5b1 : (((rd_T38 l0 x5_1).f0) != a1) = true := bne_iff_ne.mpr c5
      have H' := Aside0.mk H
      clear H
      have p105 : 0 ≤ (x5_1 : Int) := of_decide_eq_true (by first | (with_reducible assumption) | assumption)
      have q105 : x5_1 < (l0.length : Int) := of_decide_eq_true (by first | (with_reducible assumption) | assumption)
      obtain ⟨ad105, A105_5, c105_5, e105, hx105_0, hx105_1, hx105_2, hx105_3, hx105_4, hx105_5, hl105_5, hi105_5⟩ := at_T38 HR0.out x5_1 p105 q105
      cases e105
      have HR105_5 := Aside0.mk hi105_5
      have HC105_5 := Aside0.mk hl105_5
      clear hi105_5 hl105_5
      replace p105 := eq_true p105
      replace q105 := eq_true q105
      go_wp2
      go_roundg k1
      case measure => have := HK1.out; omega
      case rel => exact ⟨(wrap64 (x5_1 + 1)), (by first | rfl | (simp; done) | (simp [*]; done)), H', ⟨by have := HK1.out; omega⟩, by repeat (first | exact Drawn0.refl _ | apply Drawn0.step)⟩
    ·
     rw [if_neg c4] at H
     exact absurd H (by simp)
   ·
    rw [if_neg c3] at H
    have c3b0 : decide (x5_1 < (l0.length : Int)) = false := decide_eq_false c3
    clear c3
    obtain rfl := Option.some.inj H
    go_wp2
    go_ret
    exact ⟨by first | rfl | (simp; done) | (simp [*]; done), by repeat (first | exact Drawn0.refl _ | apply Drawn0.step)⟩
end Go.Proofs.Ytieglenodannmaa.A
end

section
namespace Go.Proofs.Ytieglenodannmaa.A
open Go.RowKit Go.Proofs.YtieglenodannmaaW.PrintWords Go.Proofs.YtieglenodannmaaW.PrintLast Go.Proofs.YtieglenodannmaaW.PrintMore
attribute [local go_sem] max2_int min2_int max_two min_two max_three min_three max_four min_four   -- for this text's walks alone
set_option linter.unusedVariables false
set_option linter.unusedSimpArgs false

def fidx {α : Type} (p : α → Bool) (l : List α) : Int := match l.findIdx? p with
  | some i => (i : Int)
  | none => -1
theorem fidx_hit {α : Type} (p : α → Bool) (l : List α) (n : Nat) (h : n < l.length) (hp : p l[n] = true) (hb : ∀ (j : Nat) (hj : j < l.length), j < n → p l[j] = false) : fidx p l = n := by
  have : l.findIdx? p = some n := by
    rw [List.findIdx?_eq_some_iff_getElem]
    exact ⟨h, hp, fun j hj => by rw [hb j (by omega) hj]; simp⟩
  simp [fidx, this]
theorem fidx_miss {α : Type} (p : α → Bool) (l : List α) (hb : ∀ (j : Nat) (hj : j < l.length), p l[j] = false) : fidx p l = -1 := by
  have : l.findIdx? p = none := by
    rw [List.findIdx?_eq_none_iff]
    intro x hx
    obtain ⟨j, hj, rfl⟩ := List.mem_iff_getElem.1 hx
    exact hb j hj
  simp [fidx, this]
set_option maxHeartbeats 2000000 in
set_option maxRecDepth 100000 in
theorem IndexFuncTeam_calls (A0 : Option Addr) (c0 : Nat) (l0 : List S38) (p : S38 → Bool) (lb : Array Value) (g : Nat) (w : World)
    (eg : ∀ args w, (callFunc g args).run Try.prog w = .ok (.enter g args) w)
    (hp : ∀ (x : S38) (v5 : Value) (W : World), Below w.heap.size w W → Calls Try.prog g (#[.agg #[.int .i64 x.f0, .int .i64 x.f1, .int .i64 x.f2, .int .i64 x.f3, .int .i64 x.f4, v5]] ++ lb) W fun e w' => e = .returned (.bool (p x)) ∧ Below w.heap.size w w')
    (hr0 : Kd.C k38 w A0 l0.length l0) :
    Calls Try.prog 35 #[.slice A0 l0.length c0, .func (.func g) #[] lb] w fun e w' => e = .returned (.int .i64 (fidx p l0)) ∧ Below w.heap.size w w' := by
  have hu38 := Try.underlying38
  have HR0 := Aside0.mk hr0
  have HL := Aside0.mk hr0.2.1
  have HP := Aside0.mk hp
  clear hr0 hp
  go_enter Try.func35, Try.ntmps35
  go_wp2
  go_loopg [5, 8] l0.length (fun gg _ v8 w' => ∃ i : Int, v8 = .int .i64 i ∧ Aside0 (0 ≤ i ∧ i ≤ l0.length ∧ l0.length - i ≤ gg) ∧ Aside0 (Below w.heap.size w w') ∧ Aside0 (∀ (j : Nat) (hj : j < l0.length), (j : Int) < i → p l0[j] = false))
  case atStart => exact ⟨0, rfl, ⟨by omega⟩, ⟨Below.refl _ w⟩, ⟨fun j _ hj => by omega⟩⟩
  case round =>
    obtain ⟨i, rfl, HI, HB, HA⟩ := hrel
    by_cases hlt : i < (l0.length : Int)
    · have hltb : decide (i < (l0.length : Int)) = true := decide_eq_true hlt
      have h0 : 0 ≤ i := HI.out.1
      obtain ⟨ad, A5, c5, e0, x0, x1, x2, x3, x4, x5, _⟩ := at_T38 HR0.out i h0 hlt
      cases e0
      have HX := Aside0.mk (HP.out (rd_T38 l0 i) (.slice A5 (rd_T38 l0 i).f5.length c5) _ HB.out)
      have HE : Aside0 (∃ h : i.toNat < l0.length, rd_T38 l0 i = l0[i.toNat]) := ⟨⟨by omega, by simp [rd_T38, show i.toNat < l0.length by omega]⟩⟩
      replace x0 := (HB.out.cell (World.block_lt_of_cell? w _ x0)).trans x0
      replace x1 := (HB.out.cell (World.block_lt_of_cell? w _ x1)).trans x1
      replace x2 := (HB.out.cell (World.block_lt_of_cell? w _ x2)).trans x2
      replace x3 := (HB.out.cell (World.block_lt_of_cell? w _ x3)).trans x3
      replace x4 := (HB.out.cell (World.block_lt_of_cell? w _ x4)).trans x4
      replace x5 := (HB.out.cell (World.block_lt_of_cell? w _ x5)).trans x5
      replace h0 := eq_true h0
      replace hlt := eq_true hlt
      cases hq : p (rd_T38 l0 i) with
      | true =>
        have HQ2 : Aside0 (p (rd_T38 l0 i) = true) := ⟨hq⟩
        have hcall := HX.out
        rw [hq] at hcall
        clear hq
        go_wp2_with (go_at_fn g; refine hcall.mono ?_; rintro e w' ⟨rfl, hb'⟩)
        go_ret
        refine ⟨?_, hb'⟩
        obtain ⟨hj, he⟩ := HE.out
        have := HI.out
        have hQ := HQ2.out
        rw [he] at hQ
        rw [fidx_hit p l0 i.toNat hj hQ (fun j hj hl => HA.out j hj (by omega)), show ((i.toNat : Nat) : Int) = i by omega]; rfl
      | false =>
        have HQ2 : Aside0 (p (rd_T38 l0 i) = false) := ⟨hq⟩
        have hcall := HX.out
        rw [hq] at hcall
        clear hq
        have HW : Aside0 (wrap64 (i + 1) = i + 1) := ⟨by have := HL.out; have := HI.out; have := of_eq_true hlt; unfold wrap64; omega⟩
        have HLT : Aside0 (i < (l0.length : Int)) := ⟨of_eq_true hlt⟩
        go_wp2_with (go_at_fn g; refine hcall.mono ?_; rintro e w' ⟨rfl, hb'⟩)
        go_roundg (l0.length - (i.toNat + 1))
        case measure => have := HI.out; have := HLT.out; omega
        case rel =>
          refine ⟨i + 1, by rw [HW.out], ⟨by have := HI.out; have := HLT.out; omega⟩, ⟨hb'⟩, ⟨fun j hj hjn => ?_⟩⟩
          obtain ⟨hj2, he⟩ := HE.out
          by_cases e : (j : Int) = i
          · have hQ := HQ2.out
            rw [he] at hQ
            have : i.toNat = j := by omega
            subst this
            exact hQ
          · exact HA.out j hj (by omega)
    · have hltb : decide (i < (l0.length : Int)) = false := decide_eq_false hlt
      have HLT : Aside0 (¬ i < (l0.length : Int)) := ⟨hlt⟩
      clear hlt
      go_wp2
      go_ret
      exact ⟨by rw [fidx_miss p l0 (fun j hj => HA.out j hj (by have := HLT.out; omega))]; rfl, HB.out⟩
set_option maxHeartbeats 2000000 in
set_option maxRecDepth 100000 in
theorem FindTeam_pred (a1 : Int) (B : Nat) (w : World) (hB : B < w.heap.size) (hcell : w.cell? ⟨B, 0, none⟩ = some (.int .i64 a1)) (x : S38) (v5 : Value) (W : World) (hb : Below w.heap.size w W) :
    Calls Try.prog 36 (#[.agg #[.int .i64 x.f0, .int .i64 x.f1, .int .i64 x.f2, .int .i64 x.f3, .int .i64 x.f4, v5]] ++ #[.pointer (some ⟨B, 0, none⟩)]) W fun e w' => e = .returned (.bool (decide (x.f0 = a1))) ∧ Below w.heap.size w w' := by
  have hu38 := Try.underlying38
  have hc : W.cell? ⟨B, 0, none⟩ = some (.int .i64 a1) := (hb.cell (p := ⟨B, 0, none⟩) hB).trans hcell
  have hBW : B < W.heap.size := Nat.lt_of_lt_of_le hB hb.size
  have hne : B ≠ W.heap.size := by omega
  have HB := Aside0.mk hb
  clear hb hcell
  show Calls Try.prog 36 #[.agg #[.int .i64 x.f0, .int .i64 x.f1, .int .i64 x.f2, .int .i64 x.f3, .int .i64 x.f4, v5], .pointer (some ⟨B, 0, none⟩)] W _
  go_enter Try.func36, Try.ntmps36
  go_wp2
  all_goals (go_ret; exact ⟨by first | (simp_all; done) | (have e : (x.f0 == a1) = decide (x.f0 = a1) := Bool.eq_iff_iff.2 (by simp); simp_all), HB.out.alloc HB.out.size _⟩)
def impl_FindTeam.f (l0 : List (S38)) (a1 : Int) : Option (Int) := some (fidx (fun t => decide (t.f0 = a1)) l0)
set_option maxHeartbeats 2000000 in
set_option maxRecDepth 100000 in
theorem impl_FindTeam.calls (A0 : Option Addr) (c0 : Nat) (l0 : List (S38)) (a1 : Int) (r : Int) (w : World) (hr0 : Kd.C k38 w A0 l0.length l0) (hc0 : l0.length ≤ c0) (h : impl_FindTeam.f l0 a1 = some r) :
  Calls Try.prog 30 #[.slice A0 l0.length c0, .int .i64 a1] w fun e w' => e = .returned (.int .i64 r) ∧ Below w.heap.size w w' := by
 have eg : ∀ args w, (callFunc 36 args).run Try.prog w = .ok (.enter 36 args) w := enters_of Try.func36 (by kernel_rfl) rfl
 have hb0 : Below w.heap.size w (w.alloc (.cells #[.int .i64 a1] 3)) := (Below.refl _ w).alloc (Nat.le_refl _) _
 have hcon := IndexFuncTeam_calls A0 c0 l0 (fun t => decide (t.f0 = a1)) #[.pointer (some ⟨w.heap.size, 0, none⟩)] 36 (w.alloc (.cells #[.int .i64 a1] 3)) eg
  (fun x v5 W hW => FindTeam_pred a1 w.heap.size _ (by simp) (by simp) x v5 W hW) (Kd.C_below hr0 hb0)
 have HH : Aside0 (impl_FindTeam.f l0 a1 = some r) := ⟨h⟩
 have HB := Aside0.mk hb0
 clear h hr0 hb0 eg
 have e : fidx (fun t : S38 => decide (t.f0 = a1)) l0 = r := Option.some.inj HH.out
 rw [e] at hcon
 clear e HH
 go_enter Try.func30, Try.ntmps30
 go_wp2_with (go_at_call 35; refine hcon.mono ?_; rintro e w' ⟨rfl, hb'⟩)
 go_ret
 exact ⟨rfl, HB.out.trans (hb'.mono (by simp))⟩
end Go.Proofs.Ytieglenodannmaa.A
end

section
set_option linter.unusedVariables false
set_option linter.unusedSimpArgs false
namespace Go.Proofs.Ytieglenodannmaa.L
open Go Go.RowKit Go.Proofs.Ytieglenodannmaa.A Go.Proofs.YtieglenodannmaaW.PrintWords
def findT (l : List Tm) (id : Int) : Int := fidx (fun t => decide (t.f0 = id)) l
theorem iFindTeam_eq (l : List Tm) (id : Int) : impl_FindTeam.f l id = some (findT l id) := rfl
theorem fidx_cons {α : Type} (p : α → Bool) (x : α) (l : List α) : fidx p (x :: l) = if p x = true then 0 else if fidx p l < 0 then -1 else fidx p l + 1 := by
  unfold fidx
  rw [List.findIdx?_cons]
  by_cases h : p x = true
  · simp [h]
  · rw [if_neg h, if_neg h]
    cases l.findIdx? p with
    | none => simp
    | some i =>
      simp only [Option.map_some]
      rw [if_neg (by omega)]
      omega
theorem fidx_nil {α : Type} (p : α → Bool) : fidx p ([] : List α) = -1 := rfl
theorem fidx_range {α : Type} (p : α → Bool) : ∀ l : List α, -1 ≤ fidx p l ∧ fidx p l < l.length
  | [] => by simp [fidx_nil]
  | x :: l => by
    have := fidx_range p l
    rw [fidx_cons]
    simp only [List.length_cons]
    split
    · omega
    · split <;> omega
theorem fidx_at {α : Type} (p : α → Bool) (l : List α) (h : 0 ≤ fidx p l) : ∃ (hl : (fidx p l).toNat < l.length), p (l[(fidx p l).toNat]) = true := by
  unfold fidx at h ⊢
  cases e : l.findIdx? p with
  | none => rw [e] at h; simp at h
  | some i =>
    rw [List.findIdx?_eq_some_iff_getElem] at e
    obtain ⟨hi, hp, _⟩ := e
    exact ⟨by simpa using hi, by simpa using hp⟩
theorem sFindTeam_l0 (l : List Tm) (id : Int) (hl : l.length ≤ 1099511627776) : ∀ (d n : Nat), n + d = l.length → Ev (fun k => spec_FindTeam.l0 k l id (n : Int)) (if findT (l.drop n) id < 0 then -1 else n + findT (l.drop n) id) := by
  intro d
  induction d with
  | zero =>
    intro n hd
    refine Ev.step (fun k => spec_FindTeam.l0.eq_2 ..) ?_
    refine Ev.neg (by omega) (Ev.some_ ?_)
    rw [List.drop_eq_nil_of_le (by omega)]
    simp [findT, fidx_nil]
  | succ d ih =>
    intro n hd
    refine Ev.step (fun k => spec_FindTeam.l0.eq_2 ..) ?_
    refine Ev.pos (by omega) (Ev.pos (by omega) ?_)
    simp only [w64s (show n < 4611686018427387904 by omega), rdTm (show n < l.length by omega)]
    have h1 := ih (n + 1) (by omega)
    rw [List.drop_eq_getElem_cons (show n < l.length by omega)]
    generalize l.drop (n + 1) = u at h1 ⊢
    have hr := fidx_range (fun t : Tm => decide (t.f0 = id)) u
    refine Ev.ite (fun h => Ev.some_ ?_) (fun h => Ev.cast h1 ?_)
    · simp [findT, fidx_cons, h]
    · have e : findT (l[n] :: u) id = if findT u id < 0 then -1 else findT u id + 1 := by
        unfold findT
        rw [fidx_cons, if_neg (by simpa using h)]
      rw [e]
      have hr' : -1 ≤ findT u id := hr.1
      by_cases hu : findT u id < 0
      · simp [hu]
      · have h2 : ¬ findT u id + 1 < 0 := by omega
        rw [if_neg hu, if_neg hu, if_neg h2]
        omega
theorem sFindTeam_ev (l : List Tm) (id : Int) (hl : l.length ≤ 1099511627776) : Ev (fun k => spec_FindTeam.f k l id) (findT l id) := by
  unfold spec_FindTeam.f
  refine Ev.cast (sFindTeam_l0 l id hl l.length 0 (by omega)) ?_
  have hr := fidx_range (fun t : Tm => decide (t.f0 = id)) l
  simp only [List.drop_zero]
  split
  · unfold findT at *
    omega
  · omega
theorem findT_range (l : List Tm) (id : Int) : -1 ≤ findT l id ∧ findT l id < l.length := fidx_range _ l
theorem rdTm_int {l : List Tm} {i : Int} (h0 : 0 ≤ i) (h1 : i < l.length) : ∃ h : i.toNat < l.length, rd_T38 l i = l[i.toNat] := by
  refine ⟨by omega, ?_⟩
  obtain ⟨m, rfl⟩ : ∃ m : Nat, i = m := ⟨i.toNat, by omega⟩
  rw [rdTm (by omega)]
  simp
theorem rdTm_mem {l : List Tm} {i : Int} (h0 : 0 ≤ i) (h1 : i < l.length) : rd_T38 l i ∈ l := by
  obtain ⟨h, e⟩ := rdTm_int h0 h1
  rw [e]
  exact List.getElem_mem _
end Go.Proofs.Ytieglenodannmaa.L
end

section
namespace Go.Proofs.Ytieglenodannmaa.A
open Go.RowKit Go.Proofs.YtieglenodannmaaW.PrintWords Go.Proofs.YtieglenodannmaaW.PrintLast Go.Proofs.YtieglenodannmaaW.PrintMore
attribute [local go_sem] max2_int min2_int max_two min_two max_three min_three max_four min_four   -- for this text's walks alone
set_option linter.unusedVariables false
set_option linter.unusedSimpArgs false
def spec_l19Count.l0 : Nat → List Int → Int → Int → Int → Option (Int)
  | 0, _, _, _, _ => none
  | k + 1, x0, x1, x5, x6 => if x6 < (x0.length : Int) then (if 0 ≤ x6 then (if (rd x0 x6) = x1 then (spec_l19Count.l0 k x0 x1 (wrap64 (x5 + 1)) (wrap64 (x6 + 1))) else (spec_l19Count.l0 k x0 x1 x5 (wrap64 (x6 + 1)))) else (none)) else (some x5)
def spec_l19Count.f (k : Nat) (l0 : List Int) (a1 : Int) : Option (Int) := spec_l19Count.l0 k l0 a1 0 0
set_option maxHeartbeats 8000000 in
set_option maxRecDepth 100000 in
theorem spec_l19Count.calls (k : Nat) (A0 : Option Addr) (c0 : Nat) (l0 : List Int) (a1 : Int) (r : Int) (w : World) (hr0 : Kd.C (Kd.int .i64) w A0 l0.length l0) (hc0 : l0.length ≤ c0) (h : spec_l19Count.f k l0 a1 = some r) :
  Calls Try.prog 27 #[.slice A0 l0.length c0, .int .i64 a1] w fun e w' => e = .returned (.int .i64 r) ∧ Drawn0 w w' := by
 have HR0 := Aside0.mk hr0
 have HC0 := Aside0.mk hc0
 clear hr0 hc0
 have H : (spec_l19Count.l0 k l0 a1 0 0) = some r := h
 clear h
 have H' := Aside0.mk H
 clear H
 go_enter Try.func27, Try.ntmps27
 go_wp2
 go_loopg [5, 6] k (fun kq v5 v6 w' => ∃ (x5_1 : Int) (x6_1 : Int), v5 = .int .i64 x5_1 ∧ v6 = .int .i64 x6_1 ∧ Aside0 (spec_l19Count.l0 kq l0 a1 x5_1 x6_1 = some r) ∧ Aside0 (kq ≤ k) ∧ Drawn0 w w')
 case atStart => exact ⟨(0), (0), (by first | rfl | (simp; done) | (simp [*]; done)), (by first | rfl | (simp; done) | (simp [*]; done)), H', ⟨Nat.le_refl _⟩, by repeat (first | exact Drawn0.refl _ | apply Drawn0.step)⟩
 case round =>
  clear H'
  try clear c2
  try clear p2
  obtain ⟨x5_1, x6_1, rfl, rfl, HA, HK1, ⟨m1, rfl⟩⟩ := hrel
  cases gk with
  | zero => exact absurd HA.out (by simp [spec_l19Count.l0])
  | succ k1 =>
   have H := HA.out
   clear HA
   simp only [spec_l19Count.l0] at H
   by_cases c3 : x6_1 < (l0.length : Int)
   ·
    rw [if_pos c3] at H
    have c3b0 : decide (x6_1 < (l0.length : Int)) = true := decide_eq_true c3
    clear c3
    by_cases c4 : 0 ≤ x6_1
    ·
     rw [if_pos c4] at H
     have c4b0 : decide (0 ≤ x6_1) = true := decide_eq_true c4
     clear c4
     by_cases c5 : (rd l0 x6_1) = a1
     ·
      rw [if_pos c5] at H
      have c5b0 : ((rd l0 x6_1) == a1) = true := beq_iff_eq.mpr c5
      have c5b1 : ((rd l0 x6_1) != a1) = false := bne_eq_false_iff_eq.mpr c5
      clear c5
      have H' := Aside0.mk H
      clear H
      have p106 : 0 ≤ (x6_1 : Int) := of_decide_eq_true (by first | (with_reducible assumption) | assumption)
      have q106 : x6_1 < (l0.length : Int) := of_decide_eq_true (by first | (with_reducible assumption) | assumption)
      obtain ⟨ad106, e106, hx106_0⟩ := Kd.at_int HR0.out x6_1 p106 q106
      cases e106
      replace p106 := eq_true p106
      replace q106 := eq_true q106
      go_wp2
      go_roundg k1
      case measure => have := HK1.out; omega
      case rel => exact ⟨(wrap64 (x5_1 + 1)), (wrap64 (x6_1 + 1)), (by first | rfl | (simp; done) | (simp [*]; done)), (by first | rfl | (simp; done) | (simp [*]; done)), H', ⟨by have := HK1.out; omega⟩, by repeat (first | exact Drawn0.refl _ | apply Drawn0.step)⟩
     ·
      rw [if_neg c5] at H
      have c5b0 : ((rd l0 x6_1) == a1) = false := beq_eq_false_iff_ne.mpr c5
      have c5b1 : ((rd l0 x6_1) != a1) = true := bne_iff_ne.mpr c5
      have H' := Aside0.mk H
      clear H
      have p106 : 0 ≤ (x6_1 : Int) := of_decide_eq_true (by first | (with_reducible assumption) | assumption)
      have q106 : x6_1 < (l0.length : Int) := of_decide_eq_true (by first | (with_reducible assumption) | assumption)
      obtain ⟨ad106, e106, hx106_0⟩ := Kd.at_int HR0.out x6_1 p106 q106
      cases e106
      replace p106 := eq_true p106
      replace q106 := eq_true q106
      go_wp2
      go_roundg k1
      case measure => have := HK1.out; omega
      case rel => exact ⟨(x5_1), (wrap64 (x6_1 + 1)), (by first | rfl | (simp; done) | (simp [*]; done)), (by first | rfl | (simp; done) | (simp [*]; done)), H', ⟨by have := HK1.out; omega⟩, by repeat (first | exact Drawn0.refl _ | apply Drawn0.step)⟩
    ·
     rw [if_neg c4] at H
     exact absurd H (by simp)
   ·
    rw [if_neg c3] at H
    have c3b0 : decide (x6_1 < (l0.length : Int)) = false := decide_eq_false c3
    clear c3
    obtain rfl := Option.some.inj H
    go_wp2
    go_ret
    exact ⟨by first | rfl | (simp; done) | (simp [*]; done), by repeat (first | exact Drawn0.refl _ | apply Drawn0.step)⟩
end Go.Proofs.Ytieglenodannmaa.A
end

section
namespace Go.Proofs.Ytieglenodannmaa.A
open Go.RowKit Go.Proofs.YtieglenodannmaaW.PrintWords Go.Proofs.YtieglenodannmaaW.PrintLast Go.Proofs.YtieglenodannmaaW.PrintMore
attribute [local go_sem] max2_int min2_int max_two min_two max_three min_three max_four min_four   -- for this text's walks alone
set_option linter.unusedVariables false
set_option linter.unusedSimpArgs false
def impl_times.l0 : Nat → Int → Int → List Int → Int → Int → Option (Int)
  | 0, _, _, _, _, _ => none
  | k + 1, x1, x5, x8, x9, x10 => if x10 < x9 then (if 0 ≤ x10 then (if x10 < (x8.length : Int) then (if (rd x8 x10) = x1 then (impl_times.l0 k x1 (wrap64 (x5 + 1)) x8 x9 (wrap64 (x10 + 1))) else (impl_times.l0 k x1 x5 x8 x9 (wrap64 (x10 + 1)))) else (none)) else (none)) else (some x5)
def impl_times.f (k : Nat) (l0 : List Int) (a1 : Int) : Option (Int) := impl_times.l0 k a1 0 l0 (l0.length : Int) 0
set_option maxHeartbeats 8000000 in
set_option maxRecDepth 100000 in
theorem impl_times.calls (k : Nat) (A0 : Option Addr) (c0 : Nat) (l0 : List Int) (a1 : Int) (r : Int) (w : World) (hr0 : Kd.C (Kd.int .i64) w A0 l0.length l0) (hc0 : l0.length ≤ c0) (h : impl_times.f k l0 a1 = some r) :
  Calls Try.prog 31 #[.slice A0 l0.length c0, .int .i64 a1] w fun e w' => e = .returned (.int .i64 r) ∧ Drawn0 w w' := by
 have HR0 := Aside0.mk hr0
 have HC0 := Aside0.mk hc0
 clear hr0 hc0
 have H : (impl_times.l0 k a1 0 l0 (l0.length : Int) 0) = some r := h
 clear h
 have H' := Aside0.mk H
 clear H
 go_enter Try.func31, Try.ntmps31
 go_wp2
 go_loopg [5, 10] k (fun kq v5 v10 w' => ∃ (x5_1 : Int) (x10_1 : Int), v5 = .int .i64 x5_1 ∧ v10 = .int .i64 x10_1 ∧ Aside0 (impl_times.l0 kq a1 x5_1 l0 (l0.length : Int) x10_1 = some r) ∧ Aside0 (kq ≤ k) ∧ Drawn0 w w')
 case atStart => exact ⟨(0), (0), (by first | rfl | (simp; done) | (simp [*]; done)), (by first | rfl | (simp; done) | (simp [*]; done)), H', ⟨Nat.le_refl _⟩, by repeat (first | exact Drawn0.refl _ | apply Drawn0.step)⟩
 case round =>
  clear H'
  try clear p2
  obtain ⟨x5_1, x10_1, rfl, rfl, HA, HK1, ⟨m1, rfl⟩⟩ := hrel
  cases gk with
  | zero => exact absurd HA.out (by simp [impl_times.l0])
  | succ k1 =>
   have H := HA.out
   clear HA
   simp only [impl_times.l0] at H
   by_cases c3 : x10_1 < (l0.length : Int)
   ·
    rw [if_pos c3] at H
    have c3b0 : decide (x10_1 < (l0.length : Int)) = true := decide_eq_true c3
    clear c3
    by_cases c4 : 0 ≤ x10_1
    ·
     rw [if_pos c4] at H
     have c4b0 : decide (0 ≤ x10_1) = true := decide_eq_true c4
     clear c4
     by_cases c5 : x10_1 < (l0.length : Int)
     ·
      rw [if_pos c5] at H
      have c5b0 : decide (x10_1 < (l0.length : Int)) = true := decide_eq_true c5
      clear c5
      by_cases c6 : (rd l0 x10_1) = a1
      ·
       rw [if_pos c6] at H
       have c6b0 : ((rd l0 x10_1) == a1) = true := beq_iff_eq.mpr c6
       have c6b1 : ((rd l0 x10_1) != a1) = false := bne_eq_false_iff_eq.mpr c6
       clear c6
       have H' := Aside0.mk H
       clear H
       have p133 : 0 ≤ (x10_1 : Int) := of_decide_eq_true (by first | (with_reducible assumption) | assumption)
       have q133 : x10_1 < (l0.length : Int) := of_decide_eq_true (by first | (with_reducible assumption) | assumption)
       obtain ⟨ad133, e133, hx133_0⟩ := Kd.at_int HR0.out x10_1 p133 q133
       cases e133
       replace p133 := eq_true p133
       replace q133 := eq_true q133
       go_wp2
       go_roundg k1
       case measure => have := HK1.out; omega
       case rel => exact ⟨(wrap64 (x5_1 + 1)), (wrap64 (x10_1 + 1)), (by first | rfl | (simp; done) | (simp [*]; done)), (by first | rfl | (simp; done) | (simp [*]; done)), H', ⟨by have := HK1.out; omega⟩, by repeat (first | exact Drawn0.refl _ | apply Drawn0.step)⟩
      ·
       rw [if_neg c6] at H
       have c6b0 : ((rd l0 x10_1) == a1) = false := beq_eq_false_iff_ne.mpr c6
       have c6b1 : ((rd l0 x10_1) != a1) = true := bne_iff_ne.mpr c6
       have H' := Aside0.mk H
       clear H
       have p133 : 0 ≤ (x10_1 : Int) := of_decide_eq_true (by first | (with_reducible assumption) | assumption)
       have q133 : x10_1 < (l0.length : Int) := of_decide_eq_true (by first | (with_reducible assumption) | assumption)
       obtain ⟨ad133, e133, hx133_0⟩ := Kd.at_int HR0.out x10_1 p133 q133
       cases e133
       replace p133 := eq_true p133
       replace q133 := eq_true q133
       go_wp2
       go_roundg k1
       case measure => have := HK1.out; omega
       case rel => exact ⟨(x5_1), (wrap64 (x10_1 + 1)), (by first | rfl | (simp; done) | (simp [*]; done)), (by first | rfl | (simp; done) | (simp [*]; done)), H', ⟨by have := HK1.out; omega⟩, by repeat (first | exact Drawn0.refl _ | apply Drawn0.step)⟩
     ·
      rw [if_neg c5] at H
      exact absurd H (by simp)
    ·
     rw [if_neg c4] at H
     exact absurd H (by simp)
   ·
    rw [if_neg c3] at H
    have c3b0 : decide (x10_1 < (l0.length : Int)) = false := decide_eq_false c3
    clear c3
    obtain rfl := Option.some.inj H
    go_wp2
    go_ret
    exact ⟨by first | rfl | (simp; done) | (simp [*]; done), by repeat (first | exact Drawn0.refl _ | apply Drawn0.step)⟩
end Go.Proofs.Ytieglenodannmaa.A
end

section
set_option linter.unusedVariables false
set_option linter.unusedSimpArgs false
namespace Go.Proofs.Ytieglenodannmaa.L
open Go Go.RowKit Go.Proofs.Ytieglenodannmaa.A Go.Proofs.YtieglenodannmaaW.PrintWords
theorem l19Count_l0 (l : List Int) (x : Int) (hl : l.length ≤ 1099511627776) : ∀ (d n c : Nat), n + d = l.length → c ≤ n → Ev (fun k => spec_l19Count.l0 k l x (c : Int) (n : Int)) ((c + (l.drop n).count x : Nat) : Int) := by
  intro d
  induction d with
  | zero =>
    intro n c hd hc
    refine Ev.step (fun k => spec_l19Count.l0.eq_2 ..) ?_
    refine Ev.neg (by omega) (Ev.some_ ?_)
    rw [List.drop_eq_nil_of_le (by omega)]
    simp
  | succ d ih =>
    intro n c hd hc
    refine Ev.step (fun k => spec_l19Count.l0.eq_2 ..) ?_
    refine Ev.pos (by omega) (Ev.pos (by omega) ?_)
    simp only [w64s (show n < 4611686018427387904 by omega), w64s (show c < 4611686018427387904 by omega), rd_at (show n < l.length by omega)]
    rw [List.drop_eq_getElem_cons (show n < l.length by omega), List.count_cons]
    refine Ev.ite (fun h => Ev.cast (ih (n + 1) (c + 1) (by omega) (by omega)) ?_) (fun h => Ev.cast (ih (n + 1) c (by omega) (by omega)) ?_)
    · simp only [h, beq_self_eq_true, if_true]
      omega
    · simp [h]
theorem l19Count_ev (l : List Int) (x : Int) (hl : l.length ≤ 1099511627776) : Ev (fun k => spec_l19Count.f k l x) (l.count x : Int) := by
  unfold spec_l19Count.f
  exact Ev.cast (l19Count_l0 l x hl l.length 0 0 (by omega) (by omega)) (by simp)
theorem times_l0 (l : List Int) (x : Int) (hl : l.length ≤ 1099511627776) : ∀ (d n c : Nat), n + d = l.length → c ≤ n → Ev (fun k => impl_times.l0 k x (c : Int) l (l.length : Int) (n : Int)) ((c + (l.drop n).count x : Nat) : Int) := by
  intro d
  induction d with
  | zero =>
    intro n c hd hc
    refine Ev.step (fun k => impl_times.l0.eq_2 ..) ?_
    refine Ev.neg (by omega) (Ev.some_ ?_)
    rw [List.drop_eq_nil_of_le (by omega)]
    simp
  | succ d ih =>
    intro n c hd hc
    refine Ev.step (fun k => impl_times.l0.eq_2 ..) ?_
    refine Ev.pos (by omega) (Ev.pos (by omega) (Ev.pos (by omega) ?_))
    simp only [w64s (show n < 4611686018427387904 by omega), w64s (show c < 4611686018427387904 by omega), rd_at (show n < l.length by omega)]
    rw [List.drop_eq_getElem_cons (show n < l.length by omega), List.count_cons]
    refine Ev.ite (fun h => Ev.cast (ih (n + 1) (c + 1) (by omega) (by omega)) ?_) (fun h => Ev.cast (ih (n + 1) c (by omega) (by omega)) ?_)
    · simp only [h, beq_self_eq_true, if_true]
      omega
    · simp [h]
theorem times_ev (l : List Int) (x : Int) (hl : l.length ≤ 1099511627776) : Ev (fun k => impl_times.f k l x) (l.count x : Int) := by
  unfold impl_times.f
  exact Ev.cast (times_l0 l x hl l.length 0 0 (by omega) (by omega)) (by simp)
end Go.Proofs.Ytieglenodannmaa.L
end

section
namespace Go.Proofs.Ytieglenodannmaa.A
open Go.RowKit Go.Proofs.YtieglenodannmaaW.PrintWords Go.Proofs.YtieglenodannmaaW.PrintLast Go.Proofs.YtieglenodannmaaW.PrintMore
attribute [local go_sem] max2_int min2_int max_two min_two max_three min_three max_four min_four   -- for this text's walks alone
set_option linter.unusedVariables false
set_option linter.unusedSimpArgs false
def spec_l1In.f (a0 : Int) (a1 : Int) (a2 : Int) : Option (Bool) := if a0 ≥ a1 then (some (decide (a0 ≤ a2))) else (some false)
set_option maxHeartbeats 8000000 in
set_option maxRecDepth 100000 in
theorem spec_l1In.calls (a0 : Int) (a1 : Int) (a2 : Int) (r : Bool) (w : World) (h : spec_l1In.f a0 a1 a2 = some r) :
  Calls Try.prog 25 #[.int .i64 a0, .int .i64 a1, .int .i64 a2] w fun e w' => e = .returned (.bool r) ∧ Drawn0 w w' := by
 have H : (if a0 ≥ a1 then (some (decide (a0 ≤ a2))) else (some false)) = some r := h
 clear h
 by_cases c4 : a0 ≥ a1
 ·
  rw [if_pos c4] at H
  have c4b0 : decide (a1 ≤ a0) = true := decide_eq_true c4
  clear c4
  obtain rfl := Option.some.inj H
  go_enter Try.func25, Try.ntmps25
  go_wp2
  go_ret
  exact ⟨by first | rfl | (simp; done) | (simp [*]; done), by repeat (first | exact Drawn0.refl _ | apply Drawn0.step)⟩
 ·
  rw [if_neg c4] at H
  have c4b0 : decide (a1 ≤ a0) = false := decide_eq_false c4
  clear c4
  obtain rfl := Option.some.inj H
  go_enter Try.func25, Try.ntmps25
  go_wp2
  go_ret
  exact ⟨by first | rfl | (simp; done) | (simp [*]; done), by repeat (first | exact Drawn0.refl _ | apply Drawn0.step)⟩
end Go.Proofs.Ytieglenodannmaa.A
end

section
set_option linter.unusedVariables false
set_option linter.unusedSimpArgs false
namespace Go.Proofs.Ytieglenodannmaa.L
open Go Go.RowKit Go.Proofs.Ytieglenodannmaa.A Go.Proofs.YtieglenodannmaaW.PrintWords
theorem l1In_eq (a b c : Int) : spec_l1In.f a b c = some (inR a b c) := by
  unfold spec_l1In.f inR
  by_cases h : a ≥ b
  · rw [if_pos h]; congr 1; simp; omega
  · rw [if_neg h]; congr 1; simp; omega
end Go.Proofs.Ytieglenodannmaa.L
end

section
namespace Go.Proofs.Ytieglenodannmaa.A
open Go.RowKit Go.Proofs.YtieglenodannmaaW.PrintWords Go.Proofs.YtieglenodannmaaW.PrintLast Go.Proofs.YtieglenodannmaaW.PrintMore
attribute [local go_sem] max2_int min2_int max_two min_two max_three min_three max_four min_four   -- for this text's walks alone
set_option linter.unusedVariables false
set_option linter.unusedSimpArgs false
def impl_InRange.f (a0 : Int) (a1 : Int) (a2 : Int) : Option (Bool) := if a1 ≤ a0 then (some (decide (a0 ≤ a2))) else (some false)
set_option maxHeartbeats 8000000 in
set_option maxRecDepth 100000 in
theorem impl_InRange.calls (a0 : Int) (a1 : Int) (a2 : Int) (r : Bool) (w : World) (h : impl_InRange.f a0 a1 a2 = some r) :
  Calls Try.prog 29 #[.int .i64 a0, .int .i64 a1, .int .i64 a2] w fun e w' => e = .returned (.bool r) ∧ Drawn0 w w' := by
 have H : (if a1 ≤ a0 then (some (decide (a0 ≤ a2))) else (some false)) = some r := h
 clear h
 by_cases c4 : a1 ≤ a0
 ·
  rw [if_pos c4] at H
  have c4b0 : decide (a1 ≤ a0) = true := decide_eq_true c4
  clear c4
  obtain rfl := Option.some.inj H
  go_enter Try.func29, Try.ntmps29
  go_wp2
  go_ret
  exact ⟨by first | rfl | (simp; done) | (simp [*]; done), by repeat (first | exact Drawn0.refl _ | apply Drawn0.step)⟩
 ·
  rw [if_neg c4] at H
  have c4b0 : decide (a1 ≤ a0) = false := decide_eq_false c4
  clear c4
  obtain rfl := Option.some.inj H
  go_enter Try.func29, Try.ntmps29
  go_wp2
  go_ret
  exact ⟨by first | rfl | (simp; done) | (simp [*]; done), by repeat (first | exact Drawn0.refl _ | apply Drawn0.step)⟩
end Go.Proofs.Ytieglenodannmaa.A
end

section
set_option linter.unusedVariables false
set_option linter.unusedSimpArgs false
namespace Go.Proofs.Ytieglenodannmaa.L
open Go Go.RowKit Go.Proofs.Ytieglenodannmaa.A Go.Proofs.YtieglenodannmaaW.PrintWords
theorem InRange_eq (a b c : Int) : impl_InRange.f a b c = some (inR a b c) := by
  unfold impl_InRange.f inR
  by_cases h : b ≤ a
  · rw [if_pos h]; congr 1; simp; omega
  · rw [if_neg h]; congr 1; simp; omega
end Go.Proofs.Ytieglenodannmaa.L
end

section
set_option linter.unusedVariables false
set_option linter.unusedSimpArgs false
namespace Go.Proofs.Ytieglenodannmaa.L
open Go Go.RowKit Go.Proofs.Ytieglenodannmaa.A Go.Proofs.YtieglenodannmaaW.PrintWords
abbrev rdT (l : List Tm) (i : Int) : Tm := rd_T38 l i
def rowT (l : List Tm) (n : Int) : Bool :=
  inR (rdT l n).f0 1 99 && inR (rdT l n).f1 1 99 && inR (rdT l n).f2 0 ((rdT l n).f5.length : Int) && inR (rdT l n).f4 0 ((rdT l n).f5.length : Int) && inR (rdT l n).f3 0 100000 && decide (¬ ((rdT l n).f5.length : Int) > 20) && decide (¬ (n > 0 ∧ (rdT l (n - 1)).f0 ≥ (rdT l n).f0))
def metB (l : List Tm) (n : Int) (id : Int) : Bool := decide (0 ≤ findT l id ∧ findT l id ≠ n ∧ (((rdT l (findT l id)).f5.count (rdT l n).f0 : Nat) : Int) = (((rdT l n).f5.count id : Nat) : Int))
def okT (l : List Tm) (n : Int) : Bool := rowT l n && (rdT l n).f5.all (metB l n)
def tlT (l : List Tm) : Nat → Nat → Bool
  | 0, _ => decide (l.length ≤ 10)
  | d + 1, n => okT l n && tlT l d (n + 1)
def areT (l : List Tm) : Bool := tlT l l.length 0
theorem findT_id {l : List Tm} {id : Int} (h : 0 ≤ findT l id) : (rdT l (findT l id)).f0 = id := by
  obtain ⟨hl, hp⟩ := fidx_at (fun t : Tm => decide (t.f0 = id)) l h
  obtain ⟨_, e⟩ := rdTm_int h (findT_range l id).2
  show (rd_T38 l (findT l id)).f0 = id
  rw [e]
  exact of_decide_eq_true hp
def ascT (l : List Tm) (n : Nat) : Prop := ∀ i : Nat, i < n → (rdT l i).f0 < (rdT l (i + 1 : Nat)).f0
theorem ascT_lt {l : List Tm} {n : Nat} (h : ascT l n) : ∀ (j i : Nat), i < j → j ≤ n → (rdT l i).f0 < (rdT l j).f0 := by
  intro j
  induction j with
  | zero => intro i hi; omega
  | succ j ih =>
    intro i hi hj
    have h1 := h j (by omega)
    by_cases e : i = j
    · subst e
      exact h1
    · have := ih i (by omega) (by omega)
      omega
theorem findT_self {l : List Tm} {n : Nat} (h : ascT l n) (hn : n < l.length) : findT l (rdT l n).f0 = n := by
  have e : l.findIdx? (fun t : Tm => decide (t.f0 = (rdT l n).f0)) = some n := by
    rw [List.findIdx?_eq_some_iff_getElem]
    refine ⟨hn, by simp [rdT, rdTm hn], fun j hj => ?_⟩
    have := ascT_lt h n j hj (Nat.le_refl _)
    rw [rdT, rdTm (show j < l.length by omega)] at this
    simp only [decide_eq_true_eq]
    omega
  unfold findT fidx
  rw [e]
theorem tlT_big (l : List Tm) (h : ¬ l.length ≤ 10) : ∀ (d n : Nat), tlT l d n = false
  | 0, _ => decide_eq_false h
  | d + 1, n => by rw [tlT, tlT_big l h d (n + 1), Bool.and_false]
theorem tlT_no (l : List Tm) : ∀ (d n i : Nat), n ≤ i → i < n + d → okT l i = false → tlT l d n = false
  | 0, n, i, h1, h2, _ => by omega
  | d + 1, n, i, h1, h2, h3 => by
    rw [tlT]
    by_cases e : i = n
    · subst e
      rw [h3, Bool.false_and]
    · rw [tlT_no l d (n + 1) i (by omega) (by omega) h3, Bool.and_false]
theorem areT_no {l : List Tm} {i : Nat} (hi : i < l.length) (h : okT l i = false) : areT l = false := tlT_no l l.length 0 i (by omega) (by omega) h
theorem areT_big {l : List Tm} (h : ¬ l.length ≤ 10) : areT l = false := tlT_big l h _ _
theorem tlT_yes (l : List Tm) (h10 : l.length ≤ 10) : ∀ (d n : Nat), (∀ i : Nat, n ≤ i → i < n + d → okT l i = true) → tlT l d n = true
  | 0, n, _ => decide_eq_true h10
  | d + 1, n, h => by rw [tlT, h n (by omega) (by omega), tlT_yes l h10 d (n + 1) (fun i h1 h2 => h i (by omega) (by omega))]; rfl
theorem areT_yes {l : List Tm} (h10 : l.length ≤ 10) (h : ∀ i : Nat, i < l.length → okT l i = true) : areT l = true := tlT_yes l h10 _ _ (fun i _ h2 => h i (by omega))
theorem okT_row {l : List Tm} {i : Nat} (h : okT l i = true) : rowT l i = true := by
  unfold okT at h
  exact (Bool.and_eq_true_iff.1 h).1
theorem rowT_asc {l : List Tm} {i : Nat} (h : rowT l (i + 1 : Nat) = true) : (rdT l i).f0 < (rdT l (i + 1 : Nat)).f0 := by
  unfold rowT at h
  have h1 := (Bool.and_eq_true_iff.1 h).2
  have h2 := of_decide_eq_true h1
  have e : (((i + 1 : Nat) : Int) - 1) = (i : Int) := by omega
  rw [e] at h2
  have : ¬ (rdT l i).f0 ≥ (rdT l (i + 1 : Nat)).f0 := fun h => h2 ⟨by omega, h⟩
  omega
theorem asc_of {l : List Tm} {n : Nat} (h : ∀ j : Nat, j < n → okT l j = true) (hr : rowT l n = true) : ascT l n := by
  intro i hi
  by_cases e : i + 1 = n
  · subst e
    exact rowT_asc hr
  · exact rowT_asc (okT_row (h (i + 1) (by omega)))
theorem row_no1 {l : List Tm} {n : Int} (h : inR (rdT l n).f0 1 99 = false) : rowT l n = false := by simp [rowT, h]
theorem row_no2 {l : List Tm} {n : Int} (h : inR (rdT l n).f1 1 99 = false) : rowT l n = false := by simp [rowT, h]
theorem row_no3 {l : List Tm} {n : Int} (h : inR (rdT l n).f2 0 ((rdT l n).f5.length : Int) = false) : rowT l n = false := by simp [rowT, h]
theorem row_no4 {l : List Tm} {n : Int} (h : inR (rdT l n).f4 0 ((rdT l n).f5.length : Int) = false) : rowT l n = false := by simp [rowT, h]
theorem row_no5 {l : List Tm} {n : Int} (h : inR (rdT l n).f3 0 100000 = false) : rowT l n = false := by simp [rowT, h]
theorem row_no6 {l : List Tm} {n : Int} (h : 20 < ((rdT l n).f5.length : Int)) : rowT l n = false := by
  have : decide (¬ ((rdT l n).f5.length : Int) > 20) = false := decide_eq_false (fun h2 => h2 h)
  simp only [rowT, this, Bool.and_false, Bool.false_and]
theorem row_no7 {l : List Tm} {n : Int} (h0 : 0 < n) (h : (rdT l n).f0 ≤ (rdT l (n - 1)).f0) : rowT l n = false := by
  have : decide (¬ (n > 0 ∧ (rdT l (n - 1)).f0 ≥ (rdT l n).f0)) = false := decide_eq_false (fun h2 => h2 ⟨h0, h⟩)
  simp only [rowT, this, Bool.and_false]
theorem row_yes {l : List Tm} {n : Int} (h1 : inR (rdT l n).f0 1 99 = true) (h2 : inR (rdT l n).f1 1 99 = true) (h3 : inR (rdT l n).f2 0 ((rdT l n).f5.length : Int) = true) (h4 : inR (rdT l n).f4 0 ((rdT l n).f5.length : Int) = true) (h5 : inR (rdT l n).f3 0 100000 = true) (h6 : ¬ 20 < ((rdT l n).f5.length : Int)) (h7 : 0 < n → ¬ (rdT l n).f0 ≤ (rdT l (n - 1)).f0) : rowT l n = true := by
  have d6 : decide (¬ ((rdT l n).f5.length : Int) > 20) = true := decide_eq_true h6
  have d7 : decide (¬ (n > 0 ∧ (rdT l (n - 1)).f0 ≥ (rdT l n).f0)) = true := decide_eq_true (fun h => h7 h.1 h.2)
  simp only [rowT, h1, h2, h3, h4, h5, d6, d7, Bool.and_true]
def smallT (l : List Tm) : Bool := decide (l.length ≤ 1099511627776) && l.all (fun x => decide (x.f5.length ≤ 1099511627776))
theorem small_of {l : List Tm} (h : smallT l = true) : Small l := by
  have h2 := Bool.and_eq_true_iff.1 h
  exact ⟨of_decide_eq_true h2.1, fun x hx => of_decide_eq_true ((List.all_eq_true.1 h2.2) x hx)⟩
theorem of_small {l : List Tm} (h : Small l) : smallT l = true := by
  unfold smallT
  rw [decide_eq_true h.1, Bool.true_and, List.all_eq_true]
  exact fun x hx => decide_eq_true (h.2 x hx)
end Go.Proofs.Ytieglenodannmaa.L
end

section
set_option linter.unusedVariables false
set_option linter.unusedSimpArgs false
namespace Go.Proofs.Ytieglenodannmaa.A
open Go.RowKit Go.Proofs.YtieglenodannmaaW.PrintWords Go.Proofs.YtieglenodannmaaW.PrintLast Go.Proofs.YtieglenodannmaaW.PrintMore Go.Shelf Go.Proofs.Ytieglenodannmaa.L
theorem atIntT {w : World} {A : Option Addr} {xs : List Int} (h : Kd.C (Kd.int .i64) w A xs.length xs) (i : Nat) (hi : i < xs.length) : ∃ ad, A = some ad ∧ w.cell? (ad.add i) = some (.int .i64 xs[i]) := by
  obtain ⟨ad, e, hc⟩ := h.2.2 (by omega)
  obtain ⟨c, _, hr, hcell⟩ := hc i xs[i] (List.getElem?_eq_getElem hi)
  have hr' : c = [Value.int .i64 xs[i]] := hr
  subst hr'
  refine ⟨ad, e, ?_⟩
  have := hcell 0 _ rfl
  have e1 : (Kd.int .i64).sz = 1 := rfl
  simpa [e1] using this
theorem box6 {w W : World} {g t : Nat} {z0 z1 z2 z3 z4 z5 : Value} (h : W.heap[g]? = some (.cells #[z0, z1, z2, z3, z4, z5] t (0, 0))) (hb : Below w.heap.size w W) (hg : w.heap.size ≤ g) (v0 v1 v2 v3 v4 v5 : Value) :
    ∃ W2, W2 = ((((((W.setCell ⟨g, 0, none⟩ v0).setCell ⟨g, 1, none⟩ v1).setCell ⟨g, 2, none⟩ v2).setCell ⟨g, 3, none⟩ v3).setCell ⟨g, 4, none⟩ v4).setCell ⟨g, 5, none⟩ v5) ∧ W2.heap[g]? = some (.cells #[v0, v1, v2, v3, v4, v5] t (0, 0)) ∧ Below w.heap.size w W2 := by
  refine ⟨_, rfl, ?_, ?_⟩
  · refine blk_put (cs := #[v0, v1, v2, v3, v4, z5]) ?_ 5 _ rfl
    refine blk_put (cs := #[v0, v1, v2, v3, z4, z5]) ?_ 4 _ rfl
    refine blk_put (cs := #[v0, v1, v2, z3, z4, z5]) ?_ 3 _ rfl
    refine blk_put (cs := #[v0, v1, z2, z3, z4, z5]) ?_ 2 _ rfl
    refine blk_put (cs := #[v0, z1, z2, z3, z4, z5]) ?_ 1 _ rfl
    exact blk_put h 0 _ rfl
  · exact below_set (below_set (below_set (below_set (below_set (below_set hb hg) hg) hg) hg) hg) hg
def tmAt (W : World) (p : Addr) (x : S38) (A : Option Addr) (c : Nat) : Prop := W.cell? p = some (.int .i64 x.f0) ∧ W.cell? ⟨p.block, p.off + 1, none⟩ = some (.int .i64 x.f1) ∧ W.cell? ⟨p.block, p.off + 2, none⟩ = some (.int .i64 x.f2) ∧ W.cell? ⟨p.block, p.off + 3, none⟩ = some (.int .i64 x.f3) ∧ W.cell? ⟨p.block, p.off + 4, none⟩ = some (.int .i64 x.f4) ∧ W.cell? ⟨p.block, p.off + 5, none⟩ = some (.slice A x.f5.length c)
theorem tmAt_of {W : World} {A : Option Addr} {l : List S38} (h : Kd.C k38 W A l.length l) (i : Nat) (hi : i < l.length) : ∃ ad A5 c5, A = some ad ∧ tmAt W (ad.add (i * 6)) (rdT l (i : Int)) A5 c5 ∧ (rdT l (i : Int)).f5.length ≤ c5 ∧ Kd.C (Kd.int .i64) W A5 (rdT l (i : Int)).f5.length (rdT l (i : Int)).f5 := by
  obtain ⟨ad, A5, c5, e0, x0, x1, x2, x3, x4, x5, hl5, hi5⟩ := at_T38 h (i : Int) (by omega) (by omega)
  simp only [Int.toNat_natCast] at x0 x1 x2 x3 x4 x5
  exact ⟨ad, A5, c5, e0, ⟨x0, x1, x2, x3, x4, x5⟩, hl5, hi5⟩
theorem tmAt.below {w W : World} {p : Addr} {x : S38} {A : Option Addr} {c : Nat} (h : tmAt w p x A c) (hb : Below w.heap.size w W) : tmAt W p x A c := by
  obtain ⟨h0, h1, h2, h3, h4, h5⟩ := h
  have L : ∀ {q : Addr} {v : Value}, w.cell? q = some v → W.cell? q = some v := fun h => (hb.cell (World.block_lt_of_cell? w _ h)).trans h
  exact ⟨L h0, L h1, L h2, L h3, L h4, L h5⟩
theorem cells6 {W : World} {g t : Nat} {v0 v1 v2 v3 v4 v5 : Value} (h : W.heap[g]? = some (.cells #[v0, v1, v2, v3, v4, v5] t (0, 0))) : (W.cell? ⟨g, 0, none⟩ = some v0 ∧ W.cell? ⟨g, 1, none⟩ = some v1 ∧ W.cell? ⟨g, 2, none⟩ = some v2 ∧ W.cell? ⟨g, 3, none⟩ = some v3 ∧ W.cell? ⟨g, 4, none⟩ = some v4 ∧ W.cell? ⟨g, 5, none⟩ = some v5) ∧ (W.frozen? ⟨g, 0, none⟩ = false ∧ W.frozen? ⟨g, 1, none⟩ = false ∧ W.frozen? ⟨g, 2, none⟩ = false ∧ W.frozen? ⟨g, 3, none⟩ = false ∧ W.frozen? ⟨g, 4, none⟩ = false ∧ W.frozen? ⟨g, 5, none⟩ = false) :=
  ⟨⟨(blk_cell h 0).trans rfl, (blk_cell h 1).trans rfl, (blk_cell h 2).trans rfl, (blk_cell h 3).trans rfl, (blk_cell h 4).trans rfl, (blk_cell h 5).trans rfl⟩, blk_frozen h 0, blk_frozen h 1, blk_frozen h 2, blk_frozen h 3, blk_frozen h 4, blk_frozen h 5⟩
def impl_AreTeams.f (k : Nat) (l0 : List S38) : Option Bool := if smallT l0 = true then some (areT l0) else none
theorem impl_timesex (l : List Int) (x : Int) (hl : l.length ≤ 1099511627776) : ∃ k, impl_times.f k l x = some ((l.count x : Nat) : Int) := by
  obtain ⟨k, h⟩ := times_ev l x hl
  exact ⟨k, h k (Nat.le_refl _)⟩
set_option maxHeartbeats 16000000 in
set_option maxRecDepth 100000 in
theorem impl_AreTeams.calls (k : Nat) (A0 : Option Addr) (c0 : Nat) (l0 : List S38) (r : Bool) (w : World) (hr0 : Kd.C k38 w A0 l0.length l0) (hc0 : l0.length ≤ c0) (h : impl_AreTeams.f k l0 = some r) :
    Calls Try.prog 17 #[.slice A0 l0.length c0] w fun e w' => e = .returned (.bool r) ∧ Below w.heap.size w w' := by
  unfold impl_AreTeams.f at h
  by_cases hs : smallT l0 = true
  rotate_left
  · rw [if_neg hs] at h
    cases h
  rw [if_pos hs] at h
  have hr := Option.some.inj h
  have hsm := small_of hs
  clear h hs
  have hu38 := Try.underlying38
  have HR0 := Aside0.mk hr0
  have HC0 := Aside0.mk hc0
  have HR := Aside0.mk hr
  have HS := Aside0.mk hsm
  clear hr0 hc0 hr hsm
  by_cases h10 : l0.length ≤ 10
  rotate_left
  · have hb : (10 < (l0.length : Int)) = True := eq_true (by omega)
    have hb2 : (10 < l0.length) = True := eq_true (by omega)
    have HR1 : Aside0 (r = false) := ⟨by rw [← HR.out, areT_big h10]⟩
    clear h10
    go_enter Try.func17, Try.ntmps17
    go_wp2
    go_ret
    exact ⟨by rw [HR1.out]; rfl, Below.refl _ _⟩
  have hb : (10 < (l0.length : Int)) = False := eq_false (by omega)
  have hb2 : (10 < l0.length) = False := eq_false (by omega)
  have H10 := Aside0.mk h10
  clear h10
  go_enter Try.func17, Try.ntmps17
  go_wp2
  go_loopg [14] l0.length (fun gg v14 wr => ∃ kk : Nat, v14 = .int .i64 kk ∧ Aside0 (kk ≤ l0.length ∧ l0.length - kk ≤ gg) ∧ Aside0 (∀ j : Nat, j < kk → okT l0 j = true) ∧ Aside0 (Below w.heap.size w wr))
  case atStart => exact ⟨0, rfl, ⟨by omega⟩, ⟨fun j hj => by omega⟩, ⟨Below.refl _ w⟩⟩
  case round =>
    clear hb hb2
    obtain ⟨kk, rfl, HI, HOK, HB⟩ := hrel
    by_cases hlt : kk < l0.length
    rotate_left
    · have hltb : ((kk : Int) < (l0.length : Int)) = False := eq_false (by omega)
      have HR1 : Aside0 (r = true) := ⟨by rw [← HR.out]; exact areT_yes H10.out (fun i hi => HOK.out i (by omega))⟩
      clear hlt
      go_wp2
      go_ret
      exact ⟨by rw [HR1.out]; rfl, HB.out⟩
    have hltb : ((kk : Int) < (l0.length : Int)) = True := eq_true (by omega)
    obtain ⟨ad, A5, c5, e0, hat, hl5, hi5⟩ := tmAt_of HR0.out kk hlt
    subst e0
    obtain ⟨x0, x1, x2, x3, x4, x5⟩ := hat.below HB.out
    clear hat
    obtain ⟨x, hx⟩ : ∃ x, rdT l0 (kk : Int) = x := ⟨_, rfl⟩
    rw [hx] at x0 x1 x2 x3 x4 x5 hl5 hi5
    have hx5 : x.f5.length ≤ 1099511627776 := by rw [← hx]; exact HS.out.2 _ (rdTm_mem (by omega) (by omega))
    have HX := Aside0.mk hx
    have HLT := Aside0.mk hlt
    have HL5 := Aside0.mk hl5
    have HX5 := Aside0.mk hx5
    have HI6 : Aside0 (∀ W, Below w.heap.size w W → Kd.C (Kd.int .i64) W A5 x.f5.length x.f5) := ⟨fun W h => Kd.C_below hi5 h⟩
    clear hx hlt hi5 hl5 hx5
    go_upto_region 7 with (first | ((with_reducible refine gate_dst (N := 4) rfl ?_); refine box_event ?hg (N := 4) ?hd (cs := #[.int .i64 0, .int .i64 0, .int .i64 0, .int .i64 0, .int .i64 0, .slice none 0 0]) (t := 38) ?hr ?_; (case hd => rfl); (case hg => rfl); (case hr => first | (go_simp; done) | (go_simp; rfl)); intro gb hg w7 hbox hb; have HBX := Aside0.mk hbox; have HG := Aside0.mk (show w.heap.size ≤ gb by rw [hg]; exact below_size (by repeat (first | exact HB.out | apply pw_below_drewN | apply below_drew1))); have HB7 := Aside0.mk (below_step (by repeat (first | exact HB.out | apply pw_below_drewN | apply below_drew1)) hb); clear hb hg; obtain ⟨⟨hz0, hz1, hz2, hz3, hz4, hz5⟩, hf0, hf1, hf2, hf3, hf4, hf5⟩ := cells6 hbox; clear hbox))
    try simp only [Act.put, Z1, Z2, Z3]
    obtain ⟨w8, e8, hbx, hb8⟩ := box6 HBX.out HB7.out HG.out (.int .i64 x.f0) (.int .i64 x.f1) (.int .i64 x.f2) (.int .i64 x.f3) (.int .i64 x.f4) (.slice A5 x.f5.length c5)
    rw [← e8]
    clear e8 hz0 hz1 hz2 hz3 hz4 hz5 hf0 hf1 hf2 hf3 hf4 hf5 x0 x1 x2 x3 x4 x5 HBX HB7
    have HBX := Aside0.mk hbx
    have HB8 := Aside0.mk hb8
    obtain ⟨⟨hz0, hz1, hz2, hz3, hz4, hz5⟩, _⟩ := cells6 hbx
    clear hbx hb8
    have hI : ∀ (a lo hi : Int) (b : Bool), inR a lo hi = b → ∀ W, Calls Try.prog 29 #[.int .i64 a, .int .i64 lo, .int .i64 hi] W fun e w' => e = .returned (.bool b) ∧ Drawn0 W w' := fun a lo hi b e W => impl_InRange.calls a lo hi b W (by rw [InRange_eq, e])
    obtain ⟨b1, hb1⟩ : ∃ b, inR x.f0 1 99 = b := ⟨_, rfl⟩
    obtain ⟨b2, hb2⟩ : ∃ b, inR x.f1 1 99 = b := ⟨_, rfl⟩
    obtain ⟨b3, hb3⟩ : ∃ b, inR x.f2 0 (x.f5.length : Int) = b := ⟨_, rfl⟩
    obtain ⟨b4, hb4⟩ : ∃ b, inR x.f4 0 (x.f5.length : Int) = b := ⟨_, rfl⟩
    obtain ⟨b5, hb5⟩ : ∃ b, inR x.f3 0 100000 = b := ⟨_, rfl⟩
    have hI1 := hI _ _ _ _ hb1
    have hI2 := hI _ _ _ _ hb2
    have hI3 := hI _ _ _ _ hb3
    have hI4 := hI _ _ _ _ hb4
    have hI5 := hI _ _ _ _ hb5
    have HE1 := Aside0.mk hb1
    have HE2 := Aside0.mk hb2
    have HE3 := Aside0.mk hb3
    have HE4 := Aside0.mk hb4
    have HE5 := Aside0.mk hb5
    clear hI hb1 hb2 hb3 hb4 hb5
    go_cut [70] (fun v70 wc => ∃ b : Bool, v70 = .bool b ∧ Aside0 (b = !rowT l0 (kk : Int)) ∧ Aside0 (wc.heap[gb]? = some (.cells #[.int .i64 x.f0, .int .i64 x.f1, .int .i64 x.f2, .int .i64 x.f3, .int .i64 x.f4, .slice A5 x.f5.length c5] 38 (0, 0))) ∧ Aside0 (Below w.heap.size w wc))
    case first =>
      cases b1 with
      | false =>
        have HRW : Aside0 (rowT l0 (kk : Int) = false) := ⟨row_no1 (by rw [HX.out]; exact HE1.out)⟩
        go_quiet ((go_at_call 29; (with_reducible first | refine (hI1 _).mono ?_ | refine (hI2 _).mono ?_ | refine (hI3 _).mono ?_ | refine (hI4 _).mono ?_ | refine (hI5 _).mono ?_); rintro e w' ⟨rfl, nd, rfl⟩; exact ⟨rfl, _, World.drewN_drewN ..⟩))
        try go_wp2
        go_meet
        case rel => exact ⟨true, rfl, ⟨by rw [HRW.out]; rfl⟩, ⟨blk_drewN HBX.out _⟩, ⟨pw_below_drewN HB8.out _⟩⟩
      | true =>
        by_cases hk0 : 0 < kk
        rotate_left
        · have hkb : (0 < (kk : Int)) = False := eq_false (by omega)
          have hkbn : (0 < kk) = False := eq_false hk0
          have HAS : Aside0 (0 < (kk : Int) → ¬ x.f0 ≤ (rdT l0 ((kk : Int) - 1)).f0) := ⟨fun h => by omega⟩
          clear hk0
          cases b2 with
          | false =>
            have HRW : Aside0 (rowT l0 (kk : Int) = false) := ⟨row_no2 (by rw [HX.out]; exact HE2.out)⟩
            go_quiet ((go_at_call 29; (with_reducible first | refine (hI1 _).mono ?_ | refine (hI2 _).mono ?_ | refine (hI3 _).mono ?_ | refine (hI4 _).mono ?_ | refine (hI5 _).mono ?_); rintro e w' ⟨rfl, nd, rfl⟩; exact ⟨rfl, _, World.drewN_drewN ..⟩))
            try go_wp2
            go_meet
            case rel => exact ⟨true, rfl, ⟨by rw [HRW.out]; rfl⟩, ⟨blk_drewN HBX.out _⟩, ⟨pw_below_drewN HB8.out _⟩⟩
          | true =>
            by_cases h20 : 20 < (x.f5.length : Int)
            · have H20 := Aside0.mk h20
              have hd20 : (20 < (x.f5.length : Int)) = True := eq_true h20
              have hd20n : (20 < x.f5.length) = True := eq_true (by omega)
              clear h20
              have HRW : Aside0 (rowT l0 (kk : Int) = false) := ⟨row_no6 (by rw [HX.out]; exact H20.out)⟩
              go_quiet ((go_at_call 29; (with_reducible first | refine (hI1 _).mono ?_ | refine (hI2 _).mono ?_ | refine (hI3 _).mono ?_ | refine (hI4 _).mono ?_ | refine (hI5 _).mono ?_); rintro e w' ⟨rfl, nd, rfl⟩; exact ⟨rfl, _, World.drewN_drewN ..⟩))
              try go_wp2
              go_meet
              case rel => exact ⟨true, rfl, ⟨by rw [HRW.out]; rfl⟩, ⟨blk_drewN HBX.out _⟩, ⟨pw_below_drewN HB8.out _⟩⟩
            · have H20 := Aside0.mk h20
              have hd20 : (20 < (x.f5.length : Int)) = False := eq_false h20
              have hd20n : (20 < x.f5.length) = False := eq_false (by omega)
              clear h20
              cases b3 with
              | false =>
                have HRW : Aside0 (rowT l0 (kk : Int) = false) := ⟨row_no3 (by rw [HX.out]; exact HE3.out)⟩
                go_quiet ((go_at_call 29; (with_reducible first | refine (hI1 _).mono ?_ | refine (hI2 _).mono ?_ | refine (hI3 _).mono ?_ | refine (hI4 _).mono ?_ | refine (hI5 _).mono ?_); rintro e w' ⟨rfl, nd, rfl⟩; exact ⟨rfl, _, World.drewN_drewN ..⟩))
                try go_wp2
                go_meet
                case rel => exact ⟨true, rfl, ⟨by rw [HRW.out]; rfl⟩, ⟨blk_drewN HBX.out _⟩, ⟨pw_below_drewN HB8.out _⟩⟩
              | true =>
                cases b4 with
                | false =>
                  have HRW : Aside0 (rowT l0 (kk : Int) = false) := ⟨row_no4 (by rw [HX.out]; exact HE4.out)⟩
                  go_quiet ((go_at_call 29; (with_reducible first | refine (hI1 _).mono ?_ | refine (hI2 _).mono ?_ | refine (hI3 _).mono ?_ | refine (hI4 _).mono ?_ | refine (hI5 _).mono ?_); rintro e w' ⟨rfl, nd, rfl⟩; exact ⟨rfl, _, World.drewN_drewN ..⟩))
                  try go_wp2
                  go_meet
                  case rel => exact ⟨true, rfl, ⟨by rw [HRW.out]; rfl⟩, ⟨blk_drewN HBX.out _⟩, ⟨pw_below_drewN HB8.out _⟩⟩
                | true =>
                  cases b5 with
                  | false =>
                    have HRW : Aside0 (rowT l0 (kk : Int) = false) := ⟨row_no5 (by rw [HX.out]; exact HE5.out)⟩
                    go_quiet ((go_at_call 29; (with_reducible first | refine (hI1 _).mono ?_ | refine (hI2 _).mono ?_ | refine (hI3 _).mono ?_ | refine (hI4 _).mono ?_ | refine (hI5 _).mono ?_); rintro e w' ⟨rfl, nd, rfl⟩; exact ⟨rfl, _, World.drewN_drewN ..⟩))
                    try go_wp2
                    go_meet
                    case rel => exact ⟨true, rfl, ⟨by rw [HRW.out]; rfl⟩, ⟨blk_drewN HBX.out _⟩, ⟨pw_below_drewN HB8.out _⟩⟩
                  | true =>
                    have HRW : Aside0 (rowT l0 (kk : Int) = true) := ⟨row_yes (by rw [HX.out]; exact HE1.out) (by rw [HX.out]; exact HE2.out) (by rw [HX.out]; exact HE3.out) (by rw [HX.out]; exact HE4.out) (by rw [HX.out]; exact HE5.out) (by rw [HX.out]; exact H20.out) (by rw [HX.out]; exact HAS.out)⟩
                    go_quiet ((go_at_call 29; (with_reducible first | refine (hI1 _).mono ?_ | refine (hI2 _).mono ?_ | refine (hI3 _).mono ?_ | refine (hI4 _).mono ?_ | refine (hI5 _).mono ?_); rintro e w' ⟨rfl, nd, rfl⟩; exact ⟨rfl, _, World.drewN_drewN ..⟩))
                    try go_wp2
                    go_meet
                    case rel => exact ⟨false, rfl, ⟨by rw [HRW.out]; rfl⟩, ⟨blk_drewN HBX.out _⟩, ⟨pw_below_drewN HB8.out _⟩⟩
        have hkb : (0 < (kk : Int)) = True := eq_true (by omega)
        have hkbn : (0 < kk) = True := eq_true hk0
        obtain ⟨m, hm⟩ : ∃ m : Nat, (kk : Int) - 1 = (m : Int) := ⟨kk - 1, by omega⟩
        obtain ⟨ad2, A52, c52, e2, ⟨y0, _⟩, _⟩ := tmAt_of (Kd.C_below HR0.out HB8.out) m (by have := HLT.out; omega)
        cases e2
        obtain ⟨q, hq⟩ : ∃ q, (rdT l0 (m : Int)).f0 = q := ⟨_, rfl⟩
        rw [hq] at y0
        have hwk : IntKind.i64.wrap ((kk : Int) - 1) = (m : Int) := by rw [hm, IntKind.wrap_i64]; have := HLT.out; have := HS.out.1; omega
        have hwk2 : wrap64 ((kk : Int) - 1) = (m : Int) := (i64_w _).symm.trans hwk
        have hml : ((m : Int) < (l0.length : Int)) = True := eq_true (by have := HLT.out; omega)
        have HQ : Aside0 ((rdT l0 ((kk : Int) - 1)).f0 = q) := ⟨by rw [hm]; exact hq⟩
        clear hm hq hk0
        by_cases has : x.f0 ≤ q
        · have HAS := Aside0.mk has
          have hab : (x.f0 ≤ q) = True := eq_true has
          clear has
          have HRW : Aside0 (rowT l0 (kk : Int) = false) := ⟨row_no7 (of_eq_true hkb) (by rw [HX.out, HQ.out]; exact HAS.out)⟩
          go_quiet ((go_at_call 29; (with_reducible first | refine (hI1 _).mono ?_ | refine (hI2 _).mono ?_ | refine (hI3 _).mono ?_ | refine (hI4 _).mono ?_ | refine (hI5 _).mono ?_); rintro e w' ⟨rfl, nd, rfl⟩; exact ⟨rfl, _, World.drewN_drewN ..⟩))
          try go_wp2
          go_meet
          case rel => exact ⟨true, rfl, ⟨by rw [HRW.out]; rfl⟩, ⟨blk_drewN HBX.out _⟩, ⟨pw_below_drewN HB8.out _⟩⟩
        · have HAS : Aside0 (0 < (kk : Int) → ¬ x.f0 ≤ (rdT l0 ((kk : Int) - 1)).f0) := ⟨fun _ => by rw [HQ.out]; exact has⟩
          have hab : (x.f0 ≤ q) = False := eq_false has
          clear has
          cases b2 with
          | false =>
            have HRW : Aside0 (rowT l0 (kk : Int) = false) := ⟨row_no2 (by rw [HX.out]; exact HE2.out)⟩
            go_quiet ((go_at_call 29; (with_reducible first | refine (hI1 _).mono ?_ | refine (hI2 _).mono ?_ | refine (hI3 _).mono ?_ | refine (hI4 _).mono ?_ | refine (hI5 _).mono ?_); rintro e w' ⟨rfl, nd, rfl⟩; exact ⟨rfl, _, World.drewN_drewN ..⟩))
            try go_wp2
            go_meet
            case rel => exact ⟨true, rfl, ⟨by rw [HRW.out]; rfl⟩, ⟨blk_drewN HBX.out _⟩, ⟨pw_below_drewN HB8.out _⟩⟩
          | true =>
            by_cases h20 : 20 < (x.f5.length : Int)
            · have H20 := Aside0.mk h20
              have hd20 : (20 < (x.f5.length : Int)) = True := eq_true h20
              have hd20n : (20 < x.f5.length) = True := eq_true (by omega)
              clear h20
              have HRW : Aside0 (rowT l0 (kk : Int) = false) := ⟨row_no6 (by rw [HX.out]; exact H20.out)⟩
              go_quiet ((go_at_call 29; (with_reducible first | refine (hI1 _).mono ?_ | refine (hI2 _).mono ?_ | refine (hI3 _).mono ?_ | refine (hI4 _).mono ?_ | refine (hI5 _).mono ?_); rintro e w' ⟨rfl, nd, rfl⟩; exact ⟨rfl, _, World.drewN_drewN ..⟩))
              try go_wp2
              go_meet
              case rel => exact ⟨true, rfl, ⟨by rw [HRW.out]; rfl⟩, ⟨blk_drewN HBX.out _⟩, ⟨pw_below_drewN HB8.out _⟩⟩
            · have H20 := Aside0.mk h20
              have hd20 : (20 < (x.f5.length : Int)) = False := eq_false h20
              have hd20n : (20 < x.f5.length) = False := eq_false (by omega)
              clear h20
              cases b3 with
              | false =>
                have HRW : Aside0 (rowT l0 (kk : Int) = false) := ⟨row_no3 (by rw [HX.out]; exact HE3.out)⟩
                go_quiet ((go_at_call 29; (with_reducible first | refine (hI1 _).mono ?_ | refine (hI2 _).mono ?_ | refine (hI3 _).mono ?_ | refine (hI4 _).mono ?_ | refine (hI5 _).mono ?_); rintro e w' ⟨rfl, nd, rfl⟩; exact ⟨rfl, _, World.drewN_drewN ..⟩))
                try go_wp2
                go_meet
                case rel => exact ⟨true, rfl, ⟨by rw [HRW.out]; rfl⟩, ⟨blk_drewN HBX.out _⟩, ⟨pw_below_drewN HB8.out _⟩⟩
              | true =>
                cases b4 with
                | false =>
                  have HRW : Aside0 (rowT l0 (kk : Int) = false) := ⟨row_no4 (by rw [HX.out]; exact HE4.out)⟩
                  go_quiet ((go_at_call 29; (with_reducible first | refine (hI1 _).mono ?_ | refine (hI2 _).mono ?_ | refine (hI3 _).mono ?_ | refine (hI4 _).mono ?_ | refine (hI5 _).mono ?_); rintro e w' ⟨rfl, nd, rfl⟩; exact ⟨rfl, _, World.drewN_drewN ..⟩))
                  try go_wp2
                  go_meet
                  case rel => exact ⟨true, rfl, ⟨by rw [HRW.out]; rfl⟩, ⟨blk_drewN HBX.out _⟩, ⟨pw_below_drewN HB8.out _⟩⟩
                | true =>
                  cases b5 with
                  | false =>
                    have HRW : Aside0 (rowT l0 (kk : Int) = false) := ⟨row_no5 (by rw [HX.out]; exact HE5.out)⟩
                    go_quiet ((go_at_call 29; (with_reducible first | refine (hI1 _).mono ?_ | refine (hI2 _).mono ?_ | refine (hI3 _).mono ?_ | refine (hI4 _).mono ?_ | refine (hI5 _).mono ?_); rintro e w' ⟨rfl, nd, rfl⟩; exact ⟨rfl, _, World.drewN_drewN ..⟩))
                    try go_wp2
                    go_meet
                    case rel => exact ⟨true, rfl, ⟨by rw [HRW.out]; rfl⟩, ⟨blk_drewN HBX.out _⟩, ⟨pw_below_drewN HB8.out _⟩⟩
                  | true =>
                    have HRW : Aside0 (rowT l0 (kk : Int) = true) := ⟨row_yes (by rw [HX.out]; exact HE1.out) (by rw [HX.out]; exact HE2.out) (by rw [HX.out]; exact HE3.out) (by rw [HX.out]; exact HE4.out) (by rw [HX.out]; exact HE5.out) (by rw [HX.out]; exact H20.out) (by rw [HX.out]; exact HAS.out)⟩
                    go_quiet ((go_at_call 29; (with_reducible first | refine (hI1 _).mono ?_ | refine (hI2 _).mono ?_ | refine (hI3 _).mono ?_ | refine (hI4 _).mono ?_ | refine (hI5 _).mono ?_); rintro e w' ⟨rfl, nd, rfl⟩; exact ⟨rfl, _, World.drewN_drewN ..⟩))
                    try go_wp2
                    go_meet
                    case rel => exact ⟨false, rfl, ⟨by rw [HRW.out]; rfl⟩, ⟨blk_drewN HBX.out _⟩, ⟨pw_below_drewN HB8.out _⟩⟩
    case rest =>
      clear hI1 hI2 hI3 hI4 hI5 hz0 hz1 hz2 hz3 hz4 hz5 HE1 HE2 HE3 HE4 HE5 HBX HB8
      obtain ⟨b, rfl, HBV, HBX, HB8⟩ := hcut
      by_cases hrow : rowT l0 (kk : Int) = true
      rotate_left
      · obtain rfl : b = true := by rw [HBV.out, Bool.eq_false_iff.mpr hrow]; rfl
        have HR1 : Aside0 (r = false) := ⟨by
          rw [← HR.out]
          exact areT_no HLT.out (by unfold okT; rw [Bool.eq_false_iff.mpr hrow, Bool.false_and])⟩
        clear hrow
        go_wp2
        go_ret
        exact ⟨by rw [HR1.out]; rfl, HB8.out⟩
      obtain rfl : b = false := by rw [HBV.out, hrow]; rfl
      have HROW := Aside0.mk hrow
      clear hrow
      obtain ⟨⟨hz0, hz1, hz2, hz3, hz4, hz5⟩, _⟩ := cells6 HBX.out
      go_wp2
      go_loopg [74] x.f5.length (fun gg v74 wr => ∃ mm : Nat, v74 = .int .i64 mm ∧ Aside0 (mm ≤ x.f5.length ∧ x.f5.length - mm ≤ gg) ∧ Aside0 (∀ (j : Nat) (hj : j < x.f5.length), j < mm → metB l0 (kk : Int) x.f5[j] = true) ∧ Aside0 (wr.heap[gb]? = some (.cells #[.int .i64 x.f0, .int .i64 x.f1, .int .i64 x.f2, .int .i64 x.f3, .int .i64 x.f4, .slice A5 x.f5.length c5] 38 (0, 0))) ∧ Aside0 (Below w.heap.size w wr))
      case atStart => exact ⟨0, rfl, ⟨by omega⟩, ⟨fun j _ hj => by omega⟩, HBX, HB8⟩
      case round =>
        obtain ⟨mm, rfl, HI2, HOK2, HBX2, HB9⟩ := hrel
        clear hz0 hz1 hz2 hz3 hz4 hz5 HBX HB8
        by_cases hlt2 : mm < x.f5.length
        rotate_left
        · have hltb2 : ((mm : Int) < (x.f5.length : Int)) = False := eq_false (by omega)
          have HOKK : Aside0 (okT l0 (kk : Int) = true) := ⟨by
            unfold okT
            rw [HROW.out, Bool.true_and, HX.out, List.all_eq_true]
            intro id hid
            obtain ⟨j, hj, rfl⟩ := List.mem_iff_getElem.1 hid
            exact HOK2.out j hj (by omega)⟩
          obtain ⟨⟨hz0, hz1, hz2, hz3, hz4, hz5⟩, _⟩ := cells6 HBX2.out
          clear hlt2
          go_wp2
          go_roundg (l0.length - (kk + 1))
          case measure => have := HI.out; have := HLT.out; omega
          case rel =>
            have hw : wrap64 ((kk : Int) + 1) = ((kk + 1 : Nat) : Int) := by have := HLT.out; have := HS.out.1; unfold wrap64; omega
            refine ⟨kk + 1, by rw [hw], ⟨by have := HLT.out; omega⟩, ⟨fun j hj => ?_⟩, HB9⟩
            by_cases e : j = kk
            · subst e
              exact HOKK.out
            · exact HOK.out j (by omega)
        have hltb2 : ((mm : Int) < (x.f5.length : Int)) = True := eq_true (by omega)
        obtain ⟨a5, e5, hc5⟩ := atIntT (HI6.out _ HB9.out) mm hlt2
        subst e5
        obtain ⟨id, hid⟩ : ∃ id, x.f5[mm] = id := ⟨_, rfl⟩
        rw [hid] at hc5
        have HID : Aside0 (x.f5[mm]? = some id) := ⟨by rw [List.getElem?_eq_getElem hlt2, hid]⟩
        have HLT2 := Aside0.mk hlt2
        clear hid hlt2
        have HNO : Aside0 (metB l0 (kk : Int) id = false → r = false) := ⟨fun h => by
          rw [← HR.out]
          refine areT_no HLT.out ?_
          unfold okT
          rw [HX.out, Bool.and_eq_false_iff]
          right
          rw [List.all_eq_false]
          exact ⟨id, List.mem_of_getElem? HID.out, by rw [h]; simp⟩⟩
        have hr_ := findT_range l0 id
        have hfid_ := @findT_id l0 id
        have HMET : Aside0 (metB l0 (kk : Int) id = decide (0 ≤ findT l0 id ∧ findT l0 id ≠ kk ∧ (((rdT l0 (findT l0 id)).f5.count x.f0 : Nat) : Int) = ((x.f5.count id : Nat) : Int))) := ⟨by unfold metB; rw [HX.out]⟩
        have HSELF : Aside0 (id = x.f0 → findT l0 id = kk) := ⟨fun h => by rw [h, ← HX.out]; exact findT_self (asc_of HOK.out HROW.out) HLT.out⟩
        have hF : ∀ W, Below w.heap.size w W → Calls Try.prog 30 #[.slice (some ad) l0.length c0, .int .i64 id] W fun e w' => e = .returned (.int .i64 (findT l0 id)) ∧ Below W.heap.size W w' := fun W hW => impl_FindTeam.calls (some ad) c0 l0 id _ W (Kd.C_below HR0.out hW) HC0.out (iFindTeam_eq l0 id)
        generalize findT l0 id = f at hr_ hfid_ HMET HSELF hF
        have HF := Aside0.mk hF
        have hF := HF.out
        obtain ⟨⟨hz0, hz1, hz2, hz3, hz4, hz5⟩, _⟩ := cells6 HBX2.out
        by_cases hf : f < 0
        · have hfb : (f < 0) = True := eq_true hf
          have HR1 : Aside0 (r = false) := ⟨HNO.out (by rw [HMET.out]; exact decide_eq_false (fun h => by omega))⟩
          clear hf hr_ hfid_ HF
          go_wp2_with (go_at_call 30; refine (hF _ ?hw).mono ?_; (case hw => (repeat (first | exact HB9.out | apply pw_below_drewN | apply below_drew1))); rintro e w10 ⟨rfl, hb10⟩; have HB10 := Aside0.mk (below_step (by repeat (first | exact HB9.out | apply pw_below_drewN | apply below_drew1)) hb10); have HBX3 := Aside0.mk (blk_below (by repeat (first | exact HBX2.out | refine blk_drewN ?_ _ | refine blk_drew ?_)) hb10); clear hb10 hz0 hz1 hz2 hz3 hz4 hz5 hF; obtain ⟨⟨hz0, hz1, hz2, hz3, hz4, hz5⟩, _⟩ := cells6 HBX3.out)
          go_quiet (fail)
          go_wp2
          go_ret
          exact ⟨by rw [HR1.out]; rfl, pw_below_drewN HB10.out _⟩
        have hfb : (f < 0) = False := eq_false hf
        obtain ⟨fn, rfl⟩ : ∃ n : Nat, f = (n : Int) := ⟨f.toNat, by omega⟩
        have hfl : ((fn : Int) < (l0.length : Int)) = True := eq_true hr_.2
        have hy0 := hfid_ (by omega)
        by_cases hsame : id = x.f0
        · have hsb : (id == x.f0) = true := beq_iff_eq.mpr hsame
          have HR1 : Aside0 (r = false) := ⟨HNO.out (by rw [HMET.out]; exact decide_eq_false (fun h => h.2.1 (HSELF.out hsame)))⟩
          clear hf hr_ hfid_ HF hsame hy0
          go_wp2_with (go_at_call 30; refine (hF _ ?hw).mono ?_; (case hw => (repeat (first | exact HB9.out | apply pw_below_drewN | apply below_drew1))); rintro e w10 ⟨rfl, hb10⟩; have HB10 := Aside0.mk (below_step (by repeat (first | exact HB9.out | apply pw_below_drewN | apply below_drew1)) hb10); have HBX3 := Aside0.mk (blk_below (by repeat (first | exact HBX2.out | refine blk_drewN ?_ _ | refine blk_drew ?_)) hb10); clear hb10 hz0 hz1 hz2 hz3 hz4 hz5 hF; obtain ⟨⟨hz0, hz1, hz2, hz3, hz4, hz5⟩, _⟩ := cells6 HBX3.out)
          go_quiet (fail)
          go_wp2
          go_ret
          exact ⟨by rw [HR1.out]; rfl, pw_below_drewN HB10.out _⟩
        have hsb : (id == x.f0) = false := beq_false_of_ne hsame
        have HNS : Aside0 ((fn : Int) ≠ kk) := ⟨fun h => hsame (by have h1 := HSELF.out; rw [← hy0]; have := HX.out; rw [show ((fn : Nat) : Int) = (kk : Int) from h]; rw [this])⟩
        have HFN : Aside0 (fn < l0.length) := ⟨by omega⟩
        obtain ⟨ad2, A6, c6, e6, hat2, hl6, hi6⟩ := tmAt_of HR0.out fn HFN.out
        cases e6
        have hy5 : (rdT l0 (fn : Int)).f5.length ≤ 1099511627776 := HS.out.2 _ (rdTm_mem (by omega) (by omega))
        obtain ⟨y, hy⟩ : ∃ y, rdT l0 (fn : Int) = y := ⟨_, rfl⟩
        rw [hy] at hat2 hl6 hi6 hy0 HMET hy5
        have HAT2 := Aside0.mk hat2
        have HY0 := Aside0.mk hy0
        obtain ⟨k1, hk1⟩ := impl_timesex x.f5 id HX5.out
        obtain ⟨k2, hk2⟩ := impl_timesex y.f5 x.f0 hy5
        have hT1 : ∀ W, Below w.heap.size w W → Calls Try.prog 31 #[.slice (some a5) x.f5.length c5, .int .i64 id] W fun e w' => e = .returned (.int .i64 ((x.f5.count id : Nat) : Int)) ∧ Drawn0 W w' := fun W hW => impl_times.calls k1 (some a5) c5 x.f5 id _ W (HI6.out W hW) HL5.out hk1
        have hT2 : ∀ W, Below w.heap.size w W → Calls Try.prog 31 #[.slice A6 y.f5.length c6, .int .i64 x.f0] W fun e w' => e = .returned (.int .i64 ((y.f5.count x.f0 : Nat) : Int)) ∧ Drawn0 W w' := fun W hW => impl_times.calls k2 A6 c6 y.f5 x.f0 _ W (Kd.C_below hi6 hW) hl6 hk2
        clear hf hr_ hfid_ HF hsame hy0 hy hat2 hl6 hy5 hk1 hk2
        generalize x.f5.count id = n1 at hT1 HMET
        generalize y.f5.count x.f0 = n2 at hT2 HMET
        by_cases hn : n2 = n1
        rotate_left
        · have hnb : ((n1 : Int) != (n2 : Int)) = true := bne_iff_ne.mpr (by omega)
          have hnb2 : ((n2 : Int) != (n1 : Int)) = true := bne_iff_ne.mpr (by omega)
          have HR1 : Aside0 (r = false) := ⟨HNO.out (by rw [HMET.out]; exact decide_eq_false (fun h => hn (by omega)))⟩
          clear hn
          go_wp2_with (go_at_call 30; refine (hF _ ?hw).mono ?_; (case hw => (repeat (first | exact HB9.out | apply pw_below_drewN | apply below_drew1))); rintro e w10 ⟨rfl, hb10⟩; have HB10 := Aside0.mk (below_step (by repeat (first | exact HB9.out | apply pw_below_drewN | apply below_drew1)) hb10); have HBX3 := Aside0.mk (blk_below (by repeat (first | exact HBX2.out | refine blk_drewN ?_ _ | refine blk_drew ?_)) hb10); clear hb10 hz0 hz1 hz2 hz3 hz4 hz5 hF; obtain ⟨⟨hz0, hz1, hz2, hz3, hz4, hz5⟩, _⟩ := cells6 HBX3.out)
          obtain ⟨y0, _, _, _, _, y5⟩ := HAT2.out.below HB10.out
          rw [HY0.out] at y0
          go_quiet ((go_at_call 31; (with_reducible first | refine (hT1 _ ?hw).mono ?_ | refine (hT2 _ ?hw).mono ?_); (case hw => exact pw_below_drewN HB10.out _); rintro e w' ⟨rfl, nd, rfl⟩; exact ⟨rfl, _, World.drewN_drewN ..⟩))
          go_wp2
          go_ret
          exact ⟨by rw [HR1.out]; rfl, pw_below_drewN HB10.out _⟩
        have hnb : ((n1 : Int) != (n2 : Int)) = false := bne_eq_false_iff_eq.mpr (by omega)
        have hnb2 : ((n2 : Int) != (n1 : Int)) = false := bne_eq_false_iff_eq.mpr (by omega)
        have HYES : Aside0 (metB l0 (kk : Int) id = true) := ⟨by rw [HMET.out]; exact decide_eq_true ⟨by omega, HNS.out, by omega⟩⟩
        clear hn
        go_wp2_with (go_at_call 30; refine (hF _ ?hw).mono ?_; (case hw => (repeat (first | exact HB9.out | apply pw_below_drewN | apply below_drew1))); rintro e w10 ⟨rfl, hb10⟩; have HB10 := Aside0.mk (below_step (by repeat (first | exact HB9.out | apply pw_below_drewN | apply below_drew1)) hb10); have HBX3 := Aside0.mk (blk_below (by repeat (first | exact HBX2.out | refine blk_drewN ?_ _ | refine blk_drew ?_)) hb10); clear hb10 hz0 hz1 hz2 hz3 hz4 hz5 hF; obtain ⟨⟨hz0, hz1, hz2, hz3, hz4, hz5⟩, _⟩ := cells6 HBX3.out)
        obtain ⟨y0, _, _, _, _, y5⟩ := HAT2.out.below HB10.out
        rw [HY0.out] at y0
        go_quiet ((go_at_call 31; (with_reducible first | refine (hT1 _ ?hw).mono ?_ | refine (hT2 _ ?hw).mono ?_); (case hw => exact pw_below_drewN HB10.out _); rintro e w' ⟨rfl, nd, rfl⟩; exact ⟨rfl, _, World.drewN_drewN ..⟩))
        go_wp2
        go_roundg (x.f5.length - (mm + 1))
        case measure => have := HI2.out; have := HLT2.out; omega
        case rel =>
          have hw : wrap64 ((mm : Int) + 1) = ((mm + 1 : Nat) : Int) := by have := HLT2.out; have := HX5.out; unfold wrap64; omega
          refine ⟨mm + 1, by rw [hw], ⟨by have := HLT2.out; omega⟩, ⟨fun j hj hjn => ?_⟩, ⟨blk_drewN HBX3.out _⟩, ⟨pw_below_drewN HB10.out _⟩⟩
          by_cases e : j = mm
          · subst e
            rw [(List.getElem?_eq_some_iff.1 HID.out).2]
            exact HYES.out
          · exact HOK2.out j hj (by omega)
end Go.Proofs.Ytieglenodannmaa.A
end

section
set_option linter.unusedVariables false
set_option linter.unusedSimpArgs false
namespace Go.Proofs.Ytieglenodannmaa.A
open Go.RowKit Go.Proofs.YtieglenodannmaaW.PrintWords Go.Proofs.YtieglenodannmaaW.PrintLast Go.Proofs.YtieglenodannmaaW.PrintMore Go.Shelf Go.Sort
theorem CloneT_none (n c : Nat) (w : World) : Calls Try.prog 18 #[.slice none n c] w fun e w' => e = .returned (.slice none 0 0) ∧ w' = w := by
  have q41 : ∀ (w : World) (a : Option Addr) (n c n' c' : Nat), (binOp .eql 26 (.slice a n c) (.slice none n' c')).run Try.prog w = .ok (.bool a.isNone) w := fun w a n c n' c' => hkT_nil
  go_enter Try.func18, Try.ntmps18
  go_wp2
  go_ret
  exact ⟨rfl, rfl⟩
theorem SortFunc_none (w : World) : Calls Try.prog 19 #[.slice none 0 0, .func (.func 20) #[] #[]] w fun e w' => e = .returned (.tuple #[]) ∧ w' = w :=
  AnyF.slices_SortFunc_none { Try.sortT with } none 0 (.func (.func 20) #[] #[]) w
def RowT (W : World) (g : Nat) (d : Array TmA) : Prop := g < W.heap.size ∧ ∀ (i : Nat) (hi : i < d.size) (j : Nat) (u : Value), (d[i].cells)[j]? = some u → W.cell? ⟨g, i * 6 + j, none⟩ = some u
theorem RowT.step {W W' : World} {g : Nat} {d : Array TmA} (h : RowT W g d) (hs : W.heap.size ≤ W'.heap.size) (he : W'.heap[g]? = W.heap[g]?) : RowT W' g d :=
  ⟨Nat.lt_of_lt_of_le h.1 hs, fun i hi j u hu => by
    have := h.2 i hi j u hu
    simpa [World.cell?, he] using this⟩
def impl_Standing.f (k : Nat) (l0 : List S38) : Option (List Int) := (impl_AreTeams.f k l0).bind fun b => if b = true then (if l0.length ≤ 12 then some ((ordT l0).map (fun t => t.f0)) else none) else some []
set_option maxHeartbeats 4000000 in
set_option maxRecDepth 100000 in
theorem impl_Standing.calls (k : Nat) (A0 : Option Addr) (c0 : Nat) (l0 : List S38) (r : List Int) (w : World) (hr0 : Kd.C k38 w A0 l0.length l0) (hc0 : l0.length ≤ c0) (h : impl_Standing.f k l0 = some r) :
    Calls Try.prog 7 #[.slice A0 l0.length c0] w fun e w' => ∃ v0_, e = .returned v0_ ∧ Kd.R (Kd.int .i64) 3 w' w.heap.size (fun _ => True) v0_ r ∧ Below w.heap.size w w' := by
  unfold impl_Standing.f at h
  replace h := Option.bind_eq_some_iff.mp h
  obtain ⟨b, hb, h⟩ := h
  have hA := fun W hW => impl_AreTeams.calls k A0 c0 l0 b W (Kd.C_below hr0 hW) hc0 hb
  have HA := Aside0.mk hA
  have HR0 := Aside0.mk hr0
  clear hA hr0 hb
  cases b with
  | false =>
    rw [if_neg (by simp)] at h
    obtain rfl := Option.some.inj h
    clear h
    go_enter Try.func7, Try.ntmps7
    go_wp2_with (go_at_call 17; refine (HA.out _ ?hb1).mono ?_; (case hb1 => exact below_alloc (Below.refl _ _) _); rintro e w' ⟨rfl, hb'⟩)
    go_ret
    refine ⟨_, rfl, ?_, (below_alloc (Below.refl _ w) _).trans (hb'.mono (by simp))⟩
    exact Kd.R_below (Kd.R_of_own (World.ownsRow_made w #[] 0 (Nat.le_refl _) (Nat.zero_le _) rfl) (fun _ _ => trivial)) hb'
  | true =>
    rw [if_pos rfl] at h
    by_cases hl : l0.length ≤ 12
    rotate_left
    · rw [if_neg hl] at h
      cases h
    rw [if_pos hl] at h
    obtain rfl := Option.some.inj h
    clear h
    have HL := Aside0.mk hl
    clear hl
    cases A0 with
    | none =>
      have hl0 : l0 = [] := by
        rcases Nat.eq_zero_or_pos l0.length with h0 | h0
        · exact List.eq_nil_of_length_eq_zero h0
        · obtain ⟨ad, e, _⟩ := HR0.out.2.2 h0
          cases e
      subst hl0
      have hC := CloneT_none
      have hS := SortFunc_none
      go_enter Try.func7, Try.ntmps7
      go_wp2_with (first | (go_at_call 17; refine (HA.out _ ?hb1).mono ?_; (case hb1 => exact below_alloc (Below.refl _ _) _); rintro e w' ⟨rfl, hb'⟩; have HB := Aside0.mk hb'; clear hb') | (go_at_call 18; refine (hC _ _ _).mono ?_; rintro e w2 ⟨rfl, rfl⟩) | (go_at_call 19; refine (hS _).mono ?_; rintro e w3 ⟨rfl, rfl⟩))
      refine wp_loop_rounds 1 ?_
      rw [rounds_succ]
      go_wp2
      go_ret
      have e0 : (ordT ([] : List S38)).map (fun t => t.f0) = [] := by simp [ordT]
      rw [e0]
      refine ⟨_, rfl, ?_, (below_alloc (Below.refl _ w) _).trans (HB.out.mono (by simp))⟩
      exact Kd.R_below (Kd.R_of_own (World.ownsRow_made w #[] 0 (Nat.le_refl _) (Nat.zero_le _) rfl) (fun _ _ => trivial)) HB.out
    | some ad =>
      have hC := fun W hW => CloneT_calls ad c0 l0 W (Kd.C_below HR0.out hW) HL.out
      have hS := SortFunc_calls
      go_enter Try.func7, Try.ntmps7
      go_wp2_with (first | (go_at_call 17; refine (HA.out _ ?hb1).mono ?_; (case hb1 => exact below_alloc (Below.refl _ _) _); rintro e w1 ⟨rfl, hb'⟩; have HB := Aside0.mk ((below_alloc (Below.refl _ w) _).trans (hb'.mono (by simp)) : Below w.heap.size w w1); have HO := Aside0.mk (Kd.R_below (Kd.R_of_own (ok := fun _ => True) (e := 3) (enc := Value.int .i64) (h1 := fun _ => rfl) (xs := []) (World.ownsRow_made w #[] 0 (Nat.le_refl _) (Nat.zero_le _) rfl) (fun _ _ => trivial)) hb'); have HW1 := Aside0.mk (Nat.lt_of_lt_of_le (by simp : w.heap.size < (w.alloc (.cells #[] 3)).heap.size) hb'.size); clear hb') | (go_at_call 18; refine (hC _ HB.out).mono ?_; rintro e w2 ⟨g, cap, d, rfl, hds, hdk, hH, hg1, hg2, hb2⟩; have H2 := Aside0.mk hb2; have HK := Aside0.mk hdk; have HD := Aside0.mk hds; have HG := Aside0.mk hg1; have HH := Aside0.mk hH; have HG2 := Aside0.mk hg2; clear hb2 hdk hds hg1 hH hg2) | (go_at_call 19; refine (hS _ _ _ _ HH.out HG2.out (by rw [HD.out]; exact HL.out)).mono ?_; rintro e w3 ⟨rfl, d', n, os, hp, hs, hw3⟩; have HP := Aside0.mk hp; have HS := Aside0.mk hs; have HW3 := Aside0.mk hw3; clear hp hs hw3))
      have HR := Aside0.mk (sorted_ids HK.out HP.out HS.out)
      have hsz : d'.size = d.size := HP.out.1
      have HSZ := Aside0.mk (hsz.trans HD.out)
      have hb3 : Below w1.heap.size w1 w3 := by
        rw [HW3.out]
        exact sortW_below H2.out HG.out
      have HB3 := Aside0.mk (HB.out.trans (hb3.mono HB.out.size))
      have HO3 := Aside0.mk (Kd.R_below HO.out hb3)
      have HT3 : Aside0 (RowT w3 g d') := by
        refine ⟨?_, fun i hi j u hu => ?_⟩
        · rw [HW3.out]
          exact Nat.lt_of_lt_of_le HG2.out sortW_size
        · rw [HW3.out]
          have hj : j < 6 := (List.getElem?_eq_some_iff.1 hu).1
          have := (holdsK_sortWorldK_c TmA.cells 6 w2 g 0 d d' n os HH.out HG2.out hsz).cell hi hj
          rw [Nat.zero_add] at this
          have e1 : (TmA.cells d'[i]!)[j]! = u := by
            rw [getElem!_pos d' i hi, getElem!_pos _ j hj]
            exact (List.getElem?_eq_some_iff.1 hu).2
          rw [e1] at this
          exact this.1
      have hne : (Value.slice (some ⟨w.heap.size, 0, none⟩) 0 0).ownBlock ≠ some g := by
        simp only [Value.ownBlock, ne_eq, Option.some.injEq]
        have := HW1.out
        have := HG.out
        omega
      have HE := Aside0.mk hne
      clear hb3 hsz hne HW3 HH HO HB H2 HP HS HK hS hC
      go_loopg [3, 6, 18] d.size (fun gg v3 _ v18 wr => ∃ (kk : Nat), v18 = .int .i64 kk ∧ Aside0 (kk ≤ d.size ∧ d.size - kk ≤ gg) ∧ Aside0 (Kd.R (Kd.int .i64) 3 wr w.heap.size (fun _ => True) v3 ((d'.toList.map (fun x => x.f0)).take kk)) ∧ Aside0 (v3.ownBlock ≠ some g) ∧ Aside0 (RowT wr g d') ∧ Aside0 (Below w.heap.size w wr))
      case atStart => exact ⟨0, rfl, ⟨by omega⟩, HO3, HE, HT3, HB3⟩
      case round =>
        obtain ⟨kk, rfl, HI, HO, HE, HT, HB⟩ := hrel
        by_cases hlt : kk < d.size
        · have hltb : ((kk : Int) < (d.size : Int)) = True := eq_true (by omega)
          have hlt' : kk < d'.size := by rw [HSZ.out, ← HD.out]; exact hlt
          have HLT := Aside0.mk hlt
          have HLT' := Aside0.mk hlt'
          obtain ⟨x, hx⟩ : ∃ x, d'[kk] = x := ⟨_, rfl⟩
          have HX : Aside0 (d'[kk]? = some x) := ⟨by rw [← hx]; exact Array.getElem?_eq_getElem hlt'⟩
          have hc := HT.out.2 kk hlt'
          rw [hx] at hc
          have x0 : wr.cell? ⟨g, kk * 6, none⟩ = some (.int .i64 x.f0) := hc 0 _ rfl
          have x1 : wr.cell? ⟨g, kk * 6 + 1, none⟩ = some (.int .i64 x.f1) := hc 1 _ rfl
          have x2 : wr.cell? ⟨g, kk * 6 + 2, none⟩ = some (.int .i64 x.f2) := hc 2 _ rfl
          have x3 : wr.cell? ⟨g, kk * 6 + 3, none⟩ = some (.int .i64 x.f3) := hc 3 _ rfl
          have x4 : wr.cell? ⟨g, kk * 6 + 4, none⟩ = some (.int .i64 x.f4) := hc 4 _ rfl
          have x5 : wr.cell? ⟨g, kk * 6 + 5, none⟩ = some (.slice x.A x.n x.c) := hc 5 _ rfl
          clear hc hx hlt hlt'
          obtain ⟨ys, hys⟩ : ∃ ys, ys = (d'.toList.map (fun x => x.f0)).take kk := ⟨_, rfl⟩
          have HY := Aside0.mk hys
          have HO2 := HO.out
          rw [← hys] at HO2
          have HYL : Aside0 (ys.length ≤ 12) := ⟨by have := HLT.out; have := HD.out; have := HL.out; rw [hys]; simp; omega⟩
          clear hys HO
          have HO := Aside0.mk HO2
          clear HO2
          obtain ⟨A3, c3, e3⟩ := Kd.R_slice HO.out
          subst e3
          have hu38 := Try.underlying38
          have HW : Aside0 (wrap64 ((kk : Int) + 1) = ((kk + 1 : Nat) : Int)) := ⟨by have := HLT.out; have := HD.out; have := HL.out; unfold wrap64; omega⟩
          go_wp2_with (at_builtin; refine Kd.R_append (Kd.int .i64) (w0 := w) w.heap.size rfl (.tmp 22) (.tmp 25) 24 3 (.int .i64 0) 8 rfl Try.underlying24 (by kernel_rfl) rfl (by decide) (by omega) (.slice A3 ys.length c3) ys x.f0 [.int .i64 x.f0] (fun _ => True) (fun _ => False) rfl ?hx ?aP (fun _ h => h.elim) ?aF ?hO ?hB ?hs ?hl ?_; (case hx => exact congrArg (fun m => Value.slice (some ⟨m, 0, none⟩) 1 1) (by simp : wr.heap.size + 1 = (World.alloc _ _).heap.size)); (case aP => exact rfl); (case aF => exact fun _ _ => trivial); (case hO => exact Kd.R_alloc HO.out _); (case hB => exact below_alloc HB.out _); (case hs => exact Nat.le_trans HB.out.size (by simp)); (case hl => have := HYL.out; omega); intro v1 w4 hr hb hg hat; have H4 := Aside0.mk hr; have HB4 := Aside0.mk hb; have HG4 := Aside0.mk hg; have HAT := Aside0.mk hat; clear hr hb hg hat)
          go_roundg (d.size - (kk + 1))
          case measure => have := HI.out; have := HLT.out; omega
          case rel =>
            have hg := HT.out.1
            refine ⟨kk + 1, by rw [HW.out], ⟨by have := HLT.out; omega⟩, ⟨?_⟩, ⟨?_⟩, ⟨HT.out.step ?_ ?_⟩, HB4⟩
            · have e : (d'.toList.map (fun x => x.f0)).take (kk + 1) = (d'.toList.map (fun x => x.f0)).take kk ++ [x.f0] := by
                have hk : kk < (d'.toList.map (fun x => x.f0)).length := by simpa using HLT'.out
                rw [List.take_succ_eq_append_getElem hk]
                have := HX.out
                obtain ⟨_, hx⟩ := Array.getElem?_eq_some_iff.1 this
                simp [hx]
              rw [e, ← HY.out]
              exact H4.out
            · rcases HAT.out with e | ⟨b, e, hb⟩
              · rw [e]; exact HE.out
              · rw [e]
                simp only [ne_eq, Option.some.injEq]
                simp at hb
                omega
            · have := HG4.out.size
              simp at this
              omega
            · refine (HG4.out.block g (by simp; omega) (Ne.symm HE.out)).trans ?_
              exact heap_alloc_old _ _ hg
        · have hltb : ((kk : Int) < (d.size : Int)) = False := eq_false (by omega)
          have HLT := Aside0.mk hlt
          clear hlt
          go_wp2
          go_ret
          refine ⟨_, rfl, ?_, HB.out⟩
          have e : (d'.toList.map (fun x => x.f0)).take kk = (ordT l0).map (fun t => t.f0) := by
            rw [List.take_of_length_le (by have := HSZ.out; have := HD.out; have := HLT.out; simp; omega)]
            have := congrArg (List.map (fun k : K3 => k.2.2)) HR.out
            simpa [keyA, keyS, List.map_map, Function.comp_def] using this
          rw [← e]
          exact HO.out
end Go.Proofs.Ytieglenodannmaa.A
end

section
set_option linter.unusedVariables false
set_option linter.unusedSimpArgs false
namespace Go.Proofs.Ytieglenodannmaa.A
open Go.RowKit Go.Proofs.YtieglenodannmaaW.PrintWords Go.Proofs.YtieglenodannmaaW.PrintLast Go.Proofs.YtieglenodannmaaW.PrintMore Go.Shelf Go.Sort
def kTm : Kd TmA where
  sz := 6
  E := []
  K := fun _ x cs => cs = x.cells
  M := fun _ _ _ x cs => cs = x.cells
  K_len := fun h => by rw [h]; rfl
  K_one := fun {w x cs} h u hu => by
    rw [h] at hu
    simp only [TmA.cells, List.mem_cons, List.not_mem_nil, or_false] at hu
    rcases hu with rfl | rfl | rfl | rfl | rfl | rfl <;> rfl
  K_below := fun _ h => h
  K_of_M := fun h => h
  M_mono := fun _ h => h
  M_bound := fun h => h
  M_move := fun _ h => h
  M_lower := fun _ h => h
set_option maxHeartbeats 4000000 in
set_option maxRecDepth 100000 in
theorem Before_calls (x y : TmA) (W : World) : Calls Try.prog 15 #[.agg x.cells.toArray, .agg y.cells.toArray] W fun e w' => e = .returned (.bool (befK (keyA x) (keyA y))) ∧ Below W.heap.size W w' := by
  obtain ⟨x0, x1, x2, x3, x4, xA, xn, xc⟩ := x
  obtain ⟨y0, y1, y2, y3, y4, yA, yn, yc⟩ := y
  have hu38 := Try.underlying38
  show Calls Try.prog 15 #[.agg #[.int .i64 x0, .int .i64 x1, .int .i64 x2, .int .i64 x3, .int .i64 x4, .slice xA xn xc], .agg #[.int .i64 y0, .int .i64 y1, .int .i64 y2, .int .i64 y3, .int .i64 y4, .slice yA yn yc]] W fun e w' => e = .returned (.bool (befK (x2, x3, x0) (y2, y3, y0))) ∧ _
  have hb : ∀ o p : Obj, Below W.heap.size W ((W.alloc o).alloc p) := fun o p => below_alloc (below_alloc (Below.refl _ _) _) _
  by_cases h2 : x2 = y2
  · subst h2
    by_cases h3 : y3 < x3
    · have e : befK (x2, x3, x0) (x2, y3, y0) = true := befK_iff.2 (.inr ⟨rfl, .inl h3⟩)
      have hd : (y3 < x3) = True := eq_true h3
      rw [e]
      clear e h3
      go_enter Try.func15, Try.ntmps15
      go_wp2
      go_ret
      exact ⟨rfl, hb _ _⟩
    · by_cases h4 : x3 = y3
      · subst h4
        have e : befK (x2, x3, x0) (x2, x3, y0) = decide (x0 < y0) := by
          rw [Bool.eq_iff_iff, befK_iff, decide_eq_true_eq]
          simp
        rw [e]
        clear e h3
        go_enter Try.func15, Try.ntmps15
        go_wp2
        go_ret
        exact ⟨rfl, hb _ _⟩
      · have e : befK (x2, x3, x0) (x2, y3, y0) = false := by
          rw [Bool.eq_false_iff, Ne, befK_iff]
          simp; omega
        have hd : (y3 < x3) = False := eq_false h3
        have hd2 : (x3 = y3) = False := eq_false h4
        have hd3 : (x3 == y3) = false := beq_false_of_ne h4
        rw [e]
        clear e h3 h4
        go_enter Try.func15, Try.ntmps15
        go_wp2
        go_ret
        exact ⟨rfl, hb _ _⟩
  · have e : befK (x2, x3, x0) (y2, y3, y0) = decide (y2 < x2) := by
      rw [Bool.eq_iff_iff, befK_iff, decide_eq_true_eq]
      simp only
      omega
    have hd2 : (x2 = y2) = False := eq_false h2
    have hd3 : (x2 != y2) = true := bne_iff_ne.mpr h2
    rw [e]
    clear e h2
    go_enter Try.func15, Try.ntmps15
    go_wp2
    go_ret
    exact ⟨rfl, hb _ _⟩
end Go.Proofs.Ytieglenodannmaa.A
end

section
set_option linter.unusedVariables false
set_option linter.unusedSimpArgs false
namespace Go.Proofs.Ytieglenodannmaa.A
open Go.RowKit Go.Proofs.YtieglenodannmaaW.PrintWords Go.Proofs.YtieglenodannmaaW.PrintLast Go.Proofs.YtieglenodannmaaW.PrintMore Go.Shelf Go.Proofs.Ytieglenodannmaa.L
def spec_AreTeams.f (k : Nat) (l0 : List S38) : Option Bool := if smallT l0 = true then some (areT l0) else none
theorem spec_l19Countex (l : List Int) (x : Int) (hl : l.length ≤ 1099511627776) : ∃ k, spec_l19Count.f k l x = some ((l.count x : Nat) : Int) := by
  obtain ⟨k, h⟩ := l19Count_ev l x hl
  exact ⟨k, h k (Nat.le_refl _)⟩
set_option maxHeartbeats 16000000 in
set_option maxRecDepth 100000 in
theorem spec_AreTeams.calls (k : Nat) (A0 : Option Addr) (c0 : Nat) (l0 : List S38) (r : Bool) (w : World) (hr0 : Kd.C k38 w A0 l0.length l0) (hc0 : l0.length ≤ c0) (h : spec_AreTeams.f k l0 = some r) :
    Calls Try.prog 14 #[.slice A0 l0.length c0] w fun e w' => e = .returned (.bool r) ∧ Below w.heap.size w w' := by
  unfold spec_AreTeams.f at h
  by_cases hs : smallT l0 = true
  rotate_left
  · rw [if_neg hs] at h
    cases h
  rw [if_pos hs] at h
  have hr := Option.some.inj h
  have hsm := small_of hs
  clear h hs
  have hu38 := Try.underlying38
  have HR0 := Aside0.mk hr0
  have HC0 := Aside0.mk hc0
  have HR := Aside0.mk hr
  have HS := Aside0.mk hsm
  clear hr0 hc0 hr hsm
  go_enter Try.func14, Try.ntmps14
  go_wp2
  go_loopg [3] l0.length (fun gg v3 wr => ∃ kk : Nat, v3 = .int .i64 kk ∧ Aside0 (kk ≤ l0.length ∧ l0.length - kk ≤ gg) ∧ Aside0 (∀ j : Nat, j < kk → okT l0 j = true) ∧ Aside0 (Below w.heap.size w wr))
  case atStart => exact ⟨0, rfl, ⟨by omega⟩, ⟨fun j hj => by omega⟩, ⟨Below.refl _ w⟩⟩
  case round =>
    obtain ⟨kk, rfl, HI, HOK, HB⟩ := hrel
    by_cases hlt : kk < l0.length
    rotate_left
    · have hltb : ((kk : Int) < (l0.length : Int)) = False := eq_false (by omega)
      have HR1 : Aside0 (r = decide (l0.length ≤ 10)) := ⟨by
        rw [← HR.out]
        by_cases h10 : l0.length ≤ 10
        · rw [decide_eq_true h10]
          exact areT_yes h10 (fun i hi => HOK.out i (by omega))
        · rw [decide_eq_false h10]
          exact areT_big h10⟩
      clear hlt
      go_wp2
      go_ret
      exact ⟨by rw [HR1.out]; simp; omega, HB.out⟩
    have hltb : ((kk : Int) < (l0.length : Int)) = True := eq_true (by omega)
    obtain ⟨ad, A5, c5, e0, hat, hl5, hi5⟩ := tmAt_of HR0.out kk hlt
    subst e0
    obtain ⟨x0, x1, x2, x3, x4, x5⟩ := hat.below HB.out
    clear hat
    obtain ⟨x, hx⟩ : ∃ x, rdT l0 (kk : Int) = x := ⟨_, rfl⟩
    rw [hx] at x0 x1 x2 x3 x4 x5 hl5 hi5
    have hx5 : x.f5.length ≤ 1099511627776 := by rw [← hx]; exact HS.out.2 _ (rdTm_mem (by omega) (by omega))
    have HX := Aside0.mk hx
    have HLT := Aside0.mk hlt
    have HL5 := Aside0.mk hl5
    have HX5 := Aside0.mk hx5
    have HI6 : Aside0 (∀ W, Below w.heap.size w W → Kd.C (Kd.int .i64) W A5 x.f5.length x.f5) := ⟨fun W h => Kd.C_below hi5 h⟩
    clear hx hlt hi5 hl5 hx5
    go_upto_region 5 with (first | ((with_reducible refine gate_dst (N := 4) rfl ?_); refine box_event ?hg (N := 4) ?hd (cs := #[.int .i64 0, .int .i64 0, .int .i64 0, .int .i64 0, .int .i64 0, .slice none 0 0]) (t := 38) ?hr ?_; (case hd => rfl); (case hg => rfl); (case hr => first | (go_simp; done) | (go_simp; rfl)); intro gb hg w7 hbox hb; have HBX := Aside0.mk hbox; have HG := Aside0.mk (show w.heap.size ≤ gb by rw [hg]; exact below_size (by repeat (first | exact HB.out | apply pw_below_drewN | apply below_drew1))); have HB7 := Aside0.mk (below_step (by repeat (first | exact HB.out | apply pw_below_drewN | apply below_drew1)) hb); clear hb hg; obtain ⟨⟨hz0, hz1, hz2, hz3, hz4, hz5⟩, hf0, hf1, hf2, hf3, hf4, hf5⟩ := cells6 hbox; clear hbox))
    try simp only [Act.put, Z1, Z2, Z3]
    obtain ⟨w8, e8, hbx, hb8⟩ := box6 HBX.out HB7.out HG.out (.int .i64 x.f0) (.int .i64 x.f1) (.int .i64 x.f2) (.int .i64 x.f3) (.int .i64 x.f4) (.slice A5 x.f5.length c5)
    rw [← e8]
    clear e8 hz0 hz1 hz2 hz3 hz4 hz5 hf0 hf1 hf2 hf3 hf4 hf5 x0 x1 x2 x3 x4 x5 HBX HB7
    have HBX := Aside0.mk hbx
    have HB8 := Aside0.mk hb8
    obtain ⟨⟨hz0, hz1, hz2, hz3, hz4, hz5⟩, _⟩ := cells6 hbx
    clear hbx hb8
    have hI : ∀ (a lo hi : Int) (b : Bool), inR a lo hi = b → ∀ W, Calls Try.prog 25 #[.int .i64 a, .int .i64 lo, .int .i64 hi] W fun e w' => e = .returned (.bool b) ∧ Drawn0 W w' := fun a lo hi b e W => spec_l1In.calls a lo hi b W (by rw [l1In_eq, e])
    obtain ⟨b1, hb1⟩ : ∃ b, inR x.f0 1 99 = b := ⟨_, rfl⟩
    obtain ⟨b2, hb2⟩ : ∃ b, inR x.f1 1 99 = b := ⟨_, rfl⟩
    obtain ⟨b3, hb3⟩ : ∃ b, inR x.f2 0 (x.f5.length : Int) = b := ⟨_, rfl⟩
    obtain ⟨b4, hb4⟩ : ∃ b, inR x.f4 0 (x.f5.length : Int) = b := ⟨_, rfl⟩
    obtain ⟨b5, hb5⟩ : ∃ b, inR x.f3 0 100000 = b := ⟨_, rfl⟩
    have hI1 := hI _ _ _ _ hb1
    have hI2 := hI _ _ _ _ hb2
    have hI3 := hI _ _ _ _ hb3
    have hI4 := hI _ _ _ _ hb4
    have hI5 := hI _ _ _ _ hb5
    have HE1 := Aside0.mk hb1
    have HE2 := Aside0.mk hb2
    have HE3 := Aside0.mk hb3
    have HE4 := Aside0.mk hb4
    have HE5 := Aside0.mk hb5
    clear hI hb1 hb2 hb3 hb4 hb5
    go_cut [71] (fun v71 wc => ∃ b : Bool, v71 = .bool b ∧ Aside0 (b = !rowT l0 (kk : Int)) ∧ Aside0 (wc.heap[gb]? = some (.cells #[.int .i64 x.f0, .int .i64 x.f1, .int .i64 x.f2, .int .i64 x.f3, .int .i64 x.f4, .slice A5 x.f5.length c5] 38 (0, 0))) ∧ Aside0 (Below w.heap.size w wc))
    case first =>
      cases b1 with
      | false =>
        have HRW : Aside0 (rowT l0 (kk : Int) = false) := ⟨row_no1 (by rw [HX.out]; exact HE1.out)⟩
        go_quiet ((go_at_call 25; (with_reducible first | refine (hI1 _).mono ?_ | refine (hI2 _).mono ?_ | refine (hI3 _).mono ?_ | refine (hI4 _).mono ?_ | refine (hI5 _).mono ?_); rintro e w' ⟨rfl, nd, rfl⟩; exact ⟨rfl, _, World.drewN_drewN ..⟩))
        try go_wp2
        go_meet
        case rel => exact ⟨true, rfl, ⟨by rw [HRW.out]; rfl⟩, ⟨blk_drewN HBX.out _⟩, ⟨pw_below_drewN HB8.out _⟩⟩
      | true =>
        cases b2 with
        | false =>
          have HRW : Aside0 (rowT l0 (kk : Int) = false) := ⟨row_no2 (by rw [HX.out]; exact HE2.out)⟩
          go_quiet ((go_at_call 25; (with_reducible first | refine (hI1 _).mono ?_ | refine (hI2 _).mono ?_ | refine (hI3 _).mono ?_ | refine (hI4 _).mono ?_ | refine (hI5 _).mono ?_); rintro e w' ⟨rfl, nd, rfl⟩; exact ⟨rfl, _, World.drewN_drewN ..⟩))
          try go_wp2
          go_meet
          case rel => exact ⟨true, rfl, ⟨by rw [HRW.out]; rfl⟩, ⟨blk_drewN HBX.out _⟩, ⟨pw_below_drewN HB8.out _⟩⟩
        | true =>
          cases b3 with
          | false =>
            have HRW : Aside0 (rowT l0 (kk : Int) = false) := ⟨row_no3 (by rw [HX.out]; exact HE3.out)⟩
            go_quiet ((go_at_call 25; (with_reducible first | refine (hI1 _).mono ?_ | refine (hI2 _).mono ?_ | refine (hI3 _).mono ?_ | refine (hI4 _).mono ?_ | refine (hI5 _).mono ?_); rintro e w' ⟨rfl, nd, rfl⟩; exact ⟨rfl, _, World.drewN_drewN ..⟩))
            try go_wp2
            go_meet
            case rel => exact ⟨true, rfl, ⟨by rw [HRW.out]; rfl⟩, ⟨blk_drewN HBX.out _⟩, ⟨pw_below_drewN HB8.out _⟩⟩
          | true =>
            cases b4 with
            | false =>
              have HRW : Aside0 (rowT l0 (kk : Int) = false) := ⟨row_no4 (by rw [HX.out]; exact HE4.out)⟩
              go_quiet ((go_at_call 25; (with_reducible first | refine (hI1 _).mono ?_ | refine (hI2 _).mono ?_ | refine (hI3 _).mono ?_ | refine (hI4 _).mono ?_ | refine (hI5 _).mono ?_); rintro e w' ⟨rfl, nd, rfl⟩; exact ⟨rfl, _, World.drewN_drewN ..⟩))
              try go_wp2
              go_meet
              case rel => exact ⟨true, rfl, ⟨by rw [HRW.out]; rfl⟩, ⟨blk_drewN HBX.out _⟩, ⟨pw_below_drewN HB8.out _⟩⟩
            | true =>
              cases b5 with
              | false =>
                have HRW : Aside0 (rowT l0 (kk : Int) = false) := ⟨row_no5 (by rw [HX.out]; exact HE5.out)⟩
                go_quiet ((go_at_call 25; (with_reducible first | refine (hI1 _).mono ?_ | refine (hI2 _).mono ?_ | refine (hI3 _).mono ?_ | refine (hI4 _).mono ?_ | refine (hI5 _).mono ?_); rintro e w' ⟨rfl, nd, rfl⟩; exact ⟨rfl, _, World.drewN_drewN ..⟩))
                try go_wp2
                go_meet
                case rel => exact ⟨true, rfl, ⟨by rw [HRW.out]; rfl⟩, ⟨blk_drewN HBX.out _⟩, ⟨pw_below_drewN HB8.out _⟩⟩
              | true =>
                by_cases h20 : 20 < (x.f5.length : Int)
                · have H20 := Aside0.mk h20
                  have hd20 : (20 < (x.f5.length : Int)) = True := eq_true h20
                  have hd20n : (20 < x.f5.length) = True := eq_true (by omega)
                  clear h20
                  have HRW : Aside0 (rowT l0 (kk : Int) = false) := ⟨row_no6 (by rw [HX.out]; exact H20.out)⟩
                  go_quiet ((go_at_call 25; (with_reducible first | refine (hI1 _).mono ?_ | refine (hI2 _).mono ?_ | refine (hI3 _).mono ?_ | refine (hI4 _).mono ?_ | refine (hI5 _).mono ?_); rintro e w' ⟨rfl, nd, rfl⟩; exact ⟨rfl, _, World.drewN_drewN ..⟩))
                  try go_wp2
                  go_meet
                  case rel => exact ⟨true, rfl, ⟨by rw [HRW.out]; rfl⟩, ⟨blk_drewN HBX.out _⟩, ⟨pw_below_drewN HB8.out _⟩⟩
                · have H20 := Aside0.mk h20
                  have hd20 : (20 < (x.f5.length : Int)) = False := eq_false h20
                  have hd20n : (20 < x.f5.length) = False := eq_false (by omega)
                  clear h20
                  by_cases hk0 : 0 < kk
                  rotate_left
                  · have hkb : (0 < (kk : Int)) = False := eq_false (by omega)
                    have hkbn : (0 < kk) = False := eq_false hk0
                    have HAS : Aside0 (0 < (kk : Int) → ¬ x.f0 ≤ (rdT l0 ((kk : Int) - 1)).f0) := ⟨fun h => by omega⟩
                    clear hk0
                    have HRW : Aside0 (rowT l0 (kk : Int) = true) := ⟨row_yes (by rw [HX.out]; exact HE1.out) (by rw [HX.out]; exact HE2.out) (by rw [HX.out]; exact HE3.out) (by rw [HX.out]; exact HE4.out) (by rw [HX.out]; exact HE5.out) (by rw [HX.out]; exact H20.out) (by rw [HX.out]; exact HAS.out)⟩
                    go_quiet ((go_at_call 25; (with_reducible first | refine (hI1 _).mono ?_ | refine (hI2 _).mono ?_ | refine (hI3 _).mono ?_ | refine (hI4 _).mono ?_ | refine (hI5 _).mono ?_); rintro e w' ⟨rfl, nd, rfl⟩; exact ⟨rfl, _, World.drewN_drewN ..⟩))
                    try go_wp2
                    go_meet
                    case rel => exact ⟨false, rfl, ⟨by rw [HRW.out]; rfl⟩, ⟨blk_drewN HBX.out _⟩, ⟨pw_below_drewN HB8.out _⟩⟩
                  have hkb : (0 < (kk : Int)) = True := eq_true (by omega)
                  have hkbn : (0 < kk) = True := eq_true hk0
                  obtain ⟨m, hm⟩ : ∃ m : Nat, (kk : Int) - 1 = (m : Int) := ⟨kk - 1, by omega⟩
                  obtain ⟨ad2, A52, c52, e2, ⟨y0, _⟩, _⟩ := tmAt_of (Kd.C_below HR0.out HB8.out) m (by have := HLT.out; omega)
                  cases e2
                  obtain ⟨q, hq⟩ : ∃ q, (rdT l0 (m : Int)).f0 = q := ⟨_, rfl⟩
                  rw [hq] at y0
                  have hwk : IntKind.i64.wrap ((kk : Int) - 1) = (m : Int) := by rw [hm, IntKind.wrap_i64]; have := HLT.out; have := HS.out.1; omega
                  have hwk2 : wrap64 ((kk : Int) - 1) = (m : Int) := (i64_w _).symm.trans hwk
                  have hml : ((m : Int) < (l0.length : Int)) = True := eq_true (by have := HLT.out; omega)
                  have HQ : Aside0 ((rdT l0 ((kk : Int) - 1)).f0 = q) := ⟨by rw [hm]; exact hq⟩
                  clear hm hq hk0
                  by_cases has : x.f0 ≤ q
                  · have HAS := Aside0.mk has
                    have hab : (x.f0 ≤ q) = True := eq_true has
                    clear has
                    have HRW : Aside0 (rowT l0 (kk : Int) = false) := ⟨row_no7 (of_eq_true hkb) (by rw [HX.out, HQ.out]; exact HAS.out)⟩
                    go_quiet ((go_at_call 25; (with_reducible first | refine (hI1 _).mono ?_ | refine (hI2 _).mono ?_ | refine (hI3 _).mono ?_ | refine (hI4 _).mono ?_ | refine (hI5 _).mono ?_); rintro e w' ⟨rfl, nd, rfl⟩; exact ⟨rfl, _, World.drewN_drewN ..⟩))
                    try go_wp2
                    go_meet
                    case rel => exact ⟨true, rfl, ⟨by rw [HRW.out]; rfl⟩, ⟨blk_drewN HBX.out _⟩, ⟨pw_below_drewN HB8.out _⟩⟩
                  · have HAS : Aside0 (0 < (kk : Int) → ¬ x.f0 ≤ (rdT l0 ((kk : Int) - 1)).f0) := ⟨fun _ => by rw [HQ.out]; exact has⟩
                    have hab : (x.f0 ≤ q) = False := eq_false has
                    clear has
                    have HRW : Aside0 (rowT l0 (kk : Int) = true) := ⟨row_yes (by rw [HX.out]; exact HE1.out) (by rw [HX.out]; exact HE2.out) (by rw [HX.out]; exact HE3.out) (by rw [HX.out]; exact HE4.out) (by rw [HX.out]; exact HE5.out) (by rw [HX.out]; exact H20.out) (by rw [HX.out]; exact HAS.out)⟩
                    go_quiet ((go_at_call 25; (with_reducible first | refine (hI1 _).mono ?_ | refine (hI2 _).mono ?_ | refine (hI3 _).mono ?_ | refine (hI4 _).mono ?_ | refine (hI5 _).mono ?_); rintro e w' ⟨rfl, nd, rfl⟩; exact ⟨rfl, _, World.drewN_drewN ..⟩))
                    try go_wp2
                    go_meet
                    case rel => exact ⟨false, rfl, ⟨by rw [HRW.out]; rfl⟩, ⟨blk_drewN HBX.out _⟩, ⟨pw_below_drewN HB8.out _⟩⟩
    case rest =>
      clear hI1 hI2 hI3 hI4 hI5 hz0 hz1 hz2 hz3 hz4 hz5 HE1 HE2 HE3 HE4 HE5 HBX HB8
      obtain ⟨b, rfl, HBV, HBX, HB8⟩ := hcut
      by_cases hrow : rowT l0 (kk : Int) = true
      rotate_left
      · obtain rfl : b = true := by rw [HBV.out, Bool.eq_false_iff.mpr hrow]; rfl
        have HR1 : Aside0 (r = false) := ⟨by
          rw [← HR.out]
          exact areT_no HLT.out (by unfold okT; rw [Bool.eq_false_iff.mpr hrow, Bool.false_and])⟩
        clear hrow
        go_wp2
        go_ret
        exact ⟨by rw [HR1.out]; rfl, HB8.out⟩
      obtain rfl : b = false := by rw [HBV.out, hrow]; rfl
      have HROW := Aside0.mk hrow
      clear hrow
      obtain ⟨⟨hz0, hz1, hz2, hz3, hz4, hz5⟩, _⟩ := cells6 HBX.out
      go_wp2
      go_loopg [5] x.f5.length (fun gg v5 wr => ∃ mm : Nat, v5 = .int .i64 mm ∧ Aside0 (mm ≤ x.f5.length ∧ x.f5.length - mm ≤ gg) ∧ Aside0 (∀ (j : Nat) (hj : j < x.f5.length), j < mm → metB l0 (kk : Int) x.f5[j] = true) ∧ Aside0 (wr.heap[gb]? = some (.cells #[.int .i64 x.f0, .int .i64 x.f1, .int .i64 x.f2, .int .i64 x.f3, .int .i64 x.f4, .slice A5 x.f5.length c5] 38 (0, 0))) ∧ Aside0 (Below w.heap.size w wr))
      case atStart => exact ⟨0, rfl, ⟨by omega⟩, ⟨fun j _ hj => by omega⟩, HBX, HB8⟩
      case round =>
        obtain ⟨mm, rfl, HI2, HOK2, HBX2, HB9⟩ := hrel
        clear hz0 hz1 hz2 hz3 hz4 hz5 HBX HB8
        by_cases hlt2 : mm < x.f5.length
        rotate_left
        · have hltb2 : ((mm : Int) < (x.f5.length : Int)) = False := eq_false (by omega)
          have HOKK : Aside0 (okT l0 (kk : Int) = true) := ⟨by
            unfold okT
            rw [HROW.out, Bool.true_and, HX.out, List.all_eq_true]
            intro id hid
            obtain ⟨j, hj, rfl⟩ := List.mem_iff_getElem.1 hid
            exact HOK2.out j hj (by omega)⟩
          obtain ⟨⟨hz0, hz1, hz2, hz3, hz4, hz5⟩, _⟩ := cells6 HBX2.out
          clear hlt2
          go_wp2
          go_roundg (l0.length - (kk + 1))
          case measure => have := HI.out; have := HLT.out; omega
          case rel =>
            have hw : wrap64 ((kk : Int) + 1) = ((kk + 1 : Nat) : Int) := by have := HLT.out; have := HS.out.1; unfold wrap64; omega
            refine ⟨kk + 1, by rw [hw], ⟨by have := HLT.out; omega⟩, ⟨fun j hj => ?_⟩, HB9⟩
            by_cases e : j = kk
            · subst e
              exact HOKK.out
            · exact HOK.out j (by omega)
        have hltb2 : ((mm : Int) < (x.f5.length : Int)) = True := eq_true (by omega)
        obtain ⟨a5, e5, hc5⟩ := atIntT (HI6.out _ HB9.out) mm hlt2
        subst e5
        obtain ⟨id, hid⟩ : ∃ id, x.f5[mm] = id := ⟨_, rfl⟩
        rw [hid] at hc5
        have HID : Aside0 (x.f5[mm]? = some id) := ⟨by rw [List.getElem?_eq_getElem hlt2, hid]⟩
        have HLT2 := Aside0.mk hlt2
        clear hid hlt2
        have HNO : Aside0 (metB l0 (kk : Int) id = false → r = false) := ⟨fun h => by
          rw [← HR.out]
          refine areT_no HLT.out ?_
          unfold okT
          rw [HX.out, Bool.and_eq_false_iff]
          right
          rw [List.all_eq_false]
          exact ⟨id, List.mem_of_getElem? HID.out, by rw [h]; simp⟩⟩
        have hr_ := findT_range l0 id
        have hfid_ := @findT_id l0 id
        have HMET : Aside0 (metB l0 (kk : Int) id = decide (0 ≤ findT l0 id ∧ findT l0 id ≠ kk ∧ (((rdT l0 (findT l0 id)).f5.count x.f0 : Nat) : Int) = ((x.f5.count id : Nat) : Int))) := ⟨by unfold metB; rw [HX.out]⟩
        have HSELF : Aside0 (id = x.f0 → findT l0 id = kk) := ⟨fun h => by rw [h, ← HX.out]; exact findT_self (asc_of HOK.out HROW.out) HLT.out⟩
        obtain ⟨k0_, hk0_⟩ := sFindTeam_ev l0 id HS.out.1
        have hF : ∀ W, Below w.heap.size w W → Calls Try.prog 26 #[.slice (some ad) l0.length c0, .int .i64 id] W fun e w' => e = .returned (.int .i64 (findT l0 id)) ∧ Below W.heap.size W w' := fun W hW => (spec_FindTeam.calls k0_ (some ad) c0 l0 id _ W (Kd.C_below HR0.out hW) HC0.out (hk0_ k0_ (Nat.le_refl _))).mono (by rintro e w' ⟨h, nd, rfl⟩; exact ⟨h, pw_below_drewN (Below.refl _ _) _⟩)
        clear hk0_
        generalize findT l0 id = f at hr_ hfid_ HMET HSELF hF
        have HF := Aside0.mk hF
        have hF := HF.out
        obtain ⟨⟨hz0, hz1, hz2, hz3, hz4, hz5⟩, _⟩ := cells6 HBX2.out
        by_cases hf : f < 0
        · have hfb : (f < 0) = True := eq_true hf
          have HR1 : Aside0 (r = false) := ⟨HNO.out (by rw [HMET.out]; exact decide_eq_false (fun h => by omega))⟩
          clear hf hr_ hfid_ HF
          go_wp2_with (go_at_call 26; refine (hF _ ?hw).mono ?_; (case hw => (repeat (first | exact HB9.out | apply pw_below_drewN | apply below_drew1))); rintro e w10 ⟨rfl, hb10⟩; have HB10 := Aside0.mk (below_step (by repeat (first | exact HB9.out | apply pw_below_drewN | apply below_drew1)) hb10); have HBX3 := Aside0.mk (blk_below (by repeat (first | exact HBX2.out | refine blk_drewN ?_ _ | refine blk_drew ?_)) hb10); clear hb10 hz0 hz1 hz2 hz3 hz4 hz5 hF; obtain ⟨⟨hz0, hz1, hz2, hz3, hz4, hz5⟩, _⟩ := cells6 HBX3.out)
          go_quiet (fail)
          go_wp2
          go_ret
          exact ⟨by rw [HR1.out]; rfl, pw_below_drewN HB10.out _⟩
        have hfb : (f < 0) = False := eq_false hf
        obtain ⟨fn, rfl⟩ : ∃ n : Nat, f = (n : Int) := ⟨f.toNat, by omega⟩
        have hfl : ((fn : Int) < (l0.length : Int)) = True := eq_true hr_.2
        have hy0 := hfid_ (by omega)
        by_cases hsame : (fn : Int) = (kk : Int)
        · have hsb : ((fn : Int) == (kk : Int)) = true := beq_iff_eq.mpr hsame
          have HR1 : Aside0 (r = false) := ⟨HNO.out (by rw [HMET.out]; exact decide_eq_false (fun h => h.2.1 hsame))⟩
          clear hf hr_ hfid_ HF hsame hy0
          go_wp2_with (go_at_call 26; refine (hF _ ?hw).mono ?_; (case hw => (repeat (first | exact HB9.out | apply pw_below_drewN | apply below_drew1))); rintro e w10 ⟨rfl, hb10⟩; have HB10 := Aside0.mk (below_step (by repeat (first | exact HB9.out | apply pw_below_drewN | apply below_drew1)) hb10); have HBX3 := Aside0.mk (blk_below (by repeat (first | exact HBX2.out | refine blk_drewN ?_ _ | refine blk_drew ?_)) hb10); clear hb10 hz0 hz1 hz2 hz3 hz4 hz5 hF; obtain ⟨⟨hz0, hz1, hz2, hz3, hz4, hz5⟩, _⟩ := cells6 HBX3.out)
          go_quiet (fail)
          go_wp2
          go_ret
          exact ⟨by rw [HR1.out]; rfl, pw_below_drewN HB10.out _⟩
        have hsb : ((fn : Int) == (kk : Int)) = false := beq_false_of_ne hsame
        have HNS : Aside0 ((fn : Int) ≠ kk) := ⟨hsame⟩
        have HFN : Aside0 (fn < l0.length) := ⟨by omega⟩
        obtain ⟨ad2, A6, c6, e6, hat2, hl6, hi6⟩ := tmAt_of HR0.out fn HFN.out
        cases e6
        have hy5 : (rdT l0 (fn : Int)).f5.length ≤ 1099511627776 := HS.out.2 _ (rdTm_mem (by omega) (by omega))
        obtain ⟨y, hy⟩ : ∃ y, rdT l0 (fn : Int) = y := ⟨_, rfl⟩
        rw [hy] at hat2 hl6 hi6 hy0 HMET hy5
        have HAT2 := Aside0.mk hat2
        have HY0 := Aside0.mk hy0
        obtain ⟨k1, hk1⟩ := spec_l19Countex x.f5 id HX5.out
        obtain ⟨k2, hk2⟩ := spec_l19Countex y.f5 x.f0 hy5
        have hT1 : ∀ W, Below w.heap.size w W → Calls Try.prog 27 #[.slice (some a5) x.f5.length c5, .int .i64 id] W fun e w' => e = .returned (.int .i64 ((x.f5.count id : Nat) : Int)) ∧ Drawn0 W w' := fun W hW => spec_l19Count.calls k1 (some a5) c5 x.f5 id _ W (HI6.out W hW) HL5.out hk1
        have hT2 : ∀ W, Below w.heap.size w W → Calls Try.prog 27 #[.slice A6 y.f5.length c6, .int .i64 x.f0] W fun e w' => e = .returned (.int .i64 ((y.f5.count x.f0 : Nat) : Int)) ∧ Drawn0 W w' := fun W hW => spec_l19Count.calls k2 A6 c6 y.f5 x.f0 _ W (Kd.C_below hi6 hW) hl6 hk2
        clear hf hr_ hfid_ HF hsame hy0 hy hat2 hl6 hy5 hk1 hk2
        generalize x.f5.count id = n1 at hT1 HMET
        generalize y.f5.count x.f0 = n2 at hT2 HMET
        by_cases hn : n2 = n1
        rotate_left
        · have hnb : ((n1 : Int) != (n2 : Int)) = true := bne_iff_ne.mpr (by omega)
          have hnb2 : ((n2 : Int) != (n1 : Int)) = true := bne_iff_ne.mpr (by omega)
          have HR1 : Aside0 (r = false) := ⟨HNO.out (by rw [HMET.out]; exact decide_eq_false (fun h => hn (by omega)))⟩
          clear hn
          go_wp2_with (go_at_call 26; refine (hF _ ?hw).mono ?_; (case hw => (repeat (first | exact HB9.out | apply pw_below_drewN | apply below_drew1))); rintro e w10 ⟨rfl, hb10⟩; have HB10 := Aside0.mk (below_step (by repeat (first | exact HB9.out | apply pw_below_drewN | apply below_drew1)) hb10); have HBX3 := Aside0.mk (blk_below (by repeat (first | exact HBX2.out | refine blk_drewN ?_ _ | refine blk_drew ?_)) hb10); clear hb10 hz0 hz1 hz2 hz3 hz4 hz5 hF; obtain ⟨⟨hz0, hz1, hz2, hz3, hz4, hz5⟩, _⟩ := cells6 HBX3.out)
          obtain ⟨y0, _, _, _, _, y5⟩ := HAT2.out.below HB10.out
          rw [HY0.out] at y0
          go_quiet ((go_at_call 27; (with_reducible first | refine (hT1 _ ?hw).mono ?_ | refine (hT2 _ ?hw).mono ?_); (case hw => exact pw_below_drewN HB10.out _); rintro e w' ⟨rfl, nd, rfl⟩; exact ⟨rfl, _, World.drewN_drewN ..⟩))
          go_wp2
          go_ret
          exact ⟨by rw [HR1.out]; rfl, pw_below_drewN HB10.out _⟩
        have hnb : ((n1 : Int) != (n2 : Int)) = false := bne_eq_false_iff_eq.mpr (by omega)
        have hnb2 : ((n2 : Int) != (n1 : Int)) = false := bne_eq_false_iff_eq.mpr (by omega)
        have HYES : Aside0 (metB l0 (kk : Int) id = true) := ⟨by rw [HMET.out]; exact decide_eq_true ⟨by omega, HNS.out, by omega⟩⟩
        clear hn
        go_wp2_with (go_at_call 26; refine (hF _ ?hw).mono ?_; (case hw => (repeat (first | exact HB9.out | apply pw_below_drewN | apply below_drew1))); rintro e w10 ⟨rfl, hb10⟩; have HB10 := Aside0.mk (below_step (by repeat (first | exact HB9.out | apply pw_below_drewN | apply below_drew1)) hb10); have HBX3 := Aside0.mk (blk_below (by repeat (first | exact HBX2.out | refine blk_drewN ?_ _ | refine blk_drew ?_)) hb10); clear hb10 hz0 hz1 hz2 hz3 hz4 hz5 hF; obtain ⟨⟨hz0, hz1, hz2, hz3, hz4, hz5⟩, _⟩ := cells6 HBX3.out)
        obtain ⟨y0, _, _, _, _, y5⟩ := HAT2.out.below HB10.out
        rw [HY0.out] at y0
        go_quiet ((go_at_call 27; (with_reducible first | refine (hT1 _ ?hw).mono ?_ | refine (hT2 _ ?hw).mono ?_); (case hw => exact pw_below_drewN HB10.out _); rintro e w' ⟨rfl, nd, rfl⟩; exact ⟨rfl, _, World.drewN_drewN ..⟩))
        go_wp2
        go_roundg (x.f5.length - (mm + 1))
        case measure => have := HI2.out; have := HLT2.out; omega
        case rel =>
          have hw : wrap64 ((mm : Int) + 1) = ((mm + 1 : Nat) : Int) := by have := HLT2.out; have := HX5.out; unfold wrap64; omega
          refine ⟨mm + 1, by rw [hw], ⟨by have := HLT2.out; omega⟩, ⟨fun j hj hjn => ?_⟩, ⟨blk_drewN HBX3.out _⟩, ⟨pw_below_drewN HB10.out _⟩⟩
          by_cases e : j = mm
          · subst e
            rw [(List.getElem?_eq_some_iff.1 HID.out).2]
            exact HYES.out
          · exact HOK2.out j hj (by omega)
end Go.Proofs.Ytieglenodannmaa.A
end

section
set_option linter.unusedVariables false
set_option linter.unusedSimpArgs false
namespace Go.Proofs.Ytieglenodannmaa.A
open Go.RowKit Go.Proofs.YtieglenodannmaaW.PrintWords Go.Proofs.YtieglenodannmaaW.PrintLast Go.Proofs.YtieglenodannmaaW.PrintMore Go.Shelf Go.Sort Go.Proofs.Ytieglenodannmaa.L
def insKP (x : K3) (ys : List K3) : Nat → Nat
  | 0 => 0
  | k + 1 => if befK x (ys.getD k default) = true then insKP x ys k else k + 1
def insKK (ys : List K3) (x : K3) : List K3 := ys.take (insKP x ys ys.length) ++ [x] ++ ys.drop (insKP x ys ys.length)
def insP (x : TmA) (ys : List TmA) : Nat → Nat
  | 0 => 0
  | k + 1 => if befK (keyA x) (keyA (ys.getD k default)) = true then insP x ys k else k + 1
def insA (ys : List TmA) (x : TmA) : List TmA := ys.take (insP x ys ys.length) ++ [x] ++ ys.drop (insP x ys ys.length)
theorem insP_le (x : TmA) (ys : List TmA) : ∀ k, insP x ys k ≤ k
  | 0 => Nat.le_refl _
  | k + 1 => by
    rw [insP]
    split
    · have := insP_le x ys k; omega
    · exact Nat.le_refl _
theorem insA_len (ys : List TmA) (x : TmA) : (insA ys x).length = ys.length + 1 := by
  have := insP_le x ys ys.length
  unfold insA
  simp
  omega
theorem fold_len : ∀ (D ys : List TmA), (D.foldl insA ys).length = ys.length + D.length
  | [], ys => rfl
  | x :: D, ys => by
    rw [List.foldl_cons, fold_len D, insA_len, List.length_cons]
    omega
theorem insP_key (x : TmA) (ys : List TmA) : ∀ k, k ≤ ys.length → insP x ys k = insKP (keyA x) (ys.map keyA) k
  | 0, _ => rfl
  | k + 1, h => by
    have e : (ys.map keyA).getD k default = keyA (ys.getD k default) := by
      rw [List.getD_eq_getElem?_getD, List.getD_eq_getElem?_getD, List.getElem?_map, List.getElem?_eq_getElem (show k < ys.length by omega)]
      rfl
    rw [insP, insKP, e, insP_key x ys k (by omega)]
theorem insA_key (ys : List TmA) (x : TmA) : (insA ys x).map keyA = insKK (ys.map keyA) (keyA x) := by
  unfold insA insKK
  rw [List.length_map, ← insP_key x ys ys.length (Nat.le_refl _)]
  simp
theorem fold_key : ∀ (D ys : List TmA), (D.foldl insA ys).map keyA = (D.map keyA).foldl insKK (ys.map keyA)
  | [], ys => rfl
  | x :: D, ys => by rw [List.foldl_cons, fold_key D, List.map_cons, List.foldl_cons, insA_key]
def tcell (W : World) (p : Addr) (x : TmA) : Prop := W.cell? p = some (.int .i64 x.f0) ∧ W.cell? ⟨p.block, p.off + 1, none⟩ = some (.int .i64 x.f1) ∧ W.cell? ⟨p.block, p.off + 2, none⟩ = some (.int .i64 x.f2) ∧ W.cell? ⟨p.block, p.off + 3, none⟩ = some (.int .i64 x.f3) ∧ W.cell? ⟨p.block, p.off + 4, none⟩ = some (.int .i64 x.f4) ∧ W.cell? ⟨p.block, p.off + 5, none⟩ = some (.slice x.A x.n x.c)
theorem tcell.below {w W : World} {p : Addr} {x : TmA} (h : tcell w p x) (hb : Below w.heap.size w W) : tcell W p x := by
  obtain ⟨h0, h1, h2, h3, h4, h5⟩ := h
  have L : ∀ {q : Addr} {v : Value}, w.cell? q = some v → W.cell? q = some v := fun h => (hb.cell (World.block_lt_of_cell? w _ h)).trans h
  exact ⟨L h0, L h1, L h2, L h3, L h4, L h5⟩
theorem tcell_of {W : World} {A : Option Addr} {ys : List TmA} (h : Kd.C kTm W A ys.length ys) (j : Nat) (hj : j < ys.length) : ∃ ad, A = some ad ∧ tcell W (ad.add (j * 6)) ys[j] := by
  obtain ⟨ad, e, hc⟩ := h.2.2 (by omega)
  obtain ⟨c, _, hr, hcell⟩ := hc j ys[j] (List.getElem?_eq_getElem hj)
  have hr' : c = (ys[j]).cells := hr
  subst hr'
  have e1 : kTm.sz = 6 := rfl
  refine ⟨ad, e, ?_, ?_, ?_, ?_, ?_, ?_⟩
  · have := hcell 0 _ rfl
    simpa [e1] using this
  · have := hcell 1 _ rfl
    rw [e1, add_field ad (j * 6) 1 (by omega)] at this
    exact this
  · have := hcell 2 _ rfl
    rw [e1, add_field ad (j * 6) 2 (by omega)] at this
    exact this
  · have := hcell 3 _ rfl
    rw [e1, add_field ad (j * 6) 3 (by omega)] at this
    exact this
  · have := hcell 4 _ rfl
    rw [e1, add_field ad (j * 6) 4 (by omega)] at this
    exact this
  · have := hcell 5 _ rfl
    rw [e1, add_field ad (j * 6) 5 (by omega)] at this
    exact this
theorem rowsD {w : World} {A0 : Option Addr} {l0 : List S38} (h : Kd.C k38 w A0 l0.length l0) : ∃ D : List TmA, D.length = l0.length ∧ D.map keyA = l0.map keyS ∧ ∀ (i : Nat) (hi : i < D.length), ∃ ad, A0 = some ad ∧ tcell w (ad.add (i * 6)) D[i] := by
  obtain ⟨D, hD, hP⟩ := listOf l0.length (fun i (x : TmA) => (∀ hi : i < l0.length, keyA x = keyS l0[i]) ∧ ∃ ad, A0 = some ad ∧ tcell w (ad.add (i * 6)) x) (fun i hi => by
    obtain ⟨ad, A5, c5, e0, hat, _, _⟩ := tmAt_of h i hi
    have er : rdT l0 (i : Int) = l0[i] := rdTm hi
    rw [er] at hat
    exact ⟨⟨l0[i].f0, l0[i].f1, l0[i].f2, l0[i].f3, l0[i].f4, A5, l0[i].f5.length, c5⟩, fun _ => rfl, ad, e0, hat⟩)
  refine ⟨D, hD, ?_, fun i hi => (hP i hi).2⟩
  apply List.ext_getElem
  · simp [hD]
  · intro i h1 h2
    simp only [List.length_map] at h1 h2
    simp only [List.getElem_map]
    exact (hP i h1).1 h2
theorem madeT' {W : World} {base m : Nat} (hm : m = W.heap.size) (h : base ≤ W.heap.size) : Kd.R kTm 38 (W.alloc (.cells #[] 38)) base (fun _ => True) (.slice (some ⟨m, 0, none⟩) 0 0) [] := by
  subst hm
  exact ⟨fun _ _ => trivial, [], World.ownsRow_made (base := base) W #[] 0 h (Nat.zero_le _) rfl, Reps.none _ _⟩
theorem oneT_at {W : World} {m : Nat} {x : TmA} (en : W.heap[m]? = some (.cells x.cells.toArray 38 (0, 0))) : Kd.C kTm W (some ⟨m, 0, none⟩) 1 [x] := by
  refine ⟨rfl, by decide, fun _ => ⟨_, rfl, fun i z hz => ?_⟩⟩
  rcases i with _ | i
  · simp only [List.getElem?_cons_zero, Option.some.injEq] at hz
    subst hz
    refine ⟨x.cells, rfl, rfl, fun j u hj => ?_⟩
    have e1 : kTm.sz = 6 := rfl
    rw [e1, Nat.zero_mul, Nat.zero_add]
    rw [show (⟨m, 0, none⟩ : Addr).add j = ⟨m, j, none⟩ by rw [Addr.add_lit, Nat.zero_add]]
    rw [cell_of_row W m j _ _ (0, 0) en]
    simpa using hj
  · simp at hz
theorem oneT' {W : World} {m : Nat} {x : TmA} (hm : m = W.heap.size) : Kd.C kTm (W.alloc (.cells #[.int .i64 x.f0, .int .i64 x.f1, .int .i64 x.f2, .int .i64 x.f3, .int .i64 x.f4, .slice x.A x.n x.c] 38)) (some ⟨m, 0, none⟩) 1 [x] := by
  subst hm
  exact oneT_at (blk_new W _)
theorem oneT_kept {W w5 : World} {m : Nat} {x : TmA} {row : Option Nat} (h : W.heap[m]? = some (.cells #[.int .i64 x.f0, .int .i64 x.f1, .int .i64 x.f2, .int .i64 x.f3, .int .i64 x.f4, .slice x.A x.n x.c] 38 (0, 0))) (hg : W.grownBy w5 row) (hne : some m ≠ row) : Kd.C kTm w5 (some ⟨m, 0, none⟩) 1 [x] := oneT_at (blk_grown h hg hne)
theorem blk_newT {W : World} {o : Obj} {m : Nat} (hm : m = W.heap.size) : (W.alloc o).heap[m]? = some o := by
  subst hm
  exact blk_new W o
theorem gateT {P : Program} {ops : Array Oper} {o : Oper} {a : Act} {W : World} {Kc : Act → World → Prop} {Q : Exit → Act → World → Prop} (N : Tmp) (hd : o.dst = some N) (k : if Region.wanted o (yielded ops a.tmps) = true then Oper.wp P o a W Kc Q else Kc (a.put o.dst undef) W) : if Region.wanted o (yielded ops a.tmps) = true then Oper.wp P o a W Kc Q else Kc (a.put o.dst undef) W := k
def spec_Standing.f (k : Nat) (l0 : List S38) : Option (List Int) := (spec_AreTeams.f k l0).bind fun b => if b = true then (if l0.length ≤ 12 then some (((l0.map keyS).foldl insKK []).map fun q => q.2.2) else none) else some []
set_option maxHeartbeats 16000000 in
set_option maxRecDepth 100000 in
theorem spec_Standing.calls (k : Nat) (A0 : Option Addr) (c0 : Nat) (l0 : List S38) (r : List Int) (w : World) (hr0 : Kd.C k38 w A0 l0.length l0) (hc0 : l0.length ≤ c0) (h : spec_Standing.f k l0 = some r) :
    Calls Try.prog 5 #[.slice A0 l0.length c0] w fun e w' => ∃ v0_, e = .returned v0_ ∧ Kd.R (Kd.int .i64) 3 w' w.heap.size (fun _ => True) v0_ r ∧ Below w.heap.size w w' := by
  unfold spec_Standing.f at h
  replace h := Option.bind_eq_some_iff.mp h
  obtain ⟨b, hb, h⟩ := h
  cases b with
  | false =>
    rw [if_neg (by simp)] at h
    obtain rfl := Option.some.inj h
    have hpos : 0 < l0.length := by
      rcases Nat.eq_zero_or_pos l0.length with h0 | h0
      · have := List.eq_nil_of_length_eq_zero h0
        subst this
        unfold spec_AreTeams.f at hb
        have e : smallT ([] : List S38) = true := rfl
        rw [if_pos e] at hb
        have := Option.some.inj hb
        cases this
      · exact h0
    have hposb : (0 < (l0.length : Int)) = True := eq_true (by omega)
    have hposc : (0 < l0.length) = True := eq_true hpos
    have hA : ∀ W, Below w.heap.size w W → Calls Try.prog 14 #[.slice A0 l0.length c0] W fun e w' => e = .returned (.bool false) ∧ Below W.heap.size W w' := fun W hW => spec_AreTeams.calls k A0 c0 l0 false W (Kd.C_below hr0 hW) hc0 hb
    have HA := Aside0.mk hA
    clear hA hr0 hb h hpos
    go_enter Try.func5, Try.ntmps5
    go_wp2
    refine wp_loop_rounds 1 ?_
    rw [rounds_succ]
    go_wp2_with (go_at_call 14; refine (HA.out _ ?hw).mono ?_; (case hw => exact below_alloc (Below.refl _ _) _); rintro e w1 ⟨rfl, hb1⟩; have HB1 := Aside0.mk (below_step (below_alloc (Below.refl _ w) _) hb1); clear hb1)
    refine wp_loop_rounds 1 ?_
    rw [rounds_succ]
    go_wp2
    go_ret
    exact ⟨_, rfl, Kd.R_of_own (ok := fun _ => True) (e := 3) (enc := Value.int .i64) (h1 := fun _ => rfl) (xs := []) (World.ownsRow_made (base := w.heap.size) w1 #[] 0 HB1.out.size (Nat.zero_le _) rfl) (fun _ _ => trivial), below_alloc HB1.out _⟩
  | true =>
  rw [if_pos rfl] at h
  by_cases hl : l0.length ≤ 12
  rotate_left
  · rw [if_neg hl] at h
    cases h
  rw [if_pos hl] at h
  have hA : ∀ W, Below w.heap.size w W → Calls Try.prog 14 #[.slice A0 l0.length c0] W fun e w' => e = .returned (.bool true) ∧ Below W.heap.size W w' := fun W hW => spec_AreTeams.calls k A0 c0 l0 true W (Kd.C_below hr0 hW) hc0 hb
  obtain ⟨D, hDl, hDk, hDc⟩ := rowsD hr0
  have hres : r = (D.foldl insA []).map (fun x => x.f0) := by
    have h1 := Option.some.inj h
    have h2 := fold_key D []
    rw [← h1, ← hDk]
    rw [List.map_nil] at h2
    rw [← h2, List.map_map]
    rfl
  have HA := Aside0.mk hA
  have HL := Aside0.mk hl
  have HDL := Aside0.mk hDl
  have HDC := Aside0.mk hDc
  have HRES := Aside0.mk hres
  have hu38 := Try.underlying38
  have HO0 : Aside0 (Kd.R kTm 38 (w.alloc (.cells #[] 38)) w.heap.size (fun _ => True) (.slice (some ⟨w.heap.size, 0, none⟩) 0 0) []) := ⟨madeT' rfl (Nat.le_refl _)⟩
  clear hA hl hDl hDk hDc hres hr0 hb h
  go_enter Try.func5, Try.ntmps5
  go_wp2
  go_loopg [3, 4] l0.length (fun gg v3 v4 wr => ∃ i : Nat, v4 = .int .i64 i ∧ Aside0 (i ≤ l0.length ∧ l0.length - i ≤ gg) ∧ Aside0 (Kd.R kTm 38 wr w.heap.size (fun _ => True) v3 ((D.take i).foldl insA [])) ∧ Aside0 (Below w.heap.size w wr))
  case atStart => exact ⟨0, rfl, ⟨by omega⟩, HO0, ⟨below_alloc (Below.refl _ _) _⟩⟩
  case round =>
    clear HO0
    obtain ⟨i, rfl, HI, HO, HB⟩ := hrel
    by_cases hlt : i < l0.length
    · have hltb : ((i : Int) < (l0.length : Int)) = True := eq_true (by omega)
      have HLT := Aside0.mk hlt
      obtain ⟨ys, hys⟩ : ∃ ys, ys = (D.take i).foldl insA [] := ⟨_, rfl⟩
      have hyl : ys.length = i := by
        rw [hys, fold_len, List.length_take]
        have := HDL.out
        simp
        omega
      have hO := HO.out
      rw [← hys] at hO
      obtain ⟨A3, c3, e3⟩ := Kd.R_slice hO
      subst e3
      obtain ⟨x, hx⟩ : ∃ x, D[i]'(by rw [HDL.out]; exact hlt) = x := ⟨_, rfl⟩
      obtain ⟨ad, e0, hxc⟩ := HDC.out i (by rw [HDL.out]; exact hlt)
      rw [hx] at hxc
      subst e0
      have HNEXT : Aside0 ((D.take (i + 1)).foldl insA [] = insA ys x) := ⟨by rw [List.take_succ_eq_append_getElem (by rw [HDL.out]; exact hlt), List.foldl_append, ← hys, hx]; rfl⟩
      have HXC : Aside0 (∀ W, Below w.heap.size w W → tcell W (ad.add (i * 6)) x) := ⟨fun W hW => hxc.below hW⟩
      have HY := Aside0.mk hO
      have HYL := Aside0.mk hyl
      clear hO hys hyl hxc hx hlt HO
      go_wp2_with (go_at_call 14; refine (HA.out _ ?hw).mono ?_; (case hw => (repeat (first | (with_reducible first | exact HB.out | apply below_alloc | apply pw_below_drewN | apply below_drew) | exact HB.out))); rintro e w1 ⟨rfl, hb1⟩; have HB1 := Aside0.mk (below_step (by (repeat (first | (with_reducible first | exact HB.out | apply below_alloc | apply pw_below_drewN | apply below_drew) | exact HB.out))) hb1); have HY1 := Aside0.mk (Kd.R_below (by (with_reducible repeat (first | apply Kd.R_alloc | apply Kd.R_drewN | apply Kd.R_drew)); exact HY.out) hb1); clear hb1)
      go_loopg [5] ys.length (fun gg v5 wr => ∃ p : Nat, v5 = .int .i64 p ∧ Aside0 (p ≤ ys.length ∧ p ≤ gg) ∧ Aside0 (insP x ys p = insP x ys ys.length) ∧ Aside0 (Kd.R kTm 38 wr w.heap.size (fun _ => True) (.slice A3 ys.length c3) ys) ∧ Aside0 (Below w.heap.size w wr))
      case atStart => exact ⟨ys.length, rfl, ⟨by omega⟩, ⟨rfl⟩, HY1, HB1⟩
      case round =>
        clear HY1 HB1
        obtain ⟨p, rfl, HP, HIP, HY2, HB2⟩ := hrel
        cases p with
        | zero =>
          have hp0 : (0 < ((0 : Nat) : Int)) = False := eq_false (by omega)
          go_wp2
          go_quiet (fail)
          go_wp2
          rename World => wr0
          have HIP0 : Aside0 (0 = insP x ys ys.length) := ⟨by rw [← HIP.out]; rfl⟩
          obtain ⟨y1, hy1⟩ : ∃ y, y = ys.take 0 := ⟨_, rfl⟩
          obtain ⟨y2, hy2⟩ : ∃ y, y = ys.drop 0 := ⟨_, rfl⟩
          have hpl : 0 ≤ ys.length := HP.out.1
          have hroom : ys.length ≤ c3 := (Kd.R_reads' HY2.out).2.1
          have hpI : ((0 : Nat) : Int) ≤ ((ys.length : Nat) : Int) := by omega
          obtain ⟨i0, hi0, _, hsz0, _⟩ := info_parts info38
          have ht0 : (0 : Int) ≤ 0 := by omega
          have htn : (0 : Int).toNat = 0 := rfl
          have hcut1 := cut_to (P := Try.prog) 26 38 .i64 Try.underlying26 hi0 A3 ys.length c3 0 ht0 (by omega) hroom
          have hcut2 := cut_from (P := Try.prog) 26 38 .i64 Try.underlying26 hi0 6 hsz0 A3 ys.length c3 0 ht0 (by omega)
          have hyl1 : y1.length = (0 : Int).toNat := by rw [hy1, List.length_take]; omega
          have hyl2 : y2.length = ys.length - (0 : Int).toNat := by rw [hy2, List.length_drop]; omega
          obtain ⟨A6, hA6⟩ : ∃ A1, A1 = (if c3 = (0 : Int).toNat then A3 else (A3 : Option Addr).map (·.add ((0 : Int).toNat * 6))) := ⟨_, rfl⟩
          obtain ⟨c6, hc6⟩ : ∃ c_, c_ = c3 - (0 : Int).toNat := ⟨_, rfl⟩
          rw [← hyl1] at hcut1
          rw [← hyl2, ← hA6, ← hc6] at hcut2
          have HT1 : Aside0 (∀ W, Below wr0.heap.size wr0 W → Kd.C kTm W A3 y1.length y1) := ⟨fun W hW => by rw [hy1]; exact Kd.C_take (Kd.R_reads' (Kd.R_below HY2.out hW)).2.2 hpl⟩
          have HD1 : Aside0 (∀ W, Below wr0.heap.size wr0 W → Kd.C kTm W A6 y2.length y2) := ⟨fun W hW => by rw [hy2, hA6, htn]; exact Kd.C_drop (c := c3) (Kd.R_reads' (Kd.R_below HY2.out hW)).2.2 hpl hroom⟩
          have HINS : Aside0 (insA ys x = y1 ++ [x] ++ y2) := ⟨by unfold insA; rw [← HIP0.out, hy1, hy2]⟩
          have HY12 : Aside0 (y1.length + y2.length < 1000) := ⟨by have := HYL.out; have := HLT.out; have := HL.out; omega⟩
          have hxc := HXC.out _ HB2.out
          obtain ⟨x0, x1, x2, x3, x4, x5⟩ := hxc
          have hlb : ((0 : Int) ≤ (ys.length : Int)) = True := eq_true (by omega)
          have hil : ((i : Int) < (l0.length : Int)) = True := eq_true (by have := HLT.out; omega)
          have HWI : Aside0 (wrap64 ((i : Int) + 1) = ((i + 1 : Nat) : Int)) := ⟨by have := HLT.out; have := HL.out; unfold wrap64; omega⟩
          clear hpl hroom hpI hi0 hsz0 ht0 htn hyl1 hyl2 hA6 hc6 hy1 hy2
          go_region_held3 (fun w' => w'.cell? (ad.add (i * 6)) = some (.int .i64 x.f0) ∧ w'.cell? ⟨(ad.add (i * 6)).block, (ad.add (i * 6)).off + 1, none⟩ = some (.int .i64 x.f1) ∧ w'.cell? ⟨(ad.add (i * 6)).block, (ad.add (i * 6)).off + 2, none⟩ = some (.int .i64 x.f2) ∧ w'.cell? ⟨(ad.add (i * 6)).block, (ad.add (i * 6)).off + 3, none⟩ = some (.int .i64 x.f3) ∧ w'.cell? ⟨(ad.add (i * 6)).block, (ad.add (i * 6)).off + 4, none⟩ = some (.int .i64 x.f4) ∧ w'.cell? ⟨(ad.add (i * 6)).block, (ad.add (i * 6)).off + 5, none⟩ = some (.slice x.A x.n x.c))
            (first
              | go_keep
              | exact HXC.out _ (below_step HB2.out HB7.out)
              | exact HXC.out _ (below_step HB2.out HB6.out)
              | exact HXC.out _ (below_step HB2.out HB5.out))
            ((first
              | ((with_reducible refine gateT 41 rfl ?_); refine Kd.R_append_rows_step kTm (w0 := wr0) wr0.heap.size (by rfl) (.tmp 37) (.tmp 40) 26 38 (.agg #[.int .i64 0, .int .i64 0, .int .i64 0, .int .i64 0, .int .i64 0, .slice none 0 0]) 64 (by rfl) Try.underlying26 info38 rfl (by decide) (by omega) (.slice (some ⟨_, 0, none⟩) 0 0) [] y1 _ _ _ (fun _ => True) (fun _ => False) (by rfl) (by rfl) ?hO1 (HT1.out _ (show RowKit.Below wr0.heap.size wr0 _ from by (repeat (first | (with_reducible first | exact Below.refl _ _ | apply below_alloc | apply pw_below_drewN | apply below_drew) | exact Below.refl _ _)))) (fun _ _ h => h) (fun _ h => h.elim) (fun _ _ => trivial) (show RowKit.Below wr0.heap.size wr0 _ from by (repeat (first | (with_reducible first | exact Below.refl _ _ | apply below_alloc | apply pw_below_drewN | apply below_drew) | exact Below.refl _ _))) ((show RowKit.Below wr0.heap.size wr0 _ from by (repeat (first | (with_reducible first | exact Below.refl _ _ | apply below_alloc | apply pw_below_drewN | apply below_drew) | exact Below.refl _ _))).size) (by have := HY12.out; simp; omega) ?_; (case hO1 => (with_reducible repeat (first | refine madeT' ?_ ?_ | apply Kd.R_drew | apply Kd.R_drewN | apply Kd.R_alloc)); (focus (first | rfl | (simp; done))); exact ((show RowKit.Below wr0.heap.size wr0 _ from by (repeat (first | (with_reducible first | exact Below.refl _ _ | apply below_alloc | apply pw_below_drewN | apply below_drew) | exact Below.refl _ _))).size)); intro v5 w5 hr hb hg hat; have HR5 := Aside0.mk hr; have HB5 := Aside0.mk hb; have HG5 := Aside0.mk hg; clear hr hb hg hat)
              | ((with_reducible refine gateT 47 rfl ?_); refine Kd.R_append_rows_step kTm (w0 := wr0) wr0.heap.size (by rfl) (.tmp 41) (.tmp 46) 26 38 (.agg #[.int .i64 0, .int .i64 0, .int .i64 0, .int .i64 0, .int .i64 0, .slice none 0 0]) 64 (by rfl) Try.underlying26 info38 rfl (by decide) (by omega) _ ([] ++ y1) [x] _ _ _ (fun _ => True) (fun _ => False) (by rfl) (by rfl) ?hO2 ?hR2 (fun _ _ h => h) (fun _ h => h.elim) (fun _ _ => trivial) ?hB2 ?hS2 ?hL2 ?_; (case hO2 => repeat (first | (with_reducible first | exact HR5.out | apply Kd.R_drew | apply Kd.R_drewN | apply Kd.R_alloc) | exact HR5.out)); (case hR2 => refine (show Kd.C kTm _ _ _ [x] from ?_); first | ((with_reducible refine oneT' ?_); (first | rfl | (simp; done))) | ((with_reducible refine Kd.C_drew (oneT' ?_)); (first | rfl | (simp; done))) | ((with_reducible refine oneT_kept ?_ HG5.out ?_); (focus ((with_reducible repeat (first | refine blk_newT ?_ | refine blk_drewN ?_ _ | refine blk_drew ?_ | refine blk_alloc ?_ _)); (first | rfl | (simp; done)))); (simp [Value.ownBlock]))); (case hB2 => (repeat (first | (with_reducible first | exact HB5.out | apply below_alloc | apply pw_below_drewN | apply below_drew) | exact HB5.out))); (case hS2 => exact (show RowKit.Below wr0.heap.size wr0 _ from by (repeat (first | (with_reducible first | exact HB5.out | apply below_alloc | apply pw_below_drewN | apply below_drew) | exact HB5.out))).size); (case hL2 => have := HY12.out; simp; omega); intro v6 w6 hr hb hg hat; have HR6 := Aside0.mk hr; have HB6 := Aside0.mk hb; clear hr hb hg hat)
              | ((with_reducible refine gateT 51 rfl ?_); refine Kd.R_append_rows_step kTm (w0 := wr0) wr0.heap.size (by rfl) (.tmp 47) (.tmp 50) 26 38 (.agg #[.int .i64 0, .int .i64 0, .int .i64 0, .int .i64 0, .int .i64 0, .slice none 0 0]) 64 (by rfl) Try.underlying26 info38 rfl (by decide) (by omega) _ ([] ++ y1 ++ [x]) y2 _ _ _ (fun _ => True) (fun _ => False) (by rfl) (by rfl) ?hO3 ?hR3 (fun _ _ h => h) (fun _ h => h.elim) (fun _ _ => trivial) ?hB3 ?hS3 ?hL3 ?_; (case hO3 => repeat (first | (with_reducible first | exact HR6.out | apply Kd.R_drew | apply Kd.R_drewN | apply Kd.R_alloc) | exact HR6.out)); (case hR3 => exact HD1.out _ (by (repeat (first | (with_reducible first | exact HB6.out | apply below_alloc | apply pw_below_drewN | apply below_drew) | exact HB6.out)))); (case hB3 => (repeat (first | (with_reducible first | exact HB6.out | apply below_alloc | apply pw_below_drewN | apply below_drew) | exact HB6.out))); (case hS3 => exact (show RowKit.Below wr0.heap.size wr0 _ from by (repeat (first | (with_reducible first | exact HB6.out | apply below_alloc | apply pw_below_drewN | apply below_drew) | exact HB6.out))).size); (case hL3 => have := HY12.out; simp; omega); intro v7 w7 hr hb hg hat; have HR7 := Aside0.mk hr; have HB7 := Aside0.mk hb; clear hr hb hg hat)))
          all_goals (go_wp2; go_roundg (l0.length - (i + 1)); (case measure => have := HI.out; have := HLT.out; omega); (case rel => exact ⟨i + 1, by rw [HWI.out], ⟨by have := HLT.out; omega⟩, ⟨by rw [HNEXT.out, HINS.out]; have h_ := Kd.R_lower HR7.out HB2.out.size; rw [List.nil_append] at h_; exact h_⟩, ⟨below_step HB2.out HB7.out⟩⟩))
        | succ q =>
          have hq : q < ys.length := by have := HP.out; omega
          have hqb : (0 < ((q + 1 : Nat) : Int)) = True := eq_true (by omega)
          have hqb2 : (0 < (q : Int) + 1) = True := eq_true (by omega)
          have hw1 : wrap64 ((q + 1 : Nat) - 1 : Int) = (q : Int) := by have := HP.out; have := HYL.out; have := HLT.out; have := HL.out; unfold wrap64; omega
          have hw2 : wrap64 ((q : Int) + 1 - 1) = (q : Int) := by have := HP.out; have := HYL.out; have := HLT.out; have := HL.out; unfold wrap64; omega
          have hw3 : wrap64 (q : Int) = (q : Int) := by have := HP.out; have := HYL.out; have := HLT.out; have := HL.out; unfold wrap64; omega
          have hw4 : IntKind.i64.wrap (q : Int) = (q : Int) := (i64_w _).trans hw3
          have hql : ((q : Int) < (ys.length : Int)) = True := eq_true (by omega)
          have hil : ((i : Int) < (l0.length : Int)) = True := eq_true (by have := HLT.out; omega)
          obtain ⟨y, hy⟩ : ∃ y, ys[q] = y := ⟨_, rfl⟩
          obtain ⟨ad3, e3, hyc⟩ := tcell_of (Kd.R_reads' HY2.out).2.2 q hq
          rw [hy] at hyc
          have hgd : ys.getD q default = y := by rw [List.getD_eq_getElem?_getD, List.getElem?_eq_getElem hq, hy]; rfl
          have HSTEP : Aside0 (insP x ys (q + 1) = if befK (keyA x) (keyA y) = true then insP x ys q else q + 1) := ⟨by rw [insP, hgd]⟩
          have hxc := HXC.out _ HB2.out
          clear hgd hy hq
          subst e3
          rename World => W2
          go_wp2_with fail
          refine wp_region_still_tail 12 (by kernel_rfl) (by kernel_rfl) ?_
          show wpStill _ _ (World.drew _) (fun a' => wpList _ _ _ _ a' (World.drew _)) _ _
          obtain ⟨x0, x1, x2, x3, x4, x5⟩ := (show tcell W2.drew (ad.add (i * 6)) x from hxc)
          obtain ⟨y0, y1, y2, y3, y4, y5⟩ := (show tcell W2.drew (ad3.add (q * 6)) y from hyc)
          have HY3 : Aside0 (Kd.R kTm 38 W2.drew w.heap.size (fun _ => True) (.slice (some ad3) ys.length c3) ys) := ⟨Kd.R_drew HY2.out⟩
          have HB3 : Aside0 (Below w.heap.size w W2.drew) := ⟨below_drew HB2.out⟩
          generalize W2.drew = w3 at x0 x1 x2 x3 x4 x5 y0 y1 y2 y3 y4 y5 HY3 HB3 ⊢
          clear hxc hyc
          simp only [List.take_succ_cons, List.take_zero, List.drop_succ_cons, List.drop_zero]
          repeat (first | still_step)
          refine wpStill_nil ?_
          cases hbf : befK (keyA x) (keyA y) with
          | true =>
            have hBC := Before_calls x y
            rw [hbf] at hBC
            have HST := HSTEP.out
            rw [if_pos hbf] at HST
            have HST2 := Aside0.mk HST
            clear HST hbf
            go_wp2_with (go_at_call 15; refine (hBC _).mono ?_; rintro e w4 ⟨rfl, hb4⟩; have HB4 := Aside0.mk (below_step HB3.out hb4); have HY4 := Aside0.mk (Kd.R_below HY3.out hb4); clear hb4)
            go_roundg q
            case measure => have := HP.out; omega
            case rel => exact ⟨q, by first | rfl | rw [hw3] | rw [hw1] | rw [hw2], ⟨by have := HP.out; omega⟩, ⟨by rw [← HST2.out]; exact HIP.out⟩, HY4, HB4⟩
          | false =>
            have hBC := Before_calls x y
            rw [hbf] at hBC
            have HST := HSTEP.out
            rw [if_neg (by rw [hbf]; simp)] at HST
            have HIP2 : Aside0 (q + 1 = insP x ys ys.length) := ⟨by rw [← HIP.out]; exact HST.symm⟩
            clear HST hbf
            go_wp2_with (go_at_call 15; refine (hBC _).mono ?_; rintro e w4 ⟨rfl, hb4⟩; have HB4 := Aside0.mk (below_step HB3.out hb4); have HY4 := Aside0.mk (Kd.R_below HY3.out hb4); clear hb4)
            obtain ⟨y1, hy1⟩ : ∃ y, y = ys.take (q + 1) := ⟨_, rfl⟩
            obtain ⟨y2, hy2⟩ : ∃ y, y = ys.drop (q + 1) := ⟨_, rfl⟩
            have hpl : (q + 1) ≤ ys.length := HP.out.1
            have hroom : ys.length ≤ c3 := (Kd.R_reads' HY4.out).2.1
            have hpI : (((q + 1) : Nat) : Int) ≤ ((ys.length : Nat) : Int) := by omega
            obtain ⟨i0, hi0, _, hsz0, _⟩ := info_parts info38
            obtain ⟨t, ht⟩ : ∃ t : Int, t = (((q + 1) : Nat) : Int) := ⟨_, rfl⟩
            have ht0 : 0 ≤ t := by omega
            have htn : t.toNat = (q + 1) := by omega
            have hcut1 := cut_to (P := Try.prog) 26 38 .i64 Try.underlying26 hi0 (some ad3) ys.length c3 t ht0 (by omega) hroom
            have hcut2 := cut_from (P := Try.prog) 26 38 .i64 Try.underlying26 hi0 6 hsz0 (some ad3) ys.length c3 t ht0 (by omega)
            have hyl1 : y1.length = t.toNat := by rw [hy1, List.length_take]; omega
            have hyl2 : y2.length = ys.length - t.toNat := by rw [hy2, List.length_drop]; omega
            obtain ⟨A6, hA6⟩ : ∃ A1, A1 = (if c3 = t.toNat then (some ad3) else ((some ad3) : Option Addr).map (·.add (t.toNat * 6))) := ⟨_, rfl⟩
            obtain ⟨c6, hc6⟩ : ∃ c_, c_ = c3 - t.toNat := ⟨_, rfl⟩
            rw [← hyl1] at hcut1
            rw [← hyl2, ← hA6, ← hc6] at hcut2
            have HT1 : Aside0 (∀ W, Below w4.heap.size w4 W → Kd.C kTm W (some ad3) y1.length y1) := ⟨fun W hW => by rw [hy1]; exact Kd.C_take (Kd.R_reads' (Kd.R_below HY4.out hW)).2.2 hpl⟩
            have HD1 : Aside0 (∀ W, Below w4.heap.size w4 W → Kd.C kTm W A6 y2.length y2) := ⟨fun W hW => by rw [hy2, hA6, htn]; exact Kd.C_drop (c := c3) (Kd.R_reads' (Kd.R_below HY4.out hW)).2.2 hpl hroom⟩
            have HINS : Aside0 (insA ys x = y1 ++ [x] ++ y2) := ⟨by unfold insA; rw [← HIP2.out, hy1, hy2]⟩
            have HY12 : Aside0 (y1.length + y2.length < 1000) := ⟨by have := HYL.out; have := HLT.out; have := HL.out; omega⟩
            have hxc := HXC.out _ HB4.out
            obtain ⟨x0, x1, x2, x3, x4, x5⟩ := hxc
            have hlb : (t ≤ (ys.length : Int)) = True := eq_true (by omega)
            have h0b : (0 ≤ t) = True := eq_true ht0
            have hil : ((i : Int) < (l0.length : Int)) = True := eq_true (by have := HLT.out; omega)
            have HWI : Aside0 (wrap64 ((i : Int) + 1) = ((i + 1 : Nat) : Int)) := ⟨by have := HLT.out; have := HL.out; unfold wrap64; omega⟩
            have ht2 : (q : Int) + 1 = t := by omega
            try simp only [← ht]
            try simp only [ht2]
            clear ht ht2 hqb hqb2 hw1 hw2 hw3 hw4 hql
            clear hpl hroom hpI hi0 hsz0 ht0 htn hyl1 hyl2 hA6 hc6 hy1 hy2
            go_region_held3 (fun w' => w'.cell? (ad.add (i * 6)) = some (.int .i64 x.f0) ∧ w'.cell? ⟨(ad.add (i * 6)).block, (ad.add (i * 6)).off + 1, none⟩ = some (.int .i64 x.f1) ∧ w'.cell? ⟨(ad.add (i * 6)).block, (ad.add (i * 6)).off + 2, none⟩ = some (.int .i64 x.f2) ∧ w'.cell? ⟨(ad.add (i * 6)).block, (ad.add (i * 6)).off + 3, none⟩ = some (.int .i64 x.f3) ∧ w'.cell? ⟨(ad.add (i * 6)).block, (ad.add (i * 6)).off + 4, none⟩ = some (.int .i64 x.f4) ∧ w'.cell? ⟨(ad.add (i * 6)).block, (ad.add (i * 6)).off + 5, none⟩ = some (.slice x.A x.n x.c))
              (first
                | go_keep
                | exact HXC.out _ (below_step HB4.out HB7.out)
                | exact HXC.out _ (below_step HB4.out HB6.out)
                | exact HXC.out _ (below_step HB4.out HB5.out))
              ((first
                | ((with_reducible refine gateT 41 rfl ?_); refine Kd.R_append_rows_step kTm (w0 := w4) w4.heap.size (by rfl) (.tmp 37) (.tmp 40) 26 38 (.agg #[.int .i64 0, .int .i64 0, .int .i64 0, .int .i64 0, .int .i64 0, .slice none 0 0]) 64 (by rfl) Try.underlying26 info38 rfl (by decide) (by omega) (.slice (some ⟨_, 0, none⟩) 0 0) [] y1 _ _ _ (fun _ => True) (fun _ => False) (by rfl) (by rfl) ?hO1 (HT1.out _ (show RowKit.Below w4.heap.size w4 _ from by (repeat (first | (with_reducible first | exact Below.refl _ _ | apply below_alloc | apply pw_below_drewN | apply below_drew) | exact Below.refl _ _)))) (fun _ _ h => h) (fun _ h => h.elim) (fun _ _ => trivial) (show RowKit.Below w4.heap.size w4 _ from by (repeat (first | (with_reducible first | exact Below.refl _ _ | apply below_alloc | apply pw_below_drewN | apply below_drew) | exact Below.refl _ _))) ((show RowKit.Below w4.heap.size w4 _ from by (repeat (first | (with_reducible first | exact Below.refl _ _ | apply below_alloc | apply pw_below_drewN | apply below_drew) | exact Below.refl _ _))).size) (by have := HY12.out; simp; omega) ?_; (case hO1 => (with_reducible repeat (first | refine madeT' ?_ ?_ | apply Kd.R_drew | apply Kd.R_drewN | apply Kd.R_alloc)); (focus (first | rfl | (simp; done))); exact ((show RowKit.Below w4.heap.size w4 _ from by (repeat (first | (with_reducible first | exact Below.refl _ _ | apply below_alloc | apply pw_below_drewN | apply below_drew) | exact Below.refl _ _))).size)); intro v5 w5 hr hb hg hat; have HR5 := Aside0.mk hr; have HB5 := Aside0.mk hb; have HG5 := Aside0.mk hg; clear hr hb hg hat)
                | ((with_reducible refine gateT 47 rfl ?_); refine Kd.R_append_rows_step kTm (w0 := w4) w4.heap.size (by rfl) (.tmp 41) (.tmp 46) 26 38 (.agg #[.int .i64 0, .int .i64 0, .int .i64 0, .int .i64 0, .int .i64 0, .slice none 0 0]) 64 (by rfl) Try.underlying26 info38 rfl (by decide) (by omega) _ ([] ++ y1) [x] _ _ _ (fun _ => True) (fun _ => False) (by rfl) (by rfl) ?hO2 ?hR2 (fun _ _ h => h) (fun _ h => h.elim) (fun _ _ => trivial) ?hB2 ?hS2 ?hL2 ?_; (case hO2 => repeat (first | (with_reducible first | exact HR5.out | apply Kd.R_drew | apply Kd.R_drewN | apply Kd.R_alloc) | exact HR5.out)); (case hR2 => refine (show Kd.C kTm _ _ _ [x] from ?_); first | ((with_reducible refine oneT' ?_); (first | rfl | (simp; done))) | ((with_reducible refine Kd.C_drew (oneT' ?_)); (first | rfl | (simp; done))) | ((with_reducible refine oneT_kept ?_ HG5.out ?_); (focus ((with_reducible repeat (first | refine blk_newT ?_ | refine blk_drewN ?_ _ | refine blk_drew ?_ | refine blk_alloc ?_ _)); (first | rfl | (simp; done)))); (simp [Value.ownBlock]))); (case hB2 => (repeat (first | (with_reducible first | exact HB5.out | apply below_alloc | apply pw_below_drewN | apply below_drew) | exact HB5.out))); (case hS2 => exact (show RowKit.Below w4.heap.size w4 _ from by (repeat (first | (with_reducible first | exact HB5.out | apply below_alloc | apply pw_below_drewN | apply below_drew) | exact HB5.out))).size); (case hL2 => have := HY12.out; simp; omega); intro v6 w6 hr hb hg hat; have HR6 := Aside0.mk hr; have HB6 := Aside0.mk hb; clear hr hb hg hat)
                | ((with_reducible refine gateT 51 rfl ?_); refine Kd.R_append_rows_step kTm (w0 := w4) w4.heap.size (by rfl) (.tmp 47) (.tmp 50) 26 38 (.agg #[.int .i64 0, .int .i64 0, .int .i64 0, .int .i64 0, .int .i64 0, .slice none 0 0]) 64 (by rfl) Try.underlying26 info38 rfl (by decide) (by omega) _ ([] ++ y1 ++ [x]) y2 _ _ _ (fun _ => True) (fun _ => False) (by rfl) (by rfl) ?hO3 ?hR3 (fun _ _ h => h) (fun _ h => h.elim) (fun _ _ => trivial) ?hB3 ?hS3 ?hL3 ?_; (case hO3 => repeat (first | (with_reducible first | exact HR6.out | apply Kd.R_drew | apply Kd.R_drewN | apply Kd.R_alloc) | exact HR6.out)); (case hR3 => exact HD1.out _ (by (repeat (first | (with_reducible first | exact HB6.out | apply below_alloc | apply pw_below_drewN | apply below_drew) | exact HB6.out)))); (case hB3 => (repeat (first | (with_reducible first | exact HB6.out | apply below_alloc | apply pw_below_drewN | apply below_drew) | exact HB6.out))); (case hS3 => exact (show RowKit.Below w4.heap.size w4 _ from by (repeat (first | (with_reducible first | exact HB6.out | apply below_alloc | apply pw_below_drewN | apply below_drew) | exact HB6.out))).size); (case hL3 => have := HY12.out; simp; omega); intro v7 w7 hr hb hg hat; have HR7 := Aside0.mk hr; have HB7 := Aside0.mk hb; clear hr hb hg hat)))
            all_goals (go_wp2; go_roundg (l0.length - (i + 1)); (case measure => have := HI.out; have := HLT.out; omega); (case rel => exact ⟨i + 1, by rw [HWI.out], ⟨by have := HLT.out; omega⟩, ⟨by rw [HNEXT.out, HINS.out]; have h_ := Kd.R_lower HR7.out HB4.out.size; rw [List.nil_append] at h_; exact h_⟩, ⟨below_step HB4.out HB7.out⟩⟩))
    · have hltb : ((i : Int) < (l0.length : Int)) = False := eq_false (by omega)
      have HS : Aside0 (Kd.R kTm 38 wr w.heap.size (fun _ => True) _ (D.foldl insA [])) := ⟨by
        have e : D.take i = D := List.take_of_length_le (by have := HDL.out; omega)
        have := HO.out
        rw [e] at this
        exact this⟩
      obtain ⟨ss, hss⟩ : ∃ ss, ss = D.foldl insA [] := ⟨_, rfl⟩
      have hS := HS.out
      rw [← hss] at hS
      obtain ⟨A3, c3, e3⟩ := Kd.R_slice hS
      subst e3
      have HSL : Aside0 (ss.length ≤ 12) := ⟨by rw [hss, fold_len]; have := HDL.out; have := HL.out; simp; omega⟩
      have HRS : Aside0 (r = ss.map (fun x => x.f0)) := ⟨by rw [HRES.out, hss]⟩
      have HS9 := Aside0.mk hS
      rename World => W9
      have HO9 : Aside0 (Kd.R (Kd.int .i64) 3 (W9.alloc (.cells #[] 3)) W9.heap.size (fun _ => True) (.slice (some ⟨W9.heap.size, 0, none⟩) 0 0) []) := ⟨Kd.R_of_own (ok := fun _ => True) (e := 3) (enc := Value.int .i64) (h1 := fun _ => rfl) (xs := []) (World.ownsRow_made (base := W9.heap.size) W9 #[] 0 (Nat.le_refl _) (Nat.zero_le _) rfl) (fun _ _ => trivial)⟩
      clear hlt hS hss HS HO
      go_wp2
      go_loopg [6, 7] ss.length (fun gg v6 v7 wr => ∃ j : Nat, v7 = .int .i64 j ∧ Aside0 (j ≤ ss.length ∧ ss.length - j ≤ gg) ∧ Aside0 (Kd.R (Kd.int .i64) 3 wr W9.heap.size (fun _ => True) v6 ((ss.map (fun x => x.f0)).take j)) ∧ Aside0 (Below W9.heap.size W9 wr))
      case atStart => exact ⟨0, rfl, ⟨by omega⟩, HO9, ⟨below_alloc (Below.refl _ _) _⟩⟩
      case round =>
        clear HO9
        obtain ⟨j, rfl, HJ, HV, HBV⟩ := hrel
        by_cases hj : j < ss.length
        · have hjb : ((j : Int) < (ss.length : Int)) = True := eq_true (by omega)
          obtain ⟨ad3, e3, hyc⟩ := tcell_of (Kd.R_reads' (Kd.R_below HS9.out HBV.out)).2.2 j hj
          subst e3
          obtain ⟨y, hy⟩ : ∃ y, ss[j] = y := ⟨_, rfl⟩
          rw [hy] at hyc
          obtain ⟨y0, _⟩ := hyc
          obtain ⟨vs, hvs⟩ : ∃ vs, vs = (ss.map (fun x => x.f0)).take j := ⟨_, rfl⟩
          have hV := HV.out
          rw [← hvs] at hV
          have hvl : vs.length ≤ 12 := by rw [hvs, List.length_take]; have := HSL.out; simp; omega
          obtain ⟨A6, c6, e6⟩ := Kd.R_slice hV
          subst e6
          have HV2 := Aside0.mk hV
          have HVL := Aside0.mk hvl
          have HVN : Aside0 ((ss.map (fun x => x.f0)).take (j + 1) = vs ++ [y.f0]) := ⟨by rw [List.take_succ_eq_append_getElem (by simpa using hj), ← hvs]; simp [hy]⟩
          have HJL := Aside0.mk hj
          have HWJ : Aside0 (wrap64 ((j : Int) + 1) = ((j + 1 : Nat) : Int)) := ⟨by have := HSL.out; unfold wrap64; omega⟩
          clear hV hvs hvl hy hj HV
          go_wp2_with (at_builtin; refine Kd.R_append (Kd.int .i64) (w0 := W9) W9.heap.size rfl (.tmp 59) (.tmp 65) 24 3 (.int .i64 0) 8 rfl Try.underlying24 (by kernel_rfl) rfl (by decide) (by omega) (.slice A6 vs.length c6) vs y.f0 [.int .i64 y.f0] (fun _ => True) (fun _ => False) rfl ?hx ?aP (fun _ h => h.elim) ?aF ?hO ?hB ?hs ?hl ?_; (case hx => exact rfl); (case aP => exact rfl); (case aF => exact fun _ _ => trivial); (case hO => exact HV2.out); (case hB => exact HBV.out); (case hs => exact HBV.out.size); (case hl => have := HVL.out; omega); intro v1 w4 hr hb hg hat; have H4 := Aside0.mk hr; have HB4 := Aside0.mk hb; clear hr hb hg hat)
          go_roundg (ss.length - (j + 1))
          case measure => have := HJ.out; have := HJL.out; omega
          case rel => exact ⟨j + 1, by rw [HWJ.out], ⟨by have := HJL.out; omega⟩, ⟨by rw [HVN.out]; exact H4.out⟩, HB4⟩
        · have hjb : ((j : Int) < (ss.length : Int)) = False := eq_false (by omega)
          have HE : Aside0 ((ss.map (fun x => x.f0)).take j = r) := ⟨by rw [HRS.out]; exact List.take_of_length_le (by simp; omega)⟩
          clear hj
          go_wp2
          go_ret
          have hV := HV.out
          rw [HE.out] at hV
          exact ⟨_, rfl, Kd.R_lower hV HB.out.size, below_step HB.out HBV.out⟩
end Go.Proofs.Ytieglenodannmaa.A
end
