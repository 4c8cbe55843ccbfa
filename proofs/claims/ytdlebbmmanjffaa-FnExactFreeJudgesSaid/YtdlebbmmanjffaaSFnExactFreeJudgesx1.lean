/- What the row FnExactFreeJudges rests on, put together: A3, A6, A7, A8, LWMark, LHMark, LHMarkJ, LHLFnExactFreeJudges, LOpen, LBase, LInt, A4, LRngS, A9, LRngI, LSqz, A5, A10, LJudge, LHas, LCont, LFree, LMark, LTotLe, LXFnExactFreeJudges. No condition. -/
import Derived.Test.YtdlebbmmanjffaaSFnExactFreeJudgesx0
import Derived.Deep.Slices
import Derived.Deep.Fields
import Derived.ChangeSame
import Derived.Lib.SmallJoins
section
namespace Go.Proofs.Ytdlebbmmanjffaa.A
open Go.RowKit Go.Proofs.YtdlebbmmanjffaaW.PrintWords Go.Proofs.YtdlebbmmanjffaaW.PrintLast Go.Proofs.YtdlebbmmanjffaaW.PrintMore
attribute [local go_sem] max2_int min2_int max_two min_two max_three min_three max_four min_four   -- for this text's walks alone
set_option linter.unusedVariables false
set_option linter.unusedSimpArgs false
def laws_szJudgeS.l0 : Nat → List (S38) → Int → Int → Option (Int)
  | 0, _, _, _ => none
  | k + 1, x0, x1, x5 => if x5 < (x0.length : Int) then (if 0 ≤ x5 then ((laws_szJudge.f ((rd_T38 x0 x5).f0) ((rd_T38 x0 x5).f1) ((rd_T38 x0 x5).f2) x1).bind fun t104 => (if t104 < 0 then (some (-1)) else (laws_szJudgeS.l0 k x0 t104 (wrap64 (x5 + 1))))) else (none)) else (some x1)
def laws_szJudgeS.f (k : Nat) (l0 : List (S38)) (a1 : Int) : Option (Int) := if (wrap64 (a1 - (l0.length : Int))) < 0 then (some (-1)) else (laws_szJudgeS.l0 k l0 (wrap64 (a1 - (l0.length : Int))) 0)
set_option maxHeartbeats 8000000 in
set_option maxRecDepth 100000 in
theorem laws_szJudgeS.calls (k : Nat) (A0 : Option Addr) (c0 : Nat) (l0 : List (S38)) (a1 : Int) (r : Int) (w : World) (hr0 : Kd.C k38 w A0 l0.length l0) (hc0 : l0.length ≤ c0) (h : laws_szJudgeS.f k l0 a1 = some r) :
  Calls Try.prog 10 #[.slice A0 l0.length c0, .int .i64 a1] w fun e w' => e = .returned (.int .i64 r) ∧ Below w.heap.size w w' := by
 have hu38 := Try.underlying38
 have HR0 := Aside0.mk hr0
 have HC0 := Aside0.mk hc0
 clear hr0 hc0
 have HB := Aside0.mk (Below.refl w.heap.size w)
 have H : (if (wrap64 (a1 - (l0.length : Int))) < 0 then (some (-1)) else (laws_szJudgeS.l0 k l0 (wrap64 (a1 - (l0.length : Int))) 0)) = some r := h
 clear h
 by_cases c3 : (wrap64 (a1 - (l0.length : Int))) < 0
 ·
  rw [if_pos c3] at H
  have c3b0 : decide ((wrap64 (a1 - (l0.length : Int))) < 0) = true := decide_eq_true c3
  clear c3
  obtain rfl := Option.some.inj H
  go_enter Try.func10, Try.ntmps10
  go_wp2
  go_ret
  exact ⟨by first | rfl | (simp [errW_none, errW_some] <;> rfl) | (simp [*, errW_none, errW_some] <;> rfl), by repeat (first | (with_reducible first | exact HB.out | apply below_alloc | apply pw_below_drewN | apply below_drew1) | exact HB.out)⟩
 ·
  rw [if_neg c3] at H
  have c3b0 : decide ((wrap64 (a1 - (l0.length : Int))) < 0) = false := decide_eq_false c3
  clear c3
  have H' := Aside0.mk H
  clear H
  go_enter Try.func10, Try.ntmps10
  go_wp2
  go_loopg [1, 5] k (fun kq v1 v5 w' => ∃ (x1_1 : Int) (x5_1 : Int), v1 = .int .i64 x1_1 ∧ v5 = .int .i64 x5_1 ∧ Aside0 (laws_szJudgeS.l0 kq l0 x1_1 x5_1 = some r) ∧ Aside0 (kq ≤ k) ∧ Aside0 (Below w.heap.size w w'))
  case atStart => exact ⟨(wrap64 (a1 - (l0.length : Int))), (0), (by first | rfl | (simp; done) | (simp [*]; done)), (by first | rfl | (simp; done) | (simp [*]; done)), H', ⟨Nat.le_refl _⟩, ⟨by repeat (first | (with_reducible first | exact HB.out | apply below_alloc | apply pw_below_drewN | apply below_drew1) | exact HB.out)⟩⟩
  case round =>
   clear H'
   try clear c1
   try clear p2
   try clear c3
   try clear c3b0
   obtain ⟨x1_1, x5_1, rfl, rfl, HA, HK1, HB⟩ := hrel
   cases gk with
   | zero => exact absurd HA.out (by simp [laws_szJudgeS.l0])
   | succ k1 =>
    have H := HA.out
    clear HA
    simp only [laws_szJudgeS.l0] at H
    by_cases c4 : x5_1 < (l0.length : Int)
    ·
     rw [if_pos c4] at H
     have c4b0 : decide (x5_1 < (l0.length : Int)) = true := decide_eq_true c4
     clear c4
     by_cases c5 : 0 ≤ x5_1
     ·
      rw [if_pos c5] at H
      have c5b0 : decide (0 ≤ x5_1) = true := decide_eq_true c5
      clear c5
      replace H := Option.bind_eq_some_iff.mp H
      obtain ⟨t104, A60, H⟩ := H
      replace H : (if t104 < 0 then (some (-1)) else (laws_szJudgeS.l0 k1 l0 t104 (wrap64 (x5_1 + 1)))) = some r := H
      have A6 := Aside0.mk A60
      clear A60
      by_cases c7 : t104 < 0
      ·
       rw [if_pos c7] at H
       have c7b0 : decide (t104 < 0) = true := decide_eq_true c7
       clear c7
       obtain rfl := Option.some.inj H
       have p103 : 0 ≤ (x5_1 : Int) := of_decide_eq_true (by first | (with_reducible assumption) | assumption)
       have q103 : x5_1 < (l0.length : Int) := of_decide_eq_true (by first | (with_reducible assumption) | assumption)
       obtain ⟨ad103, A103_2, c103_2, e103, hx103_0, hx103_1, hx103_2, hl103_2, hi103_2⟩ := at_T38 HR0.out x5_1 p103 q103
       cases e103
       replace hx103_0 := (HB.out.cell (World.block_lt_of_cell? w _ hx103_0)).trans hx103_0
       replace hx103_1 := (HB.out.cell (World.block_lt_of_cell? w _ hx103_1)).trans hx103_1
       replace hx103_2 := (HB.out.cell (World.block_lt_of_cell? w _ hx103_2)).trans hx103_2
       have HR103_2 := Aside0.mk hi103_2
       have HC103_2 := Aside0.mk hl103_2
       clear hi103_2 hl103_2
       replace p103 := eq_true p103
       replace q103 := eq_true q103
       go_wp2_with (first | ((with_reducible refine gate_callee (f := 23) rfl ?_); refine goesL_ (some 23) rfl rfl Try.func23 (by kernel_rfl) rfl #[.agg #[.int .i64 ((rd_T38 l0 x5_1).f0), .int .i64 ((rd_T38 l0 x5_1).f1), .slice A103_2 ((rd_T38 l0 x5_1).f2).length c103_2], .int .i64 x1_1] rfl (by (try simp only [List.map_toArray, List.map_cons, List.map_nil]); first | done | rfl | (simp only [List.length_drop, List.length_take]; rfl)) ?_; (with_reducible refine (laws_szJudge.calls ((rd_T38 l0 x5_1).f0) ((rd_T38 l0 x5_1).f1) _ _ ((rd_T38 l0 x5_1).f2) x1_1 t104 _ ?side1 ?side2 A6.out).mono ?_); (case side1 => repeat (first | exact (Kd.C_below HR103_2.out HB.out) | (with_reducible refine Kd.C_alloc ?_ _) | (with_reducible refine Kd.C_drewN ?_ _) | (with_reducible refine Kd.C_drew ?_))); (case side2 => exact HC103_2.out); rintro e w8 ⟨rfl, hb⟩; refine ⟨_, rfl, ?_⟩; have n0_ := Aside0.mk (below_step (by repeat (first | (with_reducible first | exact HB.out | apply below_alloc | apply pw_below_drewN | apply below_drew1) | exact HB.out)) hb); clear HB; have HB := n0_; clear n0_; (try clear hb); (try clear hb2); (try clear hk); (try clear hi)))
       go_ret
       exact ⟨by first | rfl | (simp [errW_none, errW_some] <;> rfl) | (simp [*, errW_none, errW_some] <;> rfl), by repeat (first | (with_reducible first | exact HB.out | apply below_alloc | apply pw_below_drewN | apply below_drew1) | exact HB.out)⟩
      ·
       rw [if_neg c7] at H
       have c7b0 : decide (t104 < 0) = false := decide_eq_false c7
       clear c7
       have H' := Aside0.mk H
       clear H
       have p103 : 0 ≤ (x5_1 : Int) := of_decide_eq_true (by first | (with_reducible assumption) | assumption)
       have q103 : x5_1 < (l0.length : Int) := of_decide_eq_true (by first | (with_reducible assumption) | assumption)
       obtain ⟨ad103, A103_2, c103_2, e103, hx103_0, hx103_1, hx103_2, hl103_2, hi103_2⟩ := at_T38 HR0.out x5_1 p103 q103
       cases e103
       replace hx103_0 := (HB.out.cell (World.block_lt_of_cell? w _ hx103_0)).trans hx103_0
       replace hx103_1 := (HB.out.cell (World.block_lt_of_cell? w _ hx103_1)).trans hx103_1
       replace hx103_2 := (HB.out.cell (World.block_lt_of_cell? w _ hx103_2)).trans hx103_2
       have HR103_2 := Aside0.mk hi103_2
       have HC103_2 := Aside0.mk hl103_2
       clear hi103_2 hl103_2
       replace p103 := eq_true p103
       replace q103 := eq_true q103
       go_wp2_with (first | ((with_reducible refine gate_callee (f := 23) rfl ?_); refine goesL_ (some 23) rfl rfl Try.func23 (by kernel_rfl) rfl #[.agg #[.int .i64 ((rd_T38 l0 x5_1).f0), .int .i64 ((rd_T38 l0 x5_1).f1), .slice A103_2 ((rd_T38 l0 x5_1).f2).length c103_2], .int .i64 x1_1] rfl (by (try simp only [List.map_toArray, List.map_cons, List.map_nil]); first | done | rfl | (simp only [List.length_drop, List.length_take]; rfl)) ?_; (with_reducible refine (laws_szJudge.calls ((rd_T38 l0 x5_1).f0) ((rd_T38 l0 x5_1).f1) _ _ ((rd_T38 l0 x5_1).f2) x1_1 t104 _ ?side1 ?side2 A6.out).mono ?_); (case side1 => repeat (first | exact (Kd.C_below HR103_2.out HB.out) | (with_reducible refine Kd.C_alloc ?_ _) | (with_reducible refine Kd.C_drewN ?_ _) | (with_reducible refine Kd.C_drew ?_))); (case side2 => exact HC103_2.out); rintro e w9 ⟨rfl, hb⟩; refine ⟨_, rfl, ?_⟩; have n0_ := Aside0.mk (below_step (by repeat (first | (with_reducible first | exact HB.out | apply below_alloc | apply pw_below_drewN | apply below_drew1) | exact HB.out)) hb); clear HB; have HB := n0_; clear n0_; (try clear hb); (try clear hb2); (try clear hk); (try clear hi)))
       go_roundg k1
       case measure => have := HK1.out; omega
       case rel => exact ⟨(t104), (wrap64 (x5_1 + 1)), (by first | rfl | (simp; done) | (simp [*]; done)), (by first | rfl | (simp; done) | (simp [*]; done)), H', ⟨by have := HK1.out; omega⟩, ⟨by repeat (first | (with_reducible first | exact HB.out | apply below_alloc | apply pw_below_drewN | apply below_drew1) | exact HB.out)⟩⟩
     ·
      rw [if_neg c5] at H
      exact absurd H (by simp)
    ·
     rw [if_neg c4] at H
     have c4b0 : decide (x5_1 < (l0.length : Int)) = false := decide_eq_false c4
     clear c4
     obtain rfl := Option.some.inj H
     go_wp2
     go_ret
     exact ⟨by first | rfl | (simp [errW_none, errW_some] <;> rfl) | (simp [*, errW_none, errW_some] <;> rfl), by repeat (first | (with_reducible first | exact HB.out | apply below_alloc | apply pw_below_drewN | apply below_drew1) | exact HB.out)⟩
end Go.Proofs.Ytdlebbmmanjffaa.A
end

section
namespace Go.Proofs.Ytdlebbmmanjffaa.A
open Go.RowKit Go.Proofs.YtdlebbmmanjffaaW.PrintWords Go.Proofs.YtdlebbmmanjffaaW.PrintLast Go.Proofs.YtdlebbmmanjffaaW.PrintMore
attribute [local go_sem] max2_int min2_int max_two min_two max_three min_three max_four min_four   -- for this text's walks alone
set_option linter.unusedVariables false
set_option linter.unusedSimpArgs false
def laws_toIntS.l0 : Nat → List Int → List Int → Int → Option (List Int)
  | 0, _, _, _ => none
  | k + 1, x0, x3, x4 => if x4 < (x0.length : Int) then (if 0 ≤ x4 then (if x4 < (x3.length : Int) then (laws_toIntS.l0 k x0 (x3.set (x4 : Int).toNat (rd x0 x4)) (wrap64 (x4 + 1))) else (none)) else (none)) else (some x3)
def laws_toIntS.f (k : Nat) (l0 : List Int) : Option (List Int) := if 0 ≤ (l0.length : Int) then (if ((l0.length : Int) : Int).toNat ≤ 35184372088832 then (laws_toIntS.l0 k l0 (List.replicate ((l0.length : Int) : Int).toNat 0) 0) else (none)) else (none)
set_option maxHeartbeats 8000000 in
set_option maxRecDepth 100000 in
theorem laws_toIntS.calls (k : Nat) (A0 : Option Addr) (c0 : Nat) (l0 : List Int) (r : List Int) (w : World) (hr0 : Kd.C (Kd.int .i64) w A0 l0.length l0) (hc0 : l0.length ≤ c0) (h : laws_toIntS.f k l0 = some r) :
  Calls Try.prog 16 #[.slice A0 l0.length c0] w fun e w' => ∃ v0_ : Value, e = .returned (v0_) ∧ Kd.R (Kd.int .i64) 3 w' w.heap.size (fun _ => True) v0_ r ∧ Below w.heap.size w w' := by
 have HR0 := Aside0.mk hr0
 have HC0 := Aside0.mk hc0
 clear hr0 hc0
 have HB := Aside0.mk (Below.refl w.heap.size w)
 have H : (if 0 ≤ (l0.length : Int) then (if ((l0.length : Int) : Int).toNat ≤ 35184372088832 then (laws_toIntS.l0 k l0 (List.replicate ((l0.length : Int) : Int).toNat 0) 0) else (none)) else (none)) = some r := h
 clear h
 by_cases c2 : 0 ≤ (l0.length : Int)
 ·
  rw [if_pos c2] at H
  have c2b0 := eq_true c2
  have c2b1 : decide (0 ≤ (l0.length : Int)) = true := decide_eq_true c2
  clear c2
  by_cases c3 : ((l0.length : Int) : Int).toNat ≤ 35184372088832
  ·
   rw [if_pos c3] at H
   have c3b0 := eq_true c3
   have c3b1 : decide (((l0.length : Int) : Int).toNat ≤ 35184372088832) = true := decide_eq_true c3
   clear c3
   obtain ⟨y119, hy119⟩ : ∃ y_ : List Int, y_ = (List.replicate ((l0.length : Int) : Int).toNat 0) := ⟨_, rfl⟩
   replace H : (laws_toIntS.l0 k l0 y119 0) = some r := by first | (rw [hy119]; with_reducible exact H) | (have H2_ := (Option.bind_some _ _).symm.trans H; rw [hy119]; with_reducible exact H2_) | (have H2_ := (Option.bind_some _ _).symm.trans H; with_reducible exact H2_) | with_reducible exact H | (rw [hy119]; exact H) | exact H
   have Ny119 := Aside0.mk hy119
   clear hy119
   have H' := Aside0.mk H
   clear H
   go_enter Try.func16, Try.ntmps16
   go_wp2_with (first | ((with_reducible refine gate_dst (N := 7) rfl ?_); refine Kd.R_make (Kd.int .i64) _ 3 rfl (N := 7) rfl 29 _ _ rfl (l0.length : Int) rfl rfl Try.underlying29 (.int .i64 0) 8 info3 rfl (by decide) (by omega) 0 (ok := fun _ => True) (okp := fun _ => True) rfl (fun _ hk => hk) trivial (of_decide_eq_true (by first | (with_reducible assumption) | assumption)) (Nat.le_trans (Nat.mul_le_mul_right _ (of_decide_eq_true (by first | (with_reducible assumption) | assumption) : (l0.length : Int).toNat ≤ 35184372088832)) (by omega)) (Below.refl _ _) (Nat.le_refl _) ?_; intro v120 w4 ho5 hb hg_ hnew_; clear hg_ hnew_; (first | rw [← Ny119.out] at ho5 | (simp only [Int.reduceToNat] at ho5; rw [← Ny119.out] at ho5)); have n0_ := Aside0.mk (Kd.R_lower ho5 (below_size (by repeat (first | (with_reducible first | exact HB.out | apply below_alloc | apply pw_below_drewN | apply below_drew1) | exact HB.out)))); have n1_ := Aside0.mk (below_step (by repeat (first | (with_reducible first | exact HB.out | apply below_alloc | apply pw_below_drewN | apply below_drew1) | exact HB.out)) hb); clear HB; have HO121 := n0_; have HB := n1_; clear n0_ n1_; clear hb ho5))
   go_loopg [4] k (fun kq v4 w' => ∃ (x3_1 : List Int) (x4_1 : Int), v4 = .int .i64 x4_1 ∧ Aside0 (laws_toIntS.l0 kq l0 x3_1 x4_1 = some r) ∧ Aside0 (kq ≤ k) ∧ Aside0 (Kd.R (Kd.int .i64) 3 w' w.heap.size (fun _ => True) v120 x3_1) ∧ Aside0 (Below w.heap.size w w'))
   case atStart => exact ⟨(y119), (0), (by first | rfl | (simp; done) | (simp [*]; done)), H', ⟨Nat.le_refl _⟩, ⟨by (with_reducible repeat (first | apply Kd.R_alloc | apply Kd.R_drewN | apply Kd.R_drew)); exact HO121.out⟩, ⟨by repeat (first | (with_reducible first | exact HB.out | apply below_alloc | apply pw_below_drewN | apply below_drew1) | exact HB.out)⟩⟩
   case round =>
    clear H'
    try clear c1
    try clear c2
    try clear c2b0
    try clear c2b1
    try clear p2
    try clear c3
    try clear c3b0
    try clear c3b1
    obtain ⟨x3_1, x4_1, rfl, HA, HK1, HO_3, HB⟩ := hrel
    cases gk with
    | zero => exact absurd HA.out (by simp [laws_toIntS.l0])
    | succ k1 =>
     have H := HA.out
     clear HA
     simp only [laws_toIntS.l0] at H
     by_cases c6 : x4_1 < (l0.length : Int)
     ·
      rw [if_pos c6] at H
      have c6b0 : decide (x4_1 < (l0.length : Int)) = true := decide_eq_true c6
      clear c6
      by_cases c7 : 0 ≤ x4_1
      ·
       rw [if_pos c7] at H
       have c7b0 : decide (0 ≤ x4_1) = true := decide_eq_true c7
       clear c7
       by_cases c8 : x4_1 < (x3_1.length : Int)
       ·
        rw [if_pos c8] at H
        have c8b0 : decide (x4_1 < (x3_1.length : Int)) = true := decide_eq_true c8
        clear c8
        obtain ⟨y123, hy123⟩ : ∃ y_ : List Int, y_ = (x3_1.set (x4_1 : Int).toNat (rd l0 x4_1)) := ⟨_, rfl⟩
        replace H : (laws_toIntS.l0 k1 l0 y123 (wrap64 (x4_1 + 1))) = some r := by first | (rw [hy123]; with_reducible exact H) | (have H2_ := (Option.bind_some _ _).symm.trans H; rw [hy123]; with_reducible exact H2_) | (have H2_ := (Option.bind_some _ _).symm.trans H; with_reducible exact H2_) | with_reducible exact H | (rw [hy123]; exact H) | exact H
        have Ny123 := Aside0.mk hy123
        clear hy123
        have H' := Aside0.mk H
        clear H
        have p122 : 0 ≤ (x4_1 : Int) := of_decide_eq_true (by first | (with_reducible assumption) | assumption)
        have q122 : x4_1 < (l0.length : Int) := of_decide_eq_true (by first | (with_reducible assumption) | assumption)
        obtain ⟨ad122, e122, hx122_0⟩ := Kd.at_int HR0.out x4_1 p122 q122
        cases e122
        replace hx122_0 := (HB.out.cell (World.block_lt_of_cell? w _ hx122_0)).trans hx122_0
        replace p122 := eq_true p122
        replace q122 := eq_true q122
        have p9 : 0 ≤ (x4_1 : Int) := of_decide_eq_true (by first | (with_reducible assumption) | assumption)
        have q9 : (x4_1 : Int) < ((x3_1.length : Int) : Int) := of_decide_eq_true (by first | (with_reducible assumption) | assumption)
        obtain ⟨go9, co9, eo9, gb9, gl9, cl9, HG9⟩ := Kd.R_form HO_3.out (by omega)
        (first | cases eo9 | (injection eo9 with ea_ en_ ec_; (first | subst ea_ | (injection ea_ with ea_; subst ea_)); subst ec_; clear en_))
        have GB9 := Aside0.mk gb9
        have GG9 := Aside0.mk HG9
        clear gb9 gl9 HG9
        obtain ⟨hx9_0, hf9_0⟩ := Kd.R_celln 0 HO_3.out (x4_1 : Int) p9 q9
        replace p9 := eq_true p9
        replace q9 := eq_true q9
        have HP10 := Kd.R_putg HO_3.out (x4_1 : Int) (rd l0 x4_1)
        go_wp2_with (first | ((with_reducible refine gate_store (t := 3) (p := 20) rfl ?_); refine store_event (t := 3) (p := 20) (v := ?vo_w11) (w1 := (wr.setCell ⟨go9, (x4_1 : Int).toNat, none⟩ (.int .i64 (rd l0 x4_1)))) ?hg ?ho ?hn ?hr ?_; (case ho => rfl); (case hg => rfl); (case hn => rfl); (case hr => first | (go_simp; done) | (go_simp; rfl)); intro w11 hw; have hg : wr.grownBy w11 (some go9) := (by rw [hw]; exact HP10.2); have hp_ : Kd.R (Kd.int .i64) 3 w11 w.heap.size (fun _ => True) (.slice (some ⟨go9, 0, none⟩) x3_1.length co9) y123 := (by rw [hw, Ny123.out]; exact HP10.1); clear HP10; have n0_ := Aside0.mk (hp_); have n1_ := Aside0.mk ((by rw [hw]; exact below_set (HB.out) GB9.out : Below w.heap.size w w11)); clear HO_3; clear HB; have HO_3 := n0_; have HB := n1_; clear n0_ n1_; clear hg hw hp_))
        go_roundg k1
        case measure => have := HK1.out; omega
        case rel => exact ⟨(y123), (wrap64 (x4_1 + 1)), (by first | rfl | (simp; done) | (simp [*]; done)), H', ⟨by have := HK1.out; omega⟩, ⟨by (with_reducible repeat (first | apply Kd.R_alloc | apply Kd.R_drewN | apply Kd.R_drew)); exact HO_3.out⟩, ⟨by repeat (first | (with_reducible first | exact HB.out | apply below_alloc | apply pw_below_drewN | apply below_drew1) | exact HB.out)⟩⟩
       ·
        rw [if_neg c8] at H
        exact absurd H (by simp)
      ·
       rw [if_neg c7] at H
       exact absurd H (by simp)
     ·
      rw [if_neg c6] at H
      have c6b0 : decide (x4_1 < (l0.length : Int)) = false := decide_eq_false c6
      clear c6
      obtain rfl := Option.some.inj H
      go_wp2
      go_ret
      exact ⟨_, by first | rfl | (simp [errW_none, errW_some] <;> rfl) | (simp [*, errW_none, errW_some] <;> rfl), by (with_reducible repeat (first | apply Kd.R_alloc | apply Kd.R_drewN | apply Kd.R_drew)); exact HO_3.out, by repeat (first | (with_reducible first | exact HB.out | apply below_alloc | apply pw_below_drewN | apply below_drew1) | exact HB.out)⟩
  ·
   rw [if_neg c3] at H
   exact absurd H (by simp)
 ·
  rw [if_neg c2] at H
  exact absurd H (by simp)
end Go.Proofs.Ytdlebbmmanjffaa.A
end

section
namespace Go.Proofs.Ytdlebbmmanjffaa.A
open Go.RowKit Go.Proofs.YtdlebbmmanjffaaW.PrintWords Go.Proofs.YtdlebbmmanjffaaW.PrintLast Go.Proofs.YtdlebbmmanjffaaW.PrintMore
attribute [local go_sem] max2_int min2_int max_two min_two max_three min_three max_four min_four   -- for this text's walks alone
set_option linter.unusedVariables false
set_option linter.unusedSimpArgs false
def laws_toJudge.f (k : Nat) (a0_0 : Int) (a0_1 : Int) (l0_2 : List Int) : Option (Int × Int × List Int) := (laws_toIntS.f k l0_2).bind fun t127 => (some (a0_0, a0_1, t127))
set_option maxHeartbeats 8000000 in
set_option maxRecDepth 100000 in
theorem laws_toJudge.calls (k : Nat) (a0_0 : Int) (a0_1 : Int) (A0_2 : Option Addr) (c0_2 : Nat) (l0_2 : List Int) (r1 : Int) (r2 : Int) (r3 : List Int) (w : World) (hr0_2 : Kd.C (Kd.int .i64) w A0_2 l0_2.length l0_2) (hc0_2 : l0_2.length ≤ c0_2) (h : laws_toJudge.f k a0_0 a0_1 l0_2 = some (r1, r2, r3)) :
  Calls Try.prog 26 #[.agg #[.int .i64 a0_0, .int .i64 a0_1, .slice A0_2 l0_2.length c0_2]] w fun e w' => ∃ v2_ : Value, e = .returned (.agg #[.int .i64 r1, .int .i64 r2, v2_]) ∧ Kd.R (Kd.int .i64) 3 w' w.heap.size (fun _ => True) v2_ r3 ∧ Below w.heap.size w w' := by
 have hu38 := Try.underlying38
 have hu46 := Try.underlying46
 have HR0_2 := Aside0.mk hr0_2
 have HC0_2 := Aside0.mk hc0_2
 clear hr0_2 hc0_2
 have HB := Aside0.mk (Below.refl w.heap.size w)
 have H : ((laws_toIntS.f k l0_2).bind fun t127 => (some (a0_0, a0_1, t127))) = some (r1, r2, r3) := h
 clear h
 replace H := Option.bind_eq_some_iff.mp H
 obtain ⟨t127, A20, H⟩ := H
 replace H : (some (a0_0, a0_1, t127)) = some (r1, r2, r3) := H
 have A2 := Aside0.mk A20
 clear A20
 simp only [Option.some.injEq, Prod.mk.injEq] at H
 obtain ⟨rfl, rfl, rfl⟩ := H
 go_enter Try.func26, Try.ntmps26
 go_wp2_with (first | ((with_reducible refine gate_dst (N := 1) rfl ?_); refine box_event ?hg (N := 1) ?hd (cs := #[.int .i64 a0_0, .int .i64 a0_1, .slice A0_2 l0_2.length c0_2]) (t := 38) ?hr ?_; (case hd => rfl); (case hg => rfl); (case hr => first | (go_simp; done) | (go_simp; rfl)); intro gb124 hg w3 hbox hb; have n0_ := Aside0.mk (below_step (by repeat (first | (with_reducible first | exact HB.out | apply below_alloc | apply pw_below_drewN | apply below_drew1) | exact HB.out)) hb); have n1_ := Aside0.mk (hbox); have n2_ := Aside0.mk ((by rw [hg]; exact (below_size (by repeat (first | (with_reducible first | exact HB.out | apply below_alloc | apply pw_below_drewN | apply below_drew1) | exact HB.out))) : w.heap.size ≤ gb124)); have n3_ := Aside0.mk ((by rw [hg]; exact (below_size (by repeat (first | (with_reducible first | exact HB.out | apply below_alloc | apply pw_below_drewN | apply below_drew1) | exact HB.out))) : w.heap.size ≤ gb124)); clear HB; have HB := n0_; have BK124 := n1_; have GW124 := n2_; have GE124 := n3_; clear n0_ n1_ n2_ n3_; clear hb hbox hg) | ((with_reducible refine gate_dst (N := 2) rfl ?_); refine box_event ?hg (N := 2) ?hd (cs := #[.int .i64 0, .int .i64 0, .slice none 0 0]) (t := 46) ?hr ?_; (case hd => rfl); (case hg => rfl); (case hr => first | (go_simp; done) | (go_simp; rfl)); intro gb125 hg w4 hbox hb; have n0_ := Aside0.mk (blk_below (g := gb124) (o := .cells #[.int .i64 a0_0, .int .i64 a0_1, .slice A0_2 l0_2.length c0_2] 38 (0, 0)) (by (with_reducible repeat (first | refine blk_drewN ?_ _ | refine blk_drew ?_ | refine blk_alloc ?_ _)); exact BK124.out) hb); have n1_ := Aside0.mk (below_step (by repeat (first | (with_reducible first | exact HB.out | apply below_alloc | apply pw_below_drewN | apply below_drew1 | refine below_set ?_ GE124.out) | exact HB.out)) hb); have n2_ := Aside0.mk (hbox); have n3_ := Aside0.mk ((by rw [hg]; exact (below_size (by repeat (first | (with_reducible first | exact HB.out | apply below_alloc | apply pw_below_drewN | apply below_drew1 | refine below_set ?_ GE124.out) | exact HB.out))) : w.heap.size ≤ gb125)); have n4_ := Aside0.mk ((by rw [hg]; exact (below_size (by repeat (first | (with_reducible first | exact HB.out | apply below_alloc | apply pw_below_drewN | apply below_drew1 | refine below_set ?_ GE124.out) | exact HB.out))) : w.heap.size ≤ gb125)); have n5_ := Aside0.mk ((by rw [hg]; exact Nat.ne_of_lt (blk_lt (g := gb124) (o := .cells #[.int .i64 a0_0, .int .i64 a0_1, .slice A0_2 l0_2.length c0_2] 38 (0, 0)) (by (with_reducible repeat (first | refine blk_drewN ?_ _ | refine blk_drew ?_ | refine blk_alloc ?_ _)); exact BK124.out)) : gb124 ≠ gb125)); have n6_ := Aside0.mk ((by rw [hg]; exact Nat.ne_of_gt (blk_lt (g := gb124) (o := .cells #[.int .i64 a0_0, .int .i64 a0_1, .slice A0_2 l0_2.length c0_2] 38 (0, 0)) (by (with_reducible repeat (first | refine blk_drewN ?_ _ | refine blk_drew ?_ | refine blk_alloc ?_ _)); exact BK124.out)) : gb125 ≠ gb124)); clear BK124; clear HB; have BK124 := n0_; have HB := n1_; have BK125 := n2_; have GW125 := n3_; have GE125 := n4_; have NB124_125 := n5_; have NB125_124 := n6_; clear n0_ n1_ n2_ n3_ n4_ n5_ n6_; clear hb hbox hg) | ((with_reducible refine gate_dst (N := 3) rfl ?_); refine box_event ?hg (N := 3) ?hd (cs := #[.int .i64 0, .int .i64 0, .slice none 0 0]) (t := 46) ?hr ?_; (case hd => rfl); (case hg => rfl); (case hr => first | (go_simp; done) | (go_simp; rfl)); intro gb126 hg w5 hbox hb; have n0_ := Aside0.mk (blk_below (g := gb124) (o := .cells #[.int .i64 a0_0, .int .i64 a0_1, .slice A0_2 l0_2.length c0_2] 38 (0, 0)) (by (with_reducible repeat (first | refine blk_drewN ?_ _ | refine blk_drew ?_ | refine blk_alloc ?_ _)); exact BK124.out) hb); have n1_ := Aside0.mk (blk_below (g := gb125) (o := .cells #[.int .i64 0, .int .i64 0, .slice none 0 0] 46 (0, 0)) (by (with_reducible repeat (first | refine blk_drewN ?_ _ | refine blk_drew ?_ | refine blk_alloc ?_ _)); exact BK125.out) hb); have n2_ := Aside0.mk (below_step (by repeat (first | (with_reducible first | exact HB.out | apply below_alloc | apply pw_below_drewN | apply below_drew1 | refine below_set ?_ GE124.out | refine below_set ?_ GE125.out) | exact HB.out)) hb); have n3_ := Aside0.mk (hbox); have n4_ := Aside0.mk ((by rw [hg]; exact (below_size (by repeat (first | (with_reducible first | exact HB.out | apply below_alloc | apply pw_below_drewN | apply below_drew1 | refine below_set ?_ GE124.out | refine below_set ?_ GE125.out) | exact HB.out))) : w.heap.size ≤ gb126)); have n5_ := Aside0.mk ((by rw [hg]; exact (below_size (by repeat (first | (with_reducible first | exact HB.out | apply below_alloc | apply pw_below_drewN | apply below_drew1 | refine below_set ?_ GE124.out | refine below_set ?_ GE125.out) | exact HB.out))) : w.heap.size ≤ gb126)); have n6_ := Aside0.mk ((by rw [hg]; exact Nat.ne_of_lt (blk_lt (g := gb124) (o := .cells #[.int .i64 a0_0, .int .i64 a0_1, .slice A0_2 l0_2.length c0_2] 38 (0, 0)) (by (with_reducible repeat (first | refine blk_drewN ?_ _ | refine blk_drew ?_ | refine blk_alloc ?_ _)); exact BK124.out)) : gb124 ≠ gb126)); have n7_ := Aside0.mk ((by rw [hg]; exact Nat.ne_of_gt (blk_lt (g := gb124) (o := .cells #[.int .i64 a0_0, .int .i64 a0_1, .slice A0_2 l0_2.length c0_2] 38 (0, 0)) (by (with_reducible repeat (first | refine blk_drewN ?_ _ | refine blk_drew ?_ | refine blk_alloc ?_ _)); exact BK124.out)) : gb126 ≠ gb124)); have n8_ := Aside0.mk ((by rw [hg]; exact Nat.ne_of_lt (blk_lt (g := gb125) (o := .cells #[.int .i64 0, .int .i64 0, .slice none 0 0] 46 (0, 0)) (by (with_reducible repeat (first | refine blk_drewN ?_ _ | refine blk_drew ?_ | refine blk_alloc ?_ _)); exact BK125.out)) : gb125 ≠ gb126)); have n9_ := Aside0.mk ((by rw [hg]; exact Nat.ne_of_gt (blk_lt (g := gb125) (o := .cells #[.int .i64 0, .int .i64 0, .slice none 0 0] 46 (0, 0)) (by (with_reducible repeat (first | refine blk_drewN ?_ _ | refine blk_drew ?_ | refine blk_alloc ?_ _)); exact BK125.out)) : gb126 ≠ gb125)); clear BK124; clear BK125; clear HB; have BK124 := n0_; have BK125 := n1_; have HB := n2_; have BK126 := n3_; have GW126 := n4_; have GE126 := n5_; have NB124_126 := n6_; have NB126_124 := n7_; have NB125_126 := n8_; have NB126_125 := n9_; clear n0_ n1_ n2_ n3_ n4_ n5_ n6_ n7_ n8_ n9_; clear hb hbox hg; have hnb6 := NB124_125.out; have hnc6 := NB125_124.out; have hnb7 := NB124_126.out; have hnc7 := NB126_124.out; have hcz8_0 : w5.cell? ⟨gb124, 0, none⟩ = some (.int .i64 a0_0) := (blk_cell BK124.out 0).trans rfl; have hcz8_1 : w5.cell? ⟨gb124, 1, none⟩ = some (.int .i64 a0_1) := (blk_cell BK124.out 1).trans rfl; have hcz8_2 : w5.cell? ⟨gb124, 2, none⟩ = some (.slice A0_2 l0_2.length c0_2) := (blk_cell BK124.out 2).trans rfl; have hfz8_0 := blk_frozen BK124.out 0; have hfz8_1 := blk_frozen BK124.out 1; have hfz8_2 := blk_frozen BK124.out 2; have hnb9 := NB126_125.out; have hnc9 := NB125_126.out; have hcz10_0 : w5.cell? ⟨gb126, 0, none⟩ = some (.int .i64 0) := (blk_cell BK126.out 0).trans rfl; have hcz10_1 : w5.cell? ⟨gb126, 1, none⟩ = some (.int .i64 0) := (blk_cell BK126.out 1).trans rfl; have hcz10_2 : w5.cell? ⟨gb126, 2, none⟩ = some (.slice none 0 0) := (blk_cell BK126.out 2).trans rfl; have hfz10_0 := blk_frozen BK126.out 0; have hfz10_1 := blk_frozen BK126.out 1; have hfz10_2 := blk_frozen BK126.out 2) | ((with_reducible refine gate_callee (f := 16) rfl ?_); refine goesL_ (some 12) rfl rfl Try.func16 (by kernel_rfl) rfl #[.slice A0_2 l0_2.length c0_2] rfl (by (try simp only [List.map_toArray, List.map_cons, List.map_nil]); first | done | rfl | (simp only [List.length_drop, List.length_take]; rfl)) ?_; (with_reducible refine (laws_toIntS.calls k _ _ l0_2 t127 _ ?side1 ?side2 A2.out).mono ?_); (case side1 => exact Kd.C_below HR0_2.out (by repeat (first | (with_reducible first | exact HB.out | apply below_alloc | apply pw_below_drewN | apply below_drew1 | refine below_set ?_ GE124.out | refine below_set ?_ GE125.out | refine below_set ?_ GE126.out) | exact HB.out))); (case side2 => exact HC0_2.out); rintro e w11 ⟨v128, rfl, ho0, hb⟩; refine ⟨_, rfl, ?_⟩; have n0_ := Aside0.mk (Kd.R_lower ho0 (below_size (by repeat (first | (with_reducible first | exact HB.out | apply below_alloc | apply pw_below_drewN | apply below_drew1 | refine below_set ?_ GE124.out | refine below_set ?_ GE125.out | refine below_set ?_ GE126.out) | exact HB.out)))); have n1_ := Aside0.mk (blk_below (g := gb124) (o := .cells #[.int .i64 a0_0, .int .i64 a0_1, .slice A0_2 l0_2.length c0_2] 38 (0, 0)) (by (with_reducible repeat (first | refine blk_drewN ?_ _ | refine blk_drew ?_ | refine blk_alloc ?_ _)); refine blk_far ?_ NB124_126.out _; (with_reducible repeat (first | refine blk_drewN ?_ _ | refine blk_drew ?_ | refine blk_alloc ?_ _)); refine blk_far ?_ NB124_126.out _; (with_reducible repeat (first | refine blk_drewN ?_ _ | refine blk_drew ?_ | refine blk_alloc ?_ _)); exact BK124.out) hb); have n2_ := Aside0.mk (blk_below (g := gb125) (o := .cells #[.int .i64 0, .int .i64 0, .slice none 0 0] 46 (0, 0)) (by (with_reducible repeat (first | refine blk_drewN ?_ _ | refine blk_drew ?_ | refine blk_alloc ?_ _)); refine blk_far ?_ NB125_126.out _; (with_reducible repeat (first | refine blk_drewN ?_ _ | refine blk_drew ?_ | refine blk_alloc ?_ _)); refine blk_far ?_ NB125_126.out _; (with_reducible repeat (first | refine blk_drewN ?_ _ | refine blk_drew ?_ | refine blk_alloc ?_ _)); exact BK125.out) hb); have n3_ := Aside0.mk (blk_below (g := gb126) (o := .cells #[.int .i64 a0_0, .int .i64 a0_1, .slice none 0 0] 46 (0, 0)) (by (with_reducible repeat (first | refine blk_drewN ?_ _ | refine blk_drew ?_ | refine blk_alloc ?_ _)); refine blk_put (cs := #[.int .i64 a0_0, .int .i64 0, .slice none 0 0]) ?_ 1 _ rfl; (with_reducible repeat (first | refine blk_drewN ?_ _ | refine blk_drew ?_ | refine blk_alloc ?_ _)); refine blk_put (cs := #[.int .i64 0, .int .i64 0, .slice none 0 0]) ?_ 0 _ rfl; (with_reducible repeat (first | refine blk_drewN ?_ _ | refine blk_drew ?_ | refine blk_alloc ?_ _)); exact BK126.out) hb); have n4_ := Aside0.mk (below_step (by repeat (first | (with_reducible first | exact HB.out | apply below_alloc | apply pw_below_drewN | apply below_drew1 | refine below_set ?_ GE124.out | refine below_set ?_ GE125.out | refine below_set ?_ GE126.out) | exact HB.out)) hb); clear BK124; clear BK125; clear BK126; clear HB; have HO129 := n0_; have BK124 := n1_; have BK125 := n2_; have BK126 := n3_; have HB := n4_; clear n0_ n1_ n2_ n3_ n4_; (try clear hb); (try clear hb2); (try clear hk); (try clear hi); (try clear ho0); obtain ⟨Ao12, co12, eo12⟩ := Kd.R_slice HO129.out; subst eo12; have hcz13_0 : w11.cell? ⟨gb126, 0, none⟩ = some (.int .i64 a0_0) := (blk_cell BK126.out 0).trans rfl; have hcz13_1 : w11.cell? ⟨gb126, 1, none⟩ = some (.int .i64 a0_1) := (blk_cell BK126.out 1).trans rfl; have hcz13_2 : w11.cell? ⟨gb126, 2, none⟩ = some (.slice none 0 0) := (blk_cell BK126.out 2).trans rfl; have hfz13_0 := blk_frozen BK126.out 0; have hfz13_1 := blk_frozen BK126.out 1; have hfz13_2 := blk_frozen BK126.out 2; have hcz14_0 : w11.cell? ⟨gb125, 0, none⟩ = some (.int .i64 0) := (blk_cell BK125.out 0).trans rfl; have hcz14_1 : w11.cell? ⟨gb125, 1, none⟩ = some (.int .i64 0) := (blk_cell BK125.out 1).trans rfl; have hcz14_2 : w11.cell? ⟨gb125, 2, none⟩ = some (.slice none 0 0) := (blk_cell BK125.out 2).trans rfl; have hfz14_0 := blk_frozen BK125.out 0; have hfz14_1 := blk_frozen BK125.out 1; have hfz14_2 := blk_frozen BK125.out 2))
 refine bodyPost_ret (results_cell_row rfl _ _ gb125 46 #[.int .i64 a0_0, .int .i64 a0_1, .slice Ao12 t127.length co12] (0, 0) _ rfl (by (with_reducible repeat (first | refine blk_drewN ?_ _ | refine blk_drew ?_ | refine blk_alloc ?_ _)); refine blk_put (cs := #[.int .i64 a0_0, .int .i64 a0_1, .slice none 0 0]) ?_ 2 _ rfl; (with_reducible repeat (first | refine blk_drewN ?_ _ | refine blk_drew ?_ | refine blk_alloc ?_ _)); refine blk_put (cs := #[.int .i64 a0_0, .int .i64 0, .slice none 0 0]) ?_ 1 _ rfl; (with_reducible repeat (first | refine blk_drewN ?_ _ | refine blk_drew ?_ | refine blk_alloc ?_ _)); refine blk_put (cs := #[.int .i64 0, .int .i64 0, .slice none 0 0]) ?_ 0 _ rfl; (with_reducible repeat (first | refine blk_drewN ?_ _ | refine blk_drew ?_ | refine blk_alloc ?_ _)); refine blk_far ?_ NB125_126.out _; (with_reducible repeat (first | refine blk_drewN ?_ _ | refine blk_drew ?_ | refine blk_alloc ?_ _)); exact BK125.out) Try.underlying46 rfl (by kernel_rfl)) rfl ?_
 exact ⟨_, by first | rfl | (simp [errW_none, errW_some] <;> rfl) | (simp [*, errW_none, errW_some] <;> rfl), by (with_reducible repeat (first | apply Kd.R_alloc | apply Kd.R_drewN | apply Kd.R_drew)); exact Kd.R_mono (Kd.R_far (p := ⟨gb125, 2, none⟩) (Kd.R_far (p := ⟨gb125, 1, none⟩) (Kd.R_far (p := ⟨gb125, 0, none⟩) (Kd.R_far (p := ⟨gb126, 2, none⟩) (Kd.R_types (Kd.R_types HO129.out BK126.out (by decide)) BK125.out (by decide)) (fun _ hk => hk.1.2) (.slice Ao12 t127.length co12)) (fun _ hk => hk.2) (.int .i64 a0_0)) (fun _ hk => hk.2) (.int .i64 a0_1)) (fun _ hk => hk.2) (.slice Ao12 t127.length co12)) (fun _ hk => trivial), by repeat (first | (with_reducible first | exact HB.out | apply below_alloc | apply pw_below_drewN | apply below_drew1 | refine below_set ?_ GE124.out | refine below_set ?_ GE125.out | refine below_set ?_ GE126.out) | exact HB.out)⟩
end Go.Proofs.Ytdlebbmmanjffaa.A
end

section
namespace Go.Proofs.Ytdlebbmmanjffaa.A
open Go.RowKit Go.Proofs.YtdlebbmmanjffaaW.PrintWords Go.Proofs.YtdlebbmmanjffaaW.PrintLast Go.Proofs.YtdlebbmmanjffaaW.PrintMore
attribute [local go_sem] max2_int min2_int max_two min_two max_three min_three max_four min_four   -- for this text's walks alone
set_option linter.unusedVariables false
set_option linter.unusedSimpArgs false
def laws_toJudgeS.l0 : Nat → List (S38) → List (S46) → Int → Option ((List (S46)))
  | 0, _, _, _ => none
  | k + 1, x0, x3, x4 => if x4 < (x0.length : Int) then (if 0 ≤ x4 then ((laws_toJudge.f k ((rd_T38 x0 x4).f0) ((rd_T38 x0 x4).f1) ((rd_T38 x0 x4).f2)).bind fun bt134 => (if x4 < (x3.length : Int) then (laws_toJudgeS.l0 k x0 (x3.set (x4 : Int).toNat (⟨bt134.1, bt134.2.1, bt134.2.2⟩ : S46)) (wrap64 (x4 + 1))) else (none))) else (none)) else (some x3)
def laws_toJudgeS.f (k : Nat) (l0 : List (S38)) : Option ((List (S46))) := if 0 ≤ (l0.length : Int) then (if ((l0.length : Int) : Int).toNat ≤ 7036874417766 then (laws_toJudgeS.l0 k l0 (List.replicate ((l0.length : Int) : Int).toNat z46) 0) else (none)) else (none)
set_option maxHeartbeats 8000000 in
set_option maxRecDepth 100000 in
theorem laws_toJudgeS.calls (k : Nat) (A0 : Option Addr) (c0 : Nat) (l0 : List (S38)) (r : List (S46)) (w : World) (hr0 : Kd.C k38 w A0 l0.length l0) (hc0 : l0.length ≤ c0) (h : laws_toJudgeS.f k l0 = some r) :
  Calls Try.prog 12 #[.slice A0 l0.length c0] w fun e w' => ∃ v0_ : Value, e = .returned (v0_) ∧ Kd.S k46 46 w' w.heap.size (fun _ => True) v0_ r ∧ Below w.heap.size w w' := by
 have hu38 := Try.underlying38
 have hu46 := Try.underlying46
 have HR0 := Aside0.mk hr0
 have HC0 := Aside0.mk hc0
 clear hr0 hc0
 have HB := Aside0.mk (Below.refl w.heap.size w)
 have H : (if 0 ≤ (l0.length : Int) then (if ((l0.length : Int) : Int).toNat ≤ 7036874417766 then (laws_toJudgeS.l0 k l0 (List.replicate ((l0.length : Int) : Int).toNat z46) 0) else (none)) else (none)) = some r := h
 clear h
 by_cases c2 : 0 ≤ (l0.length : Int)
 ·
  rw [if_pos c2] at H
  have c2b0 := eq_true c2
  have c2b1 : decide (0 ≤ (l0.length : Int)) = true := decide_eq_true c2
  clear c2
  by_cases c3 : ((l0.length : Int) : Int).toNat ≤ 7036874417766
  ·
   rw [if_pos c3] at H
   have c3b0 := eq_true c3
   have c3b1 : decide (((l0.length : Int) : Int).toNat ≤ 7036874417766) = true := decide_eq_true c3
   clear c3
   obtain ⟨y130, hy130⟩ : ∃ y_ : List (S46), y_ = (List.replicate ((l0.length : Int) : Int).toNat z46) := ⟨_, rfl⟩
   replace H : (laws_toJudgeS.l0 k l0 y130 0) = some r := by first | (rw [hy130]; with_reducible exact H) | (have H2_ := (Option.bind_some _ _).symm.trans H; rw [hy130]; with_reducible exact H2_) | (have H2_ := (Option.bind_some _ _).symm.trans H; with_reducible exact H2_) | with_reducible exact H | (rw [hy130]; exact H) | exact H
   have Ny130 := Aside0.mk hy130
   clear hy130
   have H' := Aside0.mk H
   clear H
   go_enter Try.func12, Try.ntmps12
   go_wp2_with (first | ((with_reducible refine gate_dst (N := 7) rfl ?_); refine Kd.S_make k46 _ 46 rfl (N := 7) rfl 25 _ _ rfl (l0.length : Int) rfl rfl Try.underlying25 (.agg #[(.int .i64 0), (.int .i64 0), (.slice none 0 0)]) 40 info46 rfl (by decide) (by omega) z46 (ok := fun _ => True) (okp := fun _ => True) (k46_mkM _ _ _ z46 (Kd.R_nil _ _ _ _ _)) (fun _ hk => hk) trivial (of_decide_eq_true (by first | (with_reducible assumption) | assumption)) (Nat.le_trans (Nat.mul_le_mul_right _ (of_decide_eq_true (by first | (with_reducible assumption) | assumption) : (l0.length : Int).toNat ≤ 7036874417766)) (by omega)) (Below.refl _ _) (Nat.le_refl _) ?_; intro v131 w4 ho5 hb hg_ hnew_; clear hg_ hnew_; (first | rw [← Ny130.out] at ho5 | (simp only [Int.reduceToNat] at ho5; rw [← Ny130.out] at ho5)); have n0_ := Aside0.mk (Kd.S_lower ho5 (below_size (by repeat (first | (with_reducible first | exact HB.out | apply below_alloc | apply pw_below_drewN | apply below_drew1) | exact HB.out)))); have n1_ := Aside0.mk (below_step (by repeat (first | (with_reducible first | exact HB.out | apply below_alloc | apply pw_below_drewN | apply below_drew1) | exact HB.out)) hb); clear HB; have HO132 := n0_; have HB := n1_; clear n0_ n1_; clear hb ho5))
   go_loopg [4] k (fun kq v4 w' => ∃ (x3_1 : List (S46)) (x4_1 : Int), v4 = .int .i64 x4_1 ∧ Aside0 (laws_toJudgeS.l0 kq l0 x3_1 x4_1 = some r) ∧ Aside0 (kq ≤ k) ∧ Aside0 (Kd.S k46 46 w' w.heap.size (fun _ => True) v131 x3_1) ∧ Aside0 (Below w.heap.size w w'))
   case atStart => exact ⟨(y130), (0), (by first | rfl | (simp; done) | (simp [*]; done)), H', ⟨Nat.le_refl _⟩, ⟨by (with_reducible repeat (first | apply Kd.S_alloc | apply Kd.S_drewN | apply Kd.S_drew)); exact HO132.out⟩, ⟨by repeat (first | (with_reducible first | exact HB.out | apply below_alloc | apply pw_below_drewN | apply below_drew1) | exact HB.out)⟩⟩
   case round =>
    clear H'
    try clear c1
    try clear c2
    try clear c2b0
    try clear c2b1
    try clear p2
    try clear c3
    try clear c3b0
    try clear c3b1
    obtain ⟨x3_1, x4_1, rfl, HA, HK1, HO_3, HB⟩ := hrel
    cases gk with
    | zero => exact absurd HA.out (by simp [laws_toJudgeS.l0])
    | succ k1 =>
     have H := HA.out
     clear HA
     simp only [laws_toJudgeS.l0] at H
     by_cases c6 : x4_1 < (l0.length : Int)
     ·
      rw [if_pos c6] at H
      have c6b0 : decide (x4_1 < (l0.length : Int)) = true := decide_eq_true c6
      clear c6
      by_cases c7 : 0 ≤ x4_1
      ·
       rw [if_pos c7] at H
       have c7b0 : decide (0 ≤ x4_1) = true := decide_eq_true c7
       clear c7
       replace H := Option.bind_eq_some_iff.mp H
       obtain ⟨⟨t134, t135, t136⟩, A80, H⟩ := H
       replace H : (if x4_1 < (x3_1.length : Int) then (laws_toJudgeS.l0 k1 l0 (x3_1.set (x4_1 : Int).toNat (⟨t134, t135, t136⟩ : S46)) (wrap64 (x4_1 + 1))) else (none)) = some r := H
       have A8 := Aside0.mk A80
       clear A80
       by_cases c9 : x4_1 < (x3_1.length : Int)
       ·
        rw [if_pos c9] at H
        have c9b0 : decide (x4_1 < (x3_1.length : Int)) = true := decide_eq_true c9
        clear c9
        obtain ⟨y139, hy139⟩ : ∃ y_ : List (S46), y_ = (x3_1.set (x4_1 : Int).toNat (⟨t134, t135, t136⟩ : S46)) := ⟨_, rfl⟩
        replace H : (laws_toJudgeS.l0 k1 l0 y139 (wrap64 (x4_1 + 1))) = some r := by first | (rw [hy139]; with_reducible exact H) | (have H2_ := (Option.bind_some _ _).symm.trans H; rw [hy139]; with_reducible exact H2_) | (have H2_ := (Option.bind_some _ _).symm.trans H; with_reducible exact H2_) | with_reducible exact H | (rw [hy139]; exact H) | exact H
        have Ny139 := Aside0.mk hy139
        clear hy139
        have H' := Aside0.mk H
        clear H
        have p133 : 0 ≤ (x4_1 : Int) := of_decide_eq_true (by first | (with_reducible assumption) | assumption)
        have q133 : x4_1 < (l0.length : Int) := of_decide_eq_true (by first | (with_reducible assumption) | assumption)
        obtain ⟨ad133, A133_2, c133_2, e133, hx133_0, hx133_1, hx133_2, hl133_2, hi133_2⟩ := at_T38 HR0.out x4_1 p133 q133
        cases e133
        replace hx133_0 := (HB.out.cell (World.block_lt_of_cell? w _ hx133_0)).trans hx133_0
        replace hx133_1 := (HB.out.cell (World.block_lt_of_cell? w _ hx133_1)).trans hx133_1
        replace hx133_2 := (HB.out.cell (World.block_lt_of_cell? w _ hx133_2)).trans hx133_2
        have HR133_2 := Aside0.mk hi133_2
        have HC133_2 := Aside0.mk hl133_2
        clear hi133_2 hl133_2
        replace p133 := eq_true p133
        replace q133 := eq_true q133
        go_wp2_with (first | ((with_reducible refine gate_callee (f := 26) rfl ?_); refine goesL_ (some 20) rfl rfl Try.func26 (by kernel_rfl) rfl #[.agg #[.int .i64 ((rd_T38 l0 x4_1).f0), .int .i64 ((rd_T38 l0 x4_1).f1), .slice A133_2 ((rd_T38 l0 x4_1).f2).length c133_2]] rfl (by (try simp only [List.map_toArray, List.map_cons, List.map_nil]); first | done | rfl | (simp only [List.length_drop, List.length_take]; rfl)) ?_; (with_reducible refine (laws_toJudge.calls k1 ((rd_T38 l0 x4_1).f0) ((rd_T38 l0 x4_1).f1) _ _ ((rd_T38 l0 x4_1).f2) t134 t135 t136 _ ?side1 ?side2 A8.out).mono ?_); (case side1 => repeat (first | exact (Kd.C_below HR133_2.out HB.out) | (with_reducible refine Kd.C_alloc ?_ _) | (with_reducible refine Kd.C_drewN ?_ _) | (with_reducible refine Kd.C_drew ?_))); (case side2 => exact HC133_2.out); rintro e w11 ⟨v137, rfl, ho0, hb⟩; refine ⟨_, rfl, ?_⟩; have n0_ := Aside0.mk (Kd.S_elder' (by (with_reducible repeat (first | apply Kd.S_alloc | apply Kd.S_drewN | apply Kd.S_drew)); exact HO_3.out) (Kd.R_base ho0) hb); have n1_ := Aside0.mk (Kd.R_lower ho0 (below_size (by repeat (first | (with_reducible first | exact HB.out | apply below_alloc | apply pw_below_drewN | apply below_drew1) | exact HB.out)))); have n2_ := Aside0.mk (below_step (by repeat (first | (with_reducible first | exact HB.out | apply below_alloc | apply pw_below_drewN | apply below_drew1) | exact HB.out)) hb); clear HO_3; clear HB; have HO_3 := n0_; have HO138 := n1_; have HB := n2_; clear n0_ n1_ n2_; (try clear hb); (try clear hb2); (try clear hk); (try clear hi); (try clear ho0); have p10 : 0 ≤ (x4_1 : Int) := of_decide_eq_true (by first | (with_reducible assumption) | assumption); have q10 : (x4_1 : Int) < ((x3_1.length : Int) : Int) := of_decide_eq_true (by first | (with_reducible assumption) | assumption); obtain ⟨go10, co10, eo10, gb10, gl10, cl10, HG10⟩ := Kd.S_form HO_3.out (by omega); (first | cases eo10 | (injection eo10 with ea_ en_ ec_; (first | subst ea_ | (injection ea_ with ea_; subst ea_)); subst ec_; clear en_)); have GB10 := Aside0.mk gb10; have GG10 := Aside0.mk HG10; clear gb10 gl10 HG10; obtain ⟨_, ce10, hcl10, hM10, hcc10, hfr10, _, _⟩ := Kd.S_elem HO_3.out z46 (x4_1 : Int) p10 q10; obtain ⟨ve10_2, rfl, ge10_2⟩ := k46_openM hM10; have hx10_0 : w11.cell? ⟨go10, (x4_1 : Int).toNat * 3, none⟩ = some (.int .i64 ((rd_T46 x3_1 x4_1).f0)) := hcc10 0 _ rfl; have hx10_1 : w11.cell? ⟨go10, (x4_1 : Int).toNat * 3 + 1, none⟩ = some (.int .i64 ((rd_T46 x3_1 x4_1).f1)) := hcc10 1 _ rfl; have hx10_2 : w11.cell? ⟨go10, (x4_1 : Int).toNat * 3 + 2, none⟩ = some (ve10_2) := hcc10 2 _ rfl; have hf10_0 : w11.frozen? ⟨go10, (x4_1 : Int).toNat * 3, none⟩ = false := hfr10 0; have hf10_1 : w11.frozen? ⟨go10, (x4_1 : Int).toNat * 3 + 1, none⟩ = false := hfr10 1; have hf10_2 : w11.frozen? ⟨go10, (x4_1 : Int).toNat * 3 + 2, none⟩ = false := hfr10 2; (try clear hcl10); (try clear hcc10); (try clear hfr10); (try clear hM10); replace p10 := eq_true p10; replace q10 := eq_true q10; have n_ := Aside0.mk (Kd.S_mono (ok' := (fun k_ => some k_ ≠ (v137 : Value).ownBlock)) HO_3.out (fun k_ hk => hk.2)); clear HO_3; have HO_3 := n_; clear n_; have HX12 := Aside0.mk (show Kd.S k46 46 w11 w.heap.size (fun k_ => ((fun _ => True)) k_ ∧ ¬ ((fun k_ => some k_ = (v137 : Value).ownBlock)) k_) (.slice (some ⟨go10, 0, none⟩) x3_1.length co10) x3_1 from (by (with_reducible repeat (first | apply Kd.S_alloc | apply Kd.S_drewN | apply Kd.S_drew)); exact Kd.S_mono HO_3.out (fun k_ hk => ⟨trivial, fun e_ => hk e_⟩))); obtain ⟨oki12, ce12, hcl12, hM12, hcc12, hfr12, hoki12, hH12⟩ := Kd.S_elem HX12.out z46 (x4_1 : Int) (of_decide_eq_true (by first | (with_reducible assumption) | assumption)) (by have h_ : (x4_1 : Int) < ((x3_1.length : Int) : Int) := of_decide_eq_true (by first | (with_reducible assumption) | assumption); first | exact h_ | (have e_ := (Kd.S_reads' HO_3.out).1; omega) | simpa using h_); obtain ⟨ve12_2, rfl, ge12_2⟩ := k46_openM hM12; have HP12 := Kd.S_seg hH12 (of_decide_eq_true (by first | (with_reducible assumption) | assumption)) (by have h_ : (x4_1 : Int) < ((x3_1.length : Int) : Int) := of_decide_eq_true (by first | (with_reducible assumption) | assumption); first | exact h_ | (have e_ := (Kd.S_reads' HO_3.out).1; omega) | simpa using h_) (seg := [.int .i64 t134, .int .i64 t135, v137]) (j := 0) (show 3 ≤ 3 from by decide) (x' := (⟨t134, t135, t136⟩ : S46)) (k46_mkM _ _ _ (⟨t134, t135, t136⟩ : S46) (Kd.R_mono (Kd.R_tight rfl (Kd.R_mono (ok' := fun k_ => ((fun _ => True)) k_ ∧ k_ ≠ go10) (Kd.R_apart' (HO138.out) (Kd.S_typed HO_3.out) (by decide)) (fun k_ hk => ⟨trivial, fun e_ => (hk.2) (by rw [e_]; rfl)⟩))) (fun _ h_ => Or.inr (h_)))) (fun _ hk => hk) (fun k_ hk_ => ((Kd.R_mono (ok' := fun k_ => ((fun _ => True)) k_ ∧ k_ ≠ go10) (Kd.R_apart' (HO138.out) (Kd.S_typed HO_3.out) (by decide)) (fun k_ hk => ⟨trivial, fun e_ => (hk.2) (by rw [e_]; rfl)⟩))).1 k_ hk_.symm); have hx12_0 := hcc12 0 _ rfl; (try simp only [show (k46).sz = 3 from rfl, Nat.mul_one, Nat.add_zero] at hx12_0); have hf12_0 := hfr12 0; (try simp only [show (k46).sz = 3 from rfl, Nat.mul_one, Nat.add_zero] at hf12_0); have hx12_1 := hcc12 1 _ rfl; (try simp only [show (k46).sz = 3 from rfl, Nat.mul_one, Nat.add_zero] at hx12_1); have hf12_1 := hfr12 1; (try simp only [show (k46).sz = 3 from rfl, Nat.mul_one, Nat.add_zero] at hf12_1); have hx12_2 := hcc12 2 _ rfl; (try simp only [show (k46).sz = 3 from rfl, Nat.mul_one, Nat.add_zero] at hx12_2); have hf12_2 := hfr12 2; (try simp only [show (k46).sz = 3 from rfl, Nat.mul_one, Nat.add_zero] at hf12_2); (try clear hcl12); (try clear hcc12); (try clear hfr12); (try clear hM12); (try clear hoki12); (try clear hH12)) | ((with_reducible refine gate_store (t := 46) (p := 21) rfl ?_); refine store_event (t := 46) (p := 21) (v := ?vo_w13) (w1 := (((w11.setCell ⟨go10, (x4_1 : Int).toNat * 3, none⟩ (.int .i64 t134)).setCell ⟨go10, (x4_1 : Int).toNat * 3 + 1, none⟩ (.int .i64 t135)).setCell ⟨go10, (x4_1 : Int).toNat * 3 + 2, none⟩ (v137))) ?hg ?ho ?hn ?hr ?_; (case ho => rfl); (case hg => rfl); (case hn => rfl); (case hr => first | (go_simp; done) | (go_simp; rfl) | (obtain ⟨_, _, e_⟩ := Kd.R_slice HO138.out; subst e_; first | (go_simp; done) | (go_simp; rfl))); intro w13 hw; have hg : w11.grownBy w13 (some go10) := (by rw [hw]; exact HP12.2); have hp_ : Kd.S k46 46 w13 w.heap.size (fun _ => True) (.slice (some ⟨go10, 0, none⟩) x3_1.length co10) y139 := (by rw [hw, Ny139.out]; exact HP12.1); clear HP12; have n0_ := Aside0.mk (hp_); have n1_ := Aside0.mk ((by rw [hw]; exact below_set (below_set (below_set (HB.out) GB10.out) GB10.out) GB10.out : Below w.heap.size w w13)); clear HO_3; clear HB; clear HO138; have HO_3 := n0_; have HB := n1_; clear n0_ n1_; clear hg hw hp_))
        go_roundg k1
        case measure => have := HK1.out; omega
        case rel => exact ⟨(y139), (wrap64 (x4_1 + 1)), (by first | rfl | (simp; done) | (simp [*]; done)), H', ⟨by have := HK1.out; omega⟩, ⟨by (with_reducible repeat (first | apply Kd.S_alloc | apply Kd.S_drewN | apply Kd.S_drew)); exact HO_3.out⟩, ⟨by repeat (first | (with_reducible first | exact HB.out | apply below_alloc | apply pw_below_drewN | apply below_drew1) | exact HB.out)⟩⟩
       ·
        rw [if_neg c9] at H
        exact absurd H (by simp)
      ·
       rw [if_neg c7] at H
       exact absurd H (by simp)
     ·
      rw [if_neg c6] at H
      have c6b0 : decide (x4_1 < (l0.length : Int)) = false := decide_eq_false c6
      clear c6
      obtain rfl := Option.some.inj H
      go_wp2
      all_goals (go_ret; exact ⟨_, by first | rfl | (simp [errW_none, errW_some] <;> rfl) | (simp [*, errW_none, errW_some] <;> rfl), by (with_reducible repeat (first | apply Kd.S_alloc | apply Kd.S_drewN | apply Kd.S_drew)); exact HO_3.out, by repeat (first | (with_reducible first | exact HB.out | apply below_alloc | apply pw_below_drewN | apply below_drew1) | exact HB.out)⟩)
  ·
   rw [if_neg c3] at H
   exact absurd H (by simp)
 ·
  rw [if_neg c2] at H
  exact absurd H (by simp)
end Go.Proofs.Ytdlebbmmanjffaa.A
end

section
set_option linter.unusedVariables false
set_option linter.unusedSimpArgs false
namespace Go.Proofs.Ytdlebbmmanjffaa.M
open Go Go.RowKit Go.Proofs.YtdlebbmmanjffaaW.PrintWords
structure MI (P : Nat → Prop) (w w' : World) : Prop where
  os : w'.os = w.os
  tape : w'.tape = w.tape
  output : w'.output = w.output
  size : w.heap.size ≤ w'.heap.size
  keep : ∀ k, k < w.heap.size → ¬ P k → w'.heap[k]? = w.heap[k]?
  int : ∀ p x, w.cell? p = some (.int .i64 x) → ∃ x', w'.cell? p = some (.int .i64 x')
  oth : ∀ p v, w.cell? p = some v → (∀ x, v ≠ .int .i64 x) → w'.cell? p = some v
  froz : ∀ p, p.block < w.heap.size → w'.frozen? p = w.frozen? p
theorem MI.refl (P : Nat → Prop) (w : World) : MI P w w := ⟨rfl, rfl, rfl, Nat.le_refl _, fun _ _ _ => rfl, fun _ x h => ⟨x, h⟩, fun _ _ h _ => h, fun _ _ => rfl⟩
theorem MI.trans {P : Nat → Prop} {a b c : World} (h : MI P a b) (k : MI P b c) : MI P a c where
  os := k.os.trans h.os
  tape := k.tape.trans h.tape
  output := k.output.trans h.output
  size := Nat.le_trans h.size k.size
  keep := fun i hi hn => (k.keep i (Nat.lt_of_lt_of_le hi h.size) hn).trans (h.keep i hi hn)
  int := fun p x hx => by
    obtain ⟨y, hy⟩ := h.int p x hx
    exact k.int p y hy
  oth := fun p v hv hn => k.oth p v (h.oth p v hv hn) hn
  froz := fun p hp => (k.froz p (Nat.lt_of_lt_of_le hp h.size)).trans (h.froz p hp)
theorem MI.drewN {P : Nat → Prop} {a b : World} (h : MI P a b) (n : Nat) : MI P a (b.drewN n) := ⟨h.os, h.tape, h.output, h.size, h.keep, h.int, h.oth, h.froz⟩
theorem MI.drew {P : Nat → Prop} {a b : World} (h : MI P a b) : MI P a b.drew := ⟨h.os, h.tape, h.output, h.size, h.keep, h.int, h.oth, h.froz⟩
theorem heap_set_ne {w : World} {g o k : Nat} {u : Value} (h : k ≠ g) : (w.setCell ⟨g, o, none⟩ u).heap[k]? = w.heap[k]? := by
  simp [World.setCell, Array.getElem?_modify, Ne.symm h]
theorem heap_set_size (w : World) (p : Addr) (u : Value) : (w.setCell p u).heap.size = w.heap.size := by simp [World.setCell]
theorem cell_set_ne {w : World} {g o : Nat} {q : Addr} {u : Value} (h : q.block = g → q.off ≠ o) : (w.setCell ⟨g, o, none⟩ u).cell? q = w.cell? q := by
  unfold World.cell? World.setCell
  simp only [Array.getElem?_modify]
  by_cases e : g = q.block
  · subst e
    simp only [if_true]
    cases w.heap[q.block]? with
    | none => rfl
    | some ob =>
      cases ob with
      | cells c t f =>
        simp only [Option.map_some]
        simp [Array.getElem?_setIfInBounds_ne (h rfl).symm]
      | _ => rfl
  · simp [e]
theorem frozen_set {w : World} {p q : Addr} {u : Value} : (w.setCell p u).frozen? q = w.frozen? q := by
  unfold World.frozen? World.setCell
  simp only [Array.getElem?_modify]
  by_cases e : p.block = q.block
  · simp only [e, if_true]
    cases w.heap[q.block]? with
    | none => rfl
    | some ob => cases ob <;> rfl
  · simp [e]
theorem cell_set_same {w : World} {g o : Nat} {v u : Value} (h : w.cell? ⟨g, o, none⟩ = some v) : (w.setCell ⟨g, o, none⟩ u).cell? ⟨g, o, none⟩ = some u := by
  unfold World.cell? World.setCell at *
  simp only [Array.getElem?_modify, if_true]
  cases e : w.heap[g]? with
  | none => simp [e] at h
  | some ob =>
    cases ob with
    | cells c t f =>
      simp [e] at h
      have := (Array.getElem?_eq_some_iff.1 h).1
      simp [this]
    | _ => simp [e] at h
theorem cell_spot {w : World} {p : Addr} {v : Value} (h : w.cell? p = some v) : p.spot = none := by
  unfold World.cell? at h
  split at h
  · split at h
    · cases h
    · rename_i hs
      simpa using hs
  · cases h
theorem MI.set {P : Nat → Prop} {a b : World} (h : MI P a b) {g o : Nat} {x : Int} (hg : P g) (hc : b.cell? ⟨g, o, none⟩ = some (.int .i64 x)) (y : Int) : MI P a (b.setCell ⟨g, o, none⟩ (.int .i64 y)) := by
  refine h.trans ⟨rfl, rfl, rfl, Nat.le_of_eq (heap_set_size _ _ _).symm, fun k _ hn => heap_set_ne (fun e => hn (e ▸ hg)), fun p x' hx => ?_, fun p v hv hn => ?_, fun p _ => frozen_set⟩
  · by_cases e : p.block = g ∧ p.off = o
    · have hs := cell_spot hx
      obtain ⟨pb, po, ps⟩ := p
      obtain ⟨rfl, rfl⟩ := e
      cases hs
      exact ⟨y, cell_set_same hx⟩
    · exact ⟨x', by rw [cell_set_ne (fun h1 h2 => e ⟨h1, h2⟩)]; exact hx⟩
  · refine (cell_set_ne (fun h1 h2 => ?_)).trans hv
    have hs := cell_spot hv
    obtain ⟨pb, po, ps⟩ := p
    cases h1
    cases h2
    cases hs
    rw [hv] at hc
    exact hn x (Option.some.inj hc)
theorem MI.kept {P : Nat → Prop} {a b : World} (h : MI P a b) : Kept a b P := ⟨h.size, h.keep⟩
theorem MI.below {P : Nat → Prop} {a b : World} (h : MI P a b) {w0 : World} (hb : Below w0.heap.size w0 a) (hp : ∀ k, P k → w0.heap.size ≤ k) : Below w0.heap.size w0 b :=
  hb.trans ⟨h.os, h.tape, h.output, h.size, fun k hk => h.keep k (Nat.lt_of_lt_of_le hk hb.size) (fun hq => by have := hp k hq; omega)⟩
def RowI (P : Nat → Prop) (w : World) (A : Option Addr) (n : Nat) : Prop := n ≤ 4611686018427387904 ∧ (0 < n → ∃ g, A = some ⟨g, 0, none⟩ ∧ P g ∧ g < w.heap.size ∧ ∀ j, j < n → (∃ x, w.cell? ⟨g, j, none⟩ = some (.int .i64 x)) ∧ w.frozen? ⟨g, j, none⟩ = false)
theorem RowI.mi {P Q : Nat → Prop} {w w' : World} {A : Option Addr} {n : Nat} (h : RowI P w A n) (k : MI Q w w') : RowI P w' A n :=
  ⟨h.1, fun hn => by
    obtain ⟨g, e, hp, hlt, hc⟩ := h.2 hn
    exact ⟨g, e, hp, Nat.lt_of_lt_of_le hlt k.size, fun j hj => by
      obtain ⟨⟨x, hx⟩, hf⟩ := hc j hj
      exact ⟨k.int _ x hx, by rw [k.froz _ hlt]; exact hf⟩⟩⟩
theorem RowI.of_R {P : Nat → Prop} {w : World} {base : Nat} {A : Option Addr} {n c : Nat} {xs : List Int} (h : Kd.R (Kd.int .i64) 3 w base P (.slice A n c) xs) (hl : xs.length ≤ 4611686018427387904) : RowI P w A n := by
  obtain ⟨hn, _, _⟩ := Kd.R_reads' h
  subst hn
  refine ⟨hl, fun hp => ?_⟩
  obtain ⟨g, cap, e, _, hlt, _⟩ := Kd.R_form h hp
  injection e with e1 e2 e3
  subst e1 e3
  refine ⟨g, rfl, h.1 g rfl, hlt, fun j hj => ?_⟩
  obtain ⟨h1, h2⟩ := Kd.R_celln 0 h (j : Int) (by omega) (by omega)
  exact ⟨⟨_, by simpa using h1⟩, by simpa using h2⟩
def RowS (m : Nat) (P : Nat → Prop) (w : World) (A : Option Addr) (ns : List Nat) : Prop :=
  ns.length ≤ 4611686018427387904 ∧ (0 < ns.length → ∃ g, A = some ⟨g, 0, none⟩ ∧ P g ∧ g < w.heap.size ∧ ∀ (i : Nat) (hi : i < ns.length), (∀ j, j < m → (∃ x, w.cell? ⟨g, i * (m + 1) + j, none⟩ = some (.int .i64 x)) ∧ w.frozen? ⟨g, i * (m + 1) + j, none⟩ = false) ∧ ∃ B c, w.cell? ⟨g, i * (m + 1) + m, none⟩ = some (.slice B ns[i] c) ∧ RowI P w B ns[i])
theorem RowS.mi {m : Nat} {P Q : Nat → Prop} {w w' : World} {A : Option Addr} {ns : List Nat} (h : RowS m P w A ns) (k : MI Q w w') : RowS m P w' A ns :=
  ⟨h.1, fun hn => by
    obtain ⟨g, e, hp, hlt, hc⟩ := h.2 hn
    refine ⟨g, e, hp, Nat.lt_of_lt_of_le hlt k.size, fun i hi => ?_⟩
    obtain ⟨h1, B, c, h2, h3⟩ := hc i hi
    refine ⟨fun j hj => ?_, B, c, k.oth _ _ h2 (fun x hx => by cases hx), h3.mi k⟩
    obtain ⟨⟨x, hx⟩, hf⟩ := h1 j hj
    exact ⟨k.int _ x hx, by rw [k.froz _ hlt]; exact hf⟩⟩
theorem RowI.mono {P Q : Nat → Prop} {w : World} {A : Option Addr} {n : Nat} (h : RowI P w A n) (hq : ∀ k, P k → Q k) : RowI Q w A n :=
  ⟨h.1, fun hn => by
    obtain ⟨g, e, hp, r⟩ := h.2 hn
    exact ⟨g, e, hq _ hp, r⟩⟩
theorem RowS.of_R {α : Type} {d : Kd α} (m : Nat) (hsz : d.sz = m + 1) (len : α → Nat) {P : Nat → Prop} {w : World} {e base : Nat} {A : Option Addr} {n c : Nat} {l : List α}
    (hM : ∀ {ok : Nat → Prop} {x : α} {cs : List Value}, d.M w base ok x cs → ∃ (zs : List Int) (v : Value) (xs : List Int), cs = zs.map (Value.int .i64) ++ [v] ∧ zs.length = m ∧ xs.length = len x ∧ Kd.R (Kd.int .i64) 3 w base ok v xs)
    (h : Kd.R d e w base P (.slice A n c) l) (hl : l.length ≤ 4611686018427387904) (hx : ∀ x ∈ l, len x ≤ 4611686018427387904) : RowS m P w A (l.map len) := by
  obtain ⟨hn, _, _⟩ := Kd.R_reads' h
  subst hn
  refine ⟨by simpa using hl, fun hp => ?_⟩
  rw [List.length_map] at hp
  obtain ⟨g, cap, e1, _, hlt, _⟩ := Kd.R_form h hp
  obtain ⟨h0, inner, hown, hreps⟩ := h
  injection e1 with e1 e2 e3
  subst e1 e3
  have hfz : ∀ o, w.frozen? ⟨g, o, none⟩ = false := fun o => by
    rcases hown.2 with ⟨e', _⟩ | ⟨g', cap', cur, e', _, hh, _⟩
    · cases e'
    · injection e' with e1 e2 e3
      injection e1 with e1
      injection e1 with e1
      subst e1
      simp [World.frozen?, hh]
  refine ⟨g, rfl, h0 g rfl, hlt, fun i hi => ?_⟩
  rw [List.length_map] at hi
  obtain ⟨zs, v, xs, hcs, hz, hlen, hr⟩ := hM (hreps.2 i l[i] (List.getElem?_eq_getElem hi))
  rw [hsz] at hcs
  have hcell : ∀ (j : Nat) (u : Value), (zs.map (Value.int .i64) ++ [v])[j]? = some u → w.cell? ⟨g, i * (m + 1) + j, none⟩ = some u := fun j u hu => by
    have h1 : inner[i * (m + 1) + j]? = some u := by
      rw [← hcs, List.getElem?_take] at hu
      split at hu
      · rw [List.getElem?_drop] at hu
        exact hu
      · cases hu
    have := hown.cells (g := g) rfl _ u h1
    unfold Addr.add at this
    split at this
    · rename_i h0
      simpa [h0] using this
    · simpa using this
  obtain ⟨B, cB, rfl, _, _⟩ := Kd.R_reads hr
  refine ⟨fun j hj => ⟨⟨zs[j]'(by omega), hcell j _ ?_⟩, hfz _⟩, B, cB, ?_, ?_⟩
  · rw [List.getElem?_append_left (by simp; omega), List.getElem?_map, List.getElem?_eq_getElem (by omega)]
    rfl
  · have := hcell m (.slice B xs.length cB) (by rw [List.getElem?_append_right (by simp [hz])]; simp [hz])
    simpa [hlen] using this
  · have := RowI.mono (RowI.of_R hr (by rw [hlen]; exact hx _ (List.getElem_mem _))) (fun k hk => hk.1)
    simpa [hlen] using this
def tot (m : Nat) : List Nat → Nat
  | [] => 0
  | k :: r => m + k + tot m r
theorem tot_snoc (m : Nat) : ∀ (a : List Nat) (k : Nat), tot m (a ++ [k]) = tot m a + (m + k)
  | [], k => by simp [tot]
  | x :: a, k => by simp only [List.cons_append, tot, tot_snoc m a k]; omega
theorem tot_take (m : Nat) (ns : List Nat) (i : Nat) (hi : i < ns.length) : tot m (ns.take (i + 1)) = tot m (ns.take i) + (m + ns[i]) := by
  rw [List.take_succ_eq_append_getElem hi, tot_snoc]
theorem tot_take_le (m : Nat) : ∀ (ns : List Nat) (i : Nat), tot m (ns.take i) ≤ tot m ns
  | [], i => by simp [tot]
  | k :: r, 0 => by simp [tot]
  | k :: r, i + 1 => by simp only [List.take_succ_cons, tot]; have := tot_take_le m r i; omega
end Go.Proofs.Ytdlebbmmanjffaa.M
end

section
set_option linter.unusedVariables false
set_option linter.unusedSimpArgs false
namespace Go.Proofs.Ytdlebbmmanjffaa.M
open Go.RowKit Go.Proofs.YtdlebbmmanjffaaW.PrintWords Go.Proofs.YtdlebbmmanjffaaW.PrintLast Go.Proofs.YtdlebbmmanjffaaW.PrintMore
set_option maxHeartbeats 4000000 in
set_option maxRecDepth 100000 in
theorem markI_calls (P : Nat → Prop) (A : Option Addr) (n c : Nat) (a1 : Int) (w : World) (h : RowI P w A n) (h0 : 0 ≤ a1) (h1 : a1 + n ≤ 4611686018427387904) :
    Calls Try.prog 20 #[.slice A n c, .int .i64 a1] w fun e w' => e = .returned (.int .i64 (a1 + n)) ∧ MI P w w' := by
  have HR := Aside0.mk h
  have H0 := Aside0.mk h0
  have H1 := Aside0.mk h1
  clear h h0 h1
  go_enter Try.func20, Try.ntmps20
  go_wp2
  go_loopg [1, 5] n (fun gg v1 v5 wr => ∃ (kk : Nat) (x1 : Int), v1 = .int .i64 x1 ∧ v5 = .int .i64 kk ∧ Aside0 (x1 = a1 + kk) ∧ Aside0 (kk ≤ n ∧ n - kk ≤ gg) ∧ Aside0 (MI P w wr))
  case atStart => exact ⟨0, a1, rfl, rfl, ⟨by simp⟩, ⟨by omega⟩, ⟨MI.refl P w⟩⟩
  case round =>
    obtain ⟨kk, x1, rfl, rfl, HX, HI, HM⟩ := hrel
    by_cases hlt : kk < n
    · have hltb : ((kk : Int) < (n : Int)) = True := eq_true (by omega)
      obtain ⟨g, rfl, hP, hgl, hc⟩ := (HR.out.mi HM.out).2 (by omega)
      obtain ⟨⟨x, hx⟩, hf⟩ := hc kk hlt
      have HP := Aside0.mk hP
      have HC : Aside0 (wr.cell? ⟨g, kk, none⟩ = some (.int .i64 x)) := ⟨hx⟩
      have HLT := Aside0.mk hlt
      have HW1 : Aside0 (wrap64 (x1 + 1) = a1 + ((kk + 1 : Nat) : Int)) := ⟨by have := H1.out; have := HX.out; have := H0.out; unfold wrap64; omega⟩
      have HW5 : Aside0 (wrap64 ((kk : Int) + 1) = ((kk + 1 : Nat) : Int)) := ⟨by have := H1.out; have := H0.out; unfold wrap64; omega⟩
      clear hc hP hgl hlt
      go_wp2
      go_roundg (n - (kk + 1))
      case measure => have := HI.out; have := HLT.out; omega
      case rel => exact ⟨kk + 1, wrap64 (x1 + 1), rfl, by rw [HW5.out], HW1, ⟨by have := HLT.out; omega⟩, ⟨HM.out.set HP.out HC.out _⟩⟩
    · have hltb : ((kk : Int) < (n : Int)) = False := eq_false (by omega)
      have HLT := Aside0.mk hlt
      clear hlt
      go_wp2
      go_ret
      refine ⟨?_, HM.out⟩
      have e : x1 = a1 + (n : Int) := by have := HI.out; have := HLT.out; have := HX.out; omega
      rw [← e]
      rfl
theorem drawn_below {w w' : World} (h : Drawn0 w w') : Below w.heap.size w w' := by
  obtain ⟨n, rfl⟩ := h.out
  exact pw_below_drewN (Below.refl _ _) n
theorem own_interval {α : Type} {d : Kd α} {e : Nat} {w w' : World} {v : Value} {xs : List α} (h : Kd.R d e w' w.heap.size (fun _ => True) v xs) : Kd.R d e w' w.heap.size (fun k => w.heap.size ≤ k ∧ k < w'.heap.size) v xs :=
  Kd.R_mono (Kd.R_bound h) (fun k hk => ⟨hk.2.1, hk.2.2.1⟩)
end Go.Proofs.Ytdlebbmmanjffaa.M
end

section
set_option linter.unusedVariables false
set_option linter.unusedSimpArgs false
namespace Go.Proofs.Ytdlebbmmanjffaa.M
open Go.RowKit Go.Proofs.Ytdlebbmmanjffaa.A Go.Proofs.YtdlebbmmanjffaaW.PrintWords Go.Proofs.YtdlebbmmanjffaaW.PrintLast Go.Proofs.YtdlebbmmanjffaaW.PrintMore
set_option maxHeartbeats 8000000 in
set_option maxRecDepth 100000 in
theorem markJudgeS_calls (P : Nat → Prop) (A : Option Addr) (ns : List Nat) (c : Nat) (a1 : Int) (w : World) (h : RowS 2 P w A ns) (h0 : 0 ≤ a1) (h1 : a1 + tot 2 ns ≤ 4611686018427387904) :
    Calls Try.prog 19 #[.slice A ns.length c, .int .i64 a1] w fun e w' => e = .returned (.int .i64 (a1 + tot 2 ns)) ∧ MI P w w' := by
  have HR := Aside0.mk h
  have H0 := Aside0.mk h0
  have H1 := Aside0.mk h1
  have HN := Aside0.mk h.1
  clear h h0 h1
  have hu46 := Try.underlying46
  go_enter Try.func19, Try.ntmps19
  go_wp2
  go_loopg [1, 5] ns.length (fun gg v1 v5 wr => ∃ (kk : Nat) (x1 : Int), v1 = .int .i64 x1 ∧ v5 = .int .i64 kk ∧ Aside0 (x1 = a1 + tot 2 (ns.take kk)) ∧ Aside0 (kk ≤ ns.length ∧ ns.length - kk ≤ gg) ∧ Aside0 (MI P w wr))
  case atStart => exact ⟨0, a1, rfl, rfl, ⟨by simp [tot]⟩, ⟨by omega⟩, ⟨MI.refl P w⟩⟩
  case round =>
    obtain ⟨kk, x1, rfl, rfl, HX, HI, HM⟩ := hrel
    by_cases hlt : kk < ns.length
    · have hltb : ((kk : Int) < (ns.length : Int)) = True := eq_true (by omega)
      obtain ⟨g, rfl, hP, hgl, hc⟩ := (HR.out.mi HM.out).2 (by omega)
      have HP := Aside0.mk hP
      have HLT := Aside0.mk hlt
      have htk := tot_take 2 ns kk hlt
      have htl := tot_take_le 2 ns (kk + 1)
      obtain ⟨nk, hnk⟩ : ∃ nk, ns[kk] = nk := ⟨_, rfl⟩
      rw [hnk] at htk
      have HB : Aside0 (0 ≤ x1 ∧ x1 + 2 + nk ≤ 4611686018427387904) := ⟨by have := H1.out; have := HX.out; have := H0.out; omega⟩
      have HT : Aside0 (x1 + 2 + nk = a1 + tot 2 (ns.take (kk + 1))) := ⟨by have := HX.out; omega⟩
      have HKK : Aside0 (wrap64 ((kk : Int) + 1) = ((kk + 1 : Nat) : Int)) := ⟨by have := HN.out; unfold wrap64; omega⟩
      obtain ⟨hi_, B, cB, hs0, hrB⟩ := hc kk hlt
      rw [hnk] at hs0 hrB
      obtain ⟨⟨y0, hy0⟩, hz0⟩ := hi_ 0 (by omega)
      obtain ⟨⟨y1, hy1⟩, hz1⟩ := hi_ 1 (by omega)
      have hc0 : wr.cell? ⟨g, kk * 3, none⟩ = some (.int .i64 y0) := hy0
      have hf0 : wr.frozen? ⟨g, kk * 3, none⟩ = false := hz0
      have hc1 : ∀ v0 : Int, (World.setCell wr ⟨g, kk * 3, none⟩ (.int .i64 v0)).cell? ⟨g, kk * 3 + 1, none⟩ = some (.int .i64 y1) := fun v0 => (cell_set_ne (fun _ => by show kk * 3 + 1 ≠ kk * 3; omega)).trans hy1
      have hf1 : ∀ v0 : Int, (World.setCell wr ⟨g, kk * 3, none⟩ (.int .i64 v0)).frozen? ⟨g, kk * 3 + 1, none⟩ = false := fun v0 => frozen_set.trans hz1
      have hs : ∀ v0 v1 : Int, (World.setCell (World.setCell wr ⟨g, kk * 3, none⟩ (.int .i64 v0)) ⟨g, kk * 3 + 1, none⟩ (.int .i64 v1)).cell? ⟨g, kk * 3 + 2, none⟩ = some (.slice B nk cB) := fun v0 v1 => (cell_set_ne (fun _ => by show kk * 3 + 2 ≠ kk * 3 + 1; omega)).trans ((cell_set_ne (fun _ => by show kk * 3 + 2 ≠ kk * 3; omega)).trans hs0)
      have HMM : Aside0 (∀ v0 v1 : Int, MI P w (World.setCell (World.setCell wr ⟨g, kk * 3, none⟩ (.int .i64 v0)) ⟨g, kk * 3 + 1, none⟩ (.int .i64 v1))) := ⟨fun v0 v1 => ((HM.out.set HP.out (hc0 ) v0).set HP.out (hc1 v0) v1)⟩
      have HRB : Aside0 (∀ v0 v1 : Int, RowI P (World.setCell (World.setCell wr ⟨g, kk * 3, none⟩ (.int .i64 v0)) ⟨g, kk * 3 + 1, none⟩ (.int .i64 v1)) B nk) := ⟨fun v0 v1 => hrB.mi (((MI.refl P wr).set HP.out (hc0 ) v0).set HP.out (hc1 v0) v1)⟩
      clear hi_ hrB hc hP htk htl hlt hgl hs0 hnk hy0 hz0 hy1 hz1
      have HV : Aside0 (wrap64 (wrap64 (x1 + 1) + 1) = x1 + 2) := ⟨by have := HB.out; unfold wrap64; omega⟩
      go_wp2_with (go_at_call 20; refine (markI_calls P B nk cB _ _ ?q1 ?q2 ?q3).mono ?_; (case q1 => exact HRB.out _ _); (case q2 => rw [HV.out]; have := HB.out; omega); (case q3 => rw [HV.out]; have := HB.out; omega); rintro e w9 ⟨rfl, hm9⟩; have HM9 := Aside0.mk ((HMM.out _ _).trans hm9); clear hm9)
      go_roundg (ns.length - (kk + 1))
      case measure => have := HI.out; have := HLT.out; omega
      case rel => exact ⟨kk + 1, _, rfl, by rw [HKK.out], ⟨by rw [← HT.out, HV.out]⟩, ⟨by have := HLT.out; omega⟩, HM9⟩
    · have hltb : ((kk : Int) < (ns.length : Int)) = False := eq_false (by omega)
      have HLT := Aside0.mk hlt
      clear hlt
      go_wp2
      go_ret
      refine ⟨?_, HM.out⟩
      have e : x1 = a1 + (tot 2 ns : Int) := by
        have h1 := HX.out
        rw [List.take_of_length_le (by have := HI.out; have := HLT.out; omega)] at h1
        exact h1
      rw [← e]
      rfl
theorem markJudges (P : Nat → Prop) (A : Option Addr) (c : Nat) (l : List S46) (a1 : Int) (w : World) {e base : Nat} (h : Kd.R Go.Proofs.Ytdlebbmmanjffaa.A.k46 e w base P (.slice A l.length c) l) (hl : l.length ≤ 4611686018427387904) (hi : ∀ x ∈ l, x.f2.length ≤ 4611686018427387904) (h0 : 0 ≤ a1) (h1 : a1 + tot 2 (l.map (fun x => x.f2.length)) ≤ 4611686018427387904) :
    Calls Try.prog 19 #[.slice A l.length c, .int .i64 a1] w fun e w' => e = .returned (.int .i64 (a1 + tot 2 (l.map (fun x => x.f2.length)))) ∧ MI P w w' := by
  have hm : ∀ {ok : Nat → Prop} {x : S46} {cs : List Value}, (Go.Proofs.Ytdlebbmmanjffaa.A.k46).M w base ok x cs → ∃ (zs : List Int) (v : Value) (xs : List Int), cs = zs.map (Value.int .i64) ++ [v] ∧ zs.length = 2 ∧ xs.length = x.f2.length ∧ Kd.R (Kd.int .i64) 3 w base ok v xs := by
    intro ok x cs h
    obtain ⟨c0, r0, rfl, h0, c1, r1, rfl, h1, v, rfl, hr⟩ := h
    cases h0
    cases h1
    exact ⟨[x.f0, x.f1], v, x.f2, rfl, rfl, rfl, hr⟩
  have := markJudgeS_calls P A (l.map (fun x => x.f2.length)) c a1 w (RowS.of_R 2 rfl (fun x => x.f2.length) hm h hl hi) h0 h1
  rw [List.length_map] at this
  exact this
end Go.Proofs.Ytdlebbmmanjffaa.M
end

section
set_option linter.unusedVariables false
set_option linter.unusedSimpArgs false
namespace Go.Proofs.Ytdlebbmmanjffaa.A
open Go.RowKit Go.Proofs.YtdlebbmmanjffaaW.PrintWords Go.Proofs.YtdlebbmmanjffaaW.PrintLast Go.Proofs.YtdlebbmmanjffaaW.PrintMore
def laws_FnExactFreeJudges.f (k : Nat) (l0 : List S38) (l1 : List Int) : Option Bool := if (l1.length : Int) > 1048576 then some true else ((laws_szJudgeS.f k l0 1048576).bind (fun n1 => if n1 < 0 then some true else ((laws_toJudgeS.f k l0).bind (fun x2 => (laws_toIntS.f k l1).bind (fun x3 => (spec_FreeJudges.f k x2 x3).bind (fun x4 => (laws_toJudgeS.f k l0).bind (fun x5 => (laws_toIntS.f k l1).bind (fun x6 => (impl_FreeJudges.f k x5 x6).bind (fun x7 => (laws_eqIntS.f k x7 x4).bind (fun b8 => if b8 = true then ((laws_toJudgeS.f k l0).bind (fun x9 => (laws_eqJudgeS.f k x5 x9).bind (fun b10 => if b10 = true then ((laws_toIntS.f k l1).bind (fun x11 => (laws_eqIntS.f k x6 x11).bind (fun b12 => if b12 = true then (if (x5.length ≤ 4611686018427387904 ∧ ∀ x ∈ x5, x.f2.length ≤ 4611686018427387904) ∧ (M.tot 2 (x5.map (fun x => x.f2.length)) : Int) ≤ 1152921504606846976 then (if (x6.length : Int) ≤ 1152921504606846976 then ((laws_eqIntS.f k x7 x4).bind (fun b15 => if b15 = true then ((laws_markIntS.f k x7 1).bind (fun t_ => (fun m16  y16 => (laws_heldIntS.f k y16 1).bind (fun n17 => if ¬ (n17 < 0) then (if n17 = m16 then ((laws_toJudgeS.f k l0).bind (fun x18 => (laws_toIntS.f k l1).bind (fun x19 => (impl_FreeJudges.f k x18 x19).bind (fun x20 => (laws_eqIntS.f k x20 x4).bind (fun b21 => if b21 = true then ((laws_heldIntS.f k y16 1).bind (fun n22 => if ¬ (n22 < 0) then (if n22 = m16 then (some true) else none) else none)) else none))))) else none) else none)) t_.1 t_.2)) else none)) else none) else none) else none))) else none))) else none))))))))))
set_option maxHeartbeats 16000000 in
set_option maxRecDepth 100000 in
theorem laws_FnExactFreeJudges.calls (k : Nat) (A0 : Option Addr) (c0 : Nat) (l0 : List S38) (A1 : Option Addr) (c1 : Nat) (l1 : List Int) (r : Bool) (w : World) (hr0 : Kd.C k38 w A0 l0.length l0) (hc0 : l0.length ≤ c0) (hr1 : Kd.C (Kd.int .i64) w A1 l1.length l1) (hc1 : l1.length ≤ c1) (h : laws_FnExactFreeJudges.f k l0 l1 = some r) :
  Calls Try.prog 4 #[.slice A0 l0.length c0, .slice A1 l1.length c1] w fun e w' => e = .returned (.bool r) ∧ Below w.heap.size w w' := by
  have HR0 := Aside0.mk hr0
  have HC0 := Aside0.mk hc0
  have HR1 := Aside0.mk hr1
  have HC1 := Aside0.mk hc1
  clear hr0 hc0 hr1 hc1
  unfold laws_FnExactFreeJudges.f at h
  have HB := Aside0.mk (Below.refl w.heap.size w)
  have TK0 : Aside0 True := ⟨trivial⟩
  by_cases ce : (l1.length : Int) > 1048576
  · rw [if_pos ce] at h
    obtain rfl := Option.some.inj h
    have cx0 : ((l1.length : Int) > 1048576) = True := eq_true (by omega)
    have cx1 : (1048576 < (l1.length : Int)) = True := eq_true (by omega)
    have cx2 : (1048576 < l1.length) = True := eq_true (by omega)
    clear ce h
    go_enter Try.func4, Try.ntmps4
    go_wp2
    go_ret
    exact ⟨rfl, (by repeat (first | (with_reducible first | exact HB.out | apply below_alloc | apply pw_below_drewN | apply below_drew1) | exact HB.out))⟩
  rw [if_neg ce] at h
  have cf1 : ((l1.length : Int) > 1048576) = False := eq_false (by omega)
  have cf2 : (1048576 < (l1.length : Int)) = False := eq_false (by omega)
  have cf3 : (1048576 < l1.length) = False := eq_false (by omega)
  clear ce
  replace h := Option.bind_eq_some_iff.mp h
  obtain ⟨n1, hx10, h⟩ := h
  have hx1 := Aside0.mk hx10
  clear hx10
  by_cases ce : n1 < 0
  · rw [if_pos ce] at h
    obtain rfl := Option.some.inj h
    have cx0 : (n1 < 0) = True := eq_true (by omega)
    clear ce h
    go_enter Try.func4, Try.ntmps4
    go_wp2_with (first | (have tok_ := TK0; clear TK0 tok_; go_at_call 10; refine (laws_szJudgeS.calls (k := k) (A0 := A0) (c0 := c0) (l0 := l0) (a1 := 1048576) (r := n1) (h := hx1.out) (hr0 := ?hr0) (hc0 := ?hc0)).mono ?_; (case hr0 => exact Kd.C_below HR0.out (by repeat (first | (with_reducible first | exact HB.out | apply below_alloc | apply pw_below_drewN | apply below_drew1) | exact HB.out))); (case hc0 => exact HC0.out); rintro e w1 ⟨rfl, hb⟩; have HSZ1 : Aside0 (w.heap.size ≤ w1.heap.size) := ⟨hb.size⟩; have nB_ := Aside0.mk (below_step (by repeat (first | (with_reducible first | exact HB.out | apply below_alloc | apply pw_below_drewN | apply below_drew1) | exact HB.out)) hb); clear HB; have HB := nB_; clear nB_; clear hb; have TK1 : Aside0 True := ⟨trivial⟩))
    go_ret
    exact ⟨rfl, (by repeat (first | (with_reducible first | exact HB.out | apply below_alloc | apply pw_below_drewN | apply below_drew1) | exact HB.out))⟩
  rw [if_neg ce] at h
  have cf4 : (n1 < 0) = False := eq_false (by omega)
  clear ce
  replace h := Option.bind_eq_some_iff.mp h
  obtain ⟨x2, hx20, h⟩ := h
  have hx2 := Aside0.mk hx20
  clear hx20
  replace h := Option.bind_eq_some_iff.mp h
  obtain ⟨x3, hx30, h⟩ := h
  have hx3 := Aside0.mk hx30
  clear hx30
  replace h := Option.bind_eq_some_iff.mp h
  obtain ⟨x4, hx40, h⟩ := h
  have hx4 := Aside0.mk hx40
  clear hx40
  replace h := Option.bind_eq_some_iff.mp h
  obtain ⟨x5, hx50, h⟩ := h
  have hx5 := Aside0.mk hx50
  clear hx50
  replace h := Option.bind_eq_some_iff.mp h
  obtain ⟨x6, hx60, h⟩ := h
  have hx6 := Aside0.mk hx60
  clear hx60
  replace h := Option.bind_eq_some_iff.mp h
  obtain ⟨x7, hx70, h⟩ := h
  have hx7 := Aside0.mk hx70
  clear hx70
  replace h := Option.bind_eq_some_iff.mp h
  obtain ⟨b8, hx80, h⟩ := h
  have hx8 := Aside0.mk hx80
  clear hx80
  by_cases ct : b8 = true
  rotate_left
  · rw [if_neg ct] at h; cases h
  rw [if_pos ct] at h
  subst ct
  replace h := Option.bind_eq_some_iff.mp h
  obtain ⟨x9, hx90, h⟩ := h
  have hx9 := Aside0.mk hx90
  clear hx90
  replace h := Option.bind_eq_some_iff.mp h
  obtain ⟨b10, hx100, h⟩ := h
  have hx10 := Aside0.mk hx100
  clear hx100
  by_cases ct : b10 = true
  rotate_left
  · rw [if_neg ct] at h; cases h
  rw [if_pos ct] at h
  subst ct
  replace h := Option.bind_eq_some_iff.mp h
  obtain ⟨x11, hx110, h⟩ := h
  have hx11 := Aside0.mk hx110
  clear hx110
  replace h := Option.bind_eq_some_iff.mp h
  obtain ⟨b12, hx120, h⟩ := h
  have hx12 := Aside0.mk hx120
  clear hx120
  by_cases ct : b12 = true
  rotate_left
  · rw [if_neg ct] at h; cases h
  rw [if_pos ct] at h
  subst ct
  by_cases ct : (x5.length ≤ 4611686018427387904 ∧ ∀ x ∈ x5, x.f2.length ≤ 4611686018427387904) ∧ (M.tot 2 (x5.map (fun x => x.f2.length)) : Int) ≤ 1152921504606846976
  rotate_left
  · rw [if_neg ct] at h; cases h
  rw [if_pos ct] at h
  obtain ⟨K13, hkK13⟩ : ∃ K_ : Int, K_ = 1 + (M.tot 2 (x5.map (fun x => x.f2.length)) : Int) := ⟨_, rfl⟩
  have HKK13 := Aside0.mk hkK13
  have HTK13 := Aside0.mk ct
  have HQK13 : Aside0 (0 ≤ K13 ∧ K13 ≤ 1152921504606846976 * 1 + 1) := ⟨by have := HTK13.out.2; omega⟩
  clear ct hkK13
  have cqK13 : (K13 < 0) = False := eq_false (by have := HQK13.out; omega)
  by_cases ct : (x6.length : Int) ≤ 1152921504606846976
  rotate_left
  · rw [if_neg ct] at h; cases h
  rw [if_pos ct] at h
  obtain ⟨K14, hkK14⟩ : ∃ K_ : Int, K_ = K13 + (x6.length : Int) := ⟨_, rfl⟩
  have HKK14 := Aside0.mk hkK14
  have HTK14 := Aside0.mk ct
  have HQK14 : Aside0 (0 ≤ K14 ∧ K14 ≤ 1152921504606846976 * 2 + 1) := ⟨by have := HTK14.out; have := HQK13.out; omega⟩
  clear ct hkK14
  have cqK14 : (K14 < 0) = False := eq_false (by have := HQK14.out; omega)
  replace h := Option.bind_eq_some_iff.mp h
  obtain ⟨b15, hx150, h⟩ := h
  have hx15 := Aside0.mk hx150
  clear hx150
  by_cases ct : b15 = true
  rotate_left
  · rw [if_neg ct] at h; cases h
  rw [if_pos ct] at h
  subst ct
  replace h := Option.bind_eq_some_iff.mp h
  obtain ⟨⟨m16, y16⟩, hx160, h⟩ := h
  have hx16 := Aside0.mk hx160
  clear hx160
  dsimp only at h
  replace h := Option.bind_eq_some_iff.mp h
  obtain ⟨n17, hx170, h⟩ := h
  have hx17 := Aside0.mk hx170
  clear hx170
  by_cases ct : ¬ (n17 < 0)
  rotate_left
  · rw [if_neg ct] at h; cases h
  rw [if_pos ct] at h
  have cf5 : (n17 < 0) = False := eq_false ct
  clear ct
  by_cases ct : n17 = m16
  rotate_left
  · rw [if_neg ct] at h; cases h
  rw [if_pos ct] at h
  have ct2 : m16 = n17 := ct.symm
  clear ct
  subst ct2
  replace h := Option.bind_eq_some_iff.mp h
  obtain ⟨x18, hx180, h⟩ := h
  have hx18 := Aside0.mk hx180
  clear hx180
  replace h := Option.bind_eq_some_iff.mp h
  obtain ⟨x19, hx190, h⟩ := h
  have hx19 := Aside0.mk hx190
  clear hx190
  replace h := Option.bind_eq_some_iff.mp h
  obtain ⟨x20, hx200, h⟩ := h
  have hx20 := Aside0.mk hx200
  clear hx200
  replace h := Option.bind_eq_some_iff.mp h
  obtain ⟨b21, hx210, h⟩ := h
  have hx21 := Aside0.mk hx210
  clear hx210
  by_cases ct : b21 = true
  rotate_left
  · rw [if_neg ct] at h; cases h
  rw [if_pos ct] at h
  subst ct
  replace h := Option.bind_eq_some_iff.mp h
  obtain ⟨n22, hx220, h⟩ := h
  have hx22 := Aside0.mk hx220
  clear hx220
  by_cases ct : ¬ (n22 < 0)
  rotate_left
  · rw [if_neg ct] at h; cases h
  rw [if_pos ct] at h
  have cf6 : (n22 < 0) = False := eq_false ct
  clear ct
  by_cases ct : n22 = m16
  rotate_left
  · rw [if_neg ct] at h; cases h
  rw [if_pos ct] at h
  have ct2 : m16 = n22 := ct.symm
  clear ct
  subst ct2
  obtain rfl := Option.some.inj h
  clear h
  go_enter Try.func4, Try.ntmps4
  go_wp2_with (first | (have tok_ := TK0; clear TK0 tok_; go_at_call 10; refine (laws_szJudgeS.calls (k := k) (A0 := A0) (c0 := c0) (l0 := l0) (a1 := 1048576) (r := n1) (h := hx1.out) (hr0 := ?hr0) (hc0 := ?hc0)).mono ?_; (case hr0 => exact Kd.C_below HR0.out (by repeat (first | (with_reducible first | exact HB.out | apply below_alloc | apply pw_below_drewN | apply below_drew1) | exact HB.out))); (case hc0 => exact HC0.out); rintro e w1 ⟨rfl, hb⟩; have HSZ1 : Aside0 (w.heap.size ≤ w1.heap.size) := ⟨hb.size⟩; have nB_ := Aside0.mk (below_step (by repeat (first | (with_reducible first | exact HB.out | apply below_alloc | apply pw_below_drewN | apply below_drew1) | exact HB.out)) hb); clear HB; have HB := nB_; clear nB_; clear hb; have TK1 : Aside0 True := ⟨trivial⟩) | (have tok_ := TK1; clear TK1 tok_; go_at_call 12; refine (laws_toJudgeS.calls (k := k) (A0 := A0) (c0 := c0) (l0 := l0) (r := x2) (h := hx2.out) (hr0 := ?hr0) (hc0 := ?hc0)).mono ?_; (case hr0 => exact Kd.C_below HR0.out (by repeat (first | (with_reducible first | exact HB.out | apply below_alloc | apply pw_below_drewN | apply below_drew1) | exact HB.out))); (case hc0 => exact HC0.out); rintro e w2 ⟨v_, rfl, ho_, hb⟩; have hOI_ : Kd.R k46 46 w2 w1.heap.size (fun k => w1.heap.size ≤ k ∧ k < w2.heap.size) _ _ := M.own_interval (Kd.S_R ho_); have HO2 := Aside0.mk (Kd.R_lower hOI_ (below_size (by repeat (first | (with_reducible first | exact HB.out | apply below_alloc | apply pw_below_drewN | apply below_drew1) | exact HB.out)))); have HSZ2 : Aside0 (w1.heap.size ≤ w2.heap.size) := ⟨hb.size⟩; have nB_ := Aside0.mk (below_step (by repeat (first | (with_reducible first | exact HB.out | apply below_alloc | apply pw_below_drewN | apply below_drew1) | exact HB.out)) hb); clear HB; have HB := nB_; clear nB_; clear hOI_ ho_ hb; obtain ⟨B2, d2, ev_⟩ := Kd.R_slice HO2.out; subst ev_; have TK2 : Aside0 True := ⟨trivial⟩) | (have tok_ := TK2; clear TK2 tok_; go_at_call 16; refine (laws_toIntS.calls (k := k) (A0 := A1) (c0 := c1) (l0 := l1) (r := x3) (h := hx3.out) (hr0 := ?hr0) (hc0 := ?hc0)).mono ?_; (case hr0 => exact Kd.C_below HR1.out (by repeat (first | (with_reducible first | exact HB.out | apply below_alloc | apply pw_below_drewN | apply below_drew1) | exact HB.out))); (case hc0 => exact HC1.out); rintro e w3 ⟨v_, rfl, ho_, hb⟩; have hOI_ : Kd.R (Kd.int .i64) 3 w3 w2.heap.size (fun k => w2.heap.size ≤ k ∧ k < w3.heap.size) _ _ := M.own_interval ho_; have HO3 := Aside0.mk (Kd.R_lower hOI_ (below_size (by repeat (first | (with_reducible first | exact HB.out | apply below_alloc | apply pw_below_drewN | apply below_drew1) | exact HB.out)))); have HSZ3 : Aside0 (w2.heap.size ≤ w3.heap.size) := ⟨hb.size⟩; have n_ := Aside0.mk (Kd.R_below (by (with_reducible repeat (first | apply Kd.R_alloc | apply Kd.R_drewN | apply Kd.R_drew)); exact HO2.out) hb); clear HO2; have HO2 := n_; clear n_; have nB_ := Aside0.mk (below_step (by repeat (first | (with_reducible first | exact HB.out | apply below_alloc | apply pw_below_drewN | apply below_drew1) | exact HB.out)) hb); clear HB; have HB := nB_; clear nB_; clear hOI_ ho_ hb; obtain ⟨B3, d3, ev_⟩ := Kd.R_slice HO3.out; subst ev_; have TK3 : Aside0 True := ⟨trivial⟩) | (have tok_ := TK3; clear TK3 tok_; go_at_call 15; refine (spec_FreeJudges.calls (k := k) (A0 := B2) (c0 := d2) (l0 := x2) (A1 := B3) (c1 := d3) (l1 := x3) (r := x4) (h := hx4.out) (hr0 := ?hr0) (hc0 := ?hc0) (hr1 := ?hr1) (hc1 := ?hc1)).mono ?_; (case hr0 => (with_reducible repeat (first | apply Kd.C_alloc | apply Kd.C_drewN | apply Kd.C_drew)); exact (Kd.R_reads' HO2.out).2.2); (case hc0 => exact (Kd.R_reads' HO2.out).2.1); (case hr1 => (with_reducible repeat (first | apply Kd.C_alloc | apply Kd.C_drewN | apply Kd.C_drew)); exact (Kd.R_reads' HO3.out).2.2); (case hc1 => exact (Kd.R_reads' HO3.out).2.1); rintro e w4 ⟨v_, rfl, ho_, hb⟩; have hOI_ : Kd.R (Kd.int .i64) 3 w4 w3.heap.size (fun k => w3.heap.size ≤ k ∧ k < w4.heap.size) _ _ := M.own_interval ho_; have HO4 := Aside0.mk (Kd.R_lower hOI_ (below_size (by repeat (first | (with_reducible first | exact HB.out | apply below_alloc | apply pw_below_drewN | apply below_drew1) | exact HB.out)))); have HSZ4 : Aside0 (w3.heap.size ≤ w4.heap.size) := ⟨hb.size⟩; have n_ := Aside0.mk (Kd.R_below (by (with_reducible repeat (first | apply Kd.R_alloc | apply Kd.R_drewN | apply Kd.R_drew)); exact HO2.out) hb); clear HO2; have HO2 := n_; clear n_; have n_ := Aside0.mk (Kd.R_below (by (with_reducible repeat (first | apply Kd.R_alloc | apply Kd.R_drewN | apply Kd.R_drew)); exact HO3.out) hb); clear HO3; have HO3 := n_; clear n_; have nB_ := Aside0.mk (below_step (by repeat (first | (with_reducible first | exact HB.out | apply below_alloc | apply pw_below_drewN | apply below_drew1) | exact HB.out)) hb); clear HB; have HB := nB_; clear nB_; clear hOI_ ho_ hb; obtain ⟨B4, d4, ev_⟩ := Kd.R_slice HO4.out; subst ev_; clear HO2 HO3; have TK4 : Aside0 True := ⟨trivial⟩) | (have tok_ := TK4; clear TK4 tok_; go_at_call 12; refine (laws_toJudgeS.calls (k := k) (A0 := A0) (c0 := c0) (l0 := l0) (r := x5) (h := hx5.out) (hr0 := ?hr0) (hc0 := ?hc0)).mono ?_; (case hr0 => exact Kd.C_below HR0.out (by repeat (first | (with_reducible first | exact HB.out | apply below_alloc | apply pw_below_drewN | apply below_drew1) | exact HB.out))); (case hc0 => exact HC0.out); rintro e w5 ⟨v_, rfl, ho_, hb⟩; have hOI_ : Kd.R k46 46 w5 w4.heap.size (fun k => w4.heap.size ≤ k ∧ k < w5.heap.size) _ _ := M.own_interval (Kd.S_R ho_); have HO5 := Aside0.mk (Kd.R_lower hOI_ (below_size (by repeat (first | (with_reducible first | exact HB.out | apply below_alloc | apply pw_below_drewN | apply below_drew1) | exact HB.out)))); have HSZ5 : Aside0 (w4.heap.size ≤ w5.heap.size) := ⟨hb.size⟩; have n_ := Aside0.mk (Kd.R_below (by (with_reducible repeat (first | apply Kd.R_alloc | apply Kd.R_drewN | apply Kd.R_drew)); exact HO4.out) hb); clear HO4; have HO4 := n_; clear n_; have nB_ := Aside0.mk (below_step (by repeat (first | (with_reducible first | exact HB.out | apply below_alloc | apply pw_below_drewN | apply below_drew1) | exact HB.out)) hb); clear HB; have HB := nB_; clear nB_; clear hOI_ ho_ hb; obtain ⟨B5, d5, ev_⟩ := Kd.R_slice HO5.out; subst ev_; have TK5 : Aside0 True := ⟨trivial⟩) | (have tok_ := TK5; clear TK5 tok_; go_at_call 16; refine (laws_toIntS.calls (k := k) (A0 := A1) (c0 := c1) (l0 := l1) (r := x6) (h := hx6.out) (hr0 := ?hr0) (hc0 := ?hc0)).mono ?_; (case hr0 => exact Kd.C_below HR1.out (by repeat (first | (with_reducible first | exact HB.out | apply below_alloc | apply pw_below_drewN | apply below_drew1) | exact HB.out))); (case hc0 => exact HC1.out); rintro e w6 ⟨v_, rfl, ho_, hb⟩; have hOI_ : Kd.R (Kd.int .i64) 3 w6 w5.heap.size (fun k => w5.heap.size ≤ k ∧ k < w6.heap.size) _ _ := M.own_interval ho_; have HO6 := Aside0.mk (Kd.R_lower hOI_ (below_size (by repeat (first | (with_reducible first | exact HB.out | apply below_alloc | apply pw_below_drewN | apply below_drew1) | exact HB.out)))); have HSZ6 : Aside0 (w5.heap.size ≤ w6.heap.size) := ⟨hb.size⟩; have n_ := Aside0.mk (Kd.R_below (by (with_reducible repeat (first | apply Kd.R_alloc | apply Kd.R_drewN | apply Kd.R_drew)); exact HO4.out) hb); clear HO4; have HO4 := n_; clear n_; have n_ := Aside0.mk (Kd.R_below (by (with_reducible repeat (first | apply Kd.R_alloc | apply Kd.R_drewN | apply Kd.R_drew)); exact HO5.out) hb); clear HO5; have HO5 := n_; clear n_; have nB_ := Aside0.mk (below_step (by repeat (first | (with_reducible first | exact HB.out | apply below_alloc | apply pw_below_drewN | apply below_drew1) | exact HB.out)) hb); clear HB; have HB := nB_; clear nB_; clear hOI_ ho_ hb; obtain ⟨B6, d6, ev_⟩ := Kd.R_slice HO6.out; subst ev_; have TK6 : Aside0 True := ⟨trivial⟩) | (have tok_ := TK6; clear TK6 tok_; go_at_call 17; refine (impl_FreeJudges.calls (k := k) (A0 := B5) (c0 := d5) (l0 := x5) (A1 := B6) (c1 := d6) (l1 := x6) (r := x7) (h := hx7.out) (hr0 := ?hr0) (hc0 := ?hc0) (hr1 := ?hr1) (hc1 := ?hc1)).mono ?_; (case hr0 => (with_reducible repeat (first | apply Kd.C_alloc | apply Kd.C_drewN | apply Kd.C_drew)); exact (Kd.R_reads' HO5.out).2.2); (case hc0 => exact (Kd.R_reads' HO5.out).2.1); (case hr1 => (with_reducible repeat (first | apply Kd.C_alloc | apply Kd.C_drewN | apply Kd.C_drew)); exact (Kd.R_reads' HO6.out).2.2); (case hc1 => exact (Kd.R_reads' HO6.out).2.1); rintro e w7 ⟨v_, rfl, ho_, hb⟩; have hOI_ : Kd.R (Kd.int .i64) 3 w7 w6.heap.size (fun k => w6.heap.size ≤ k ∧ k < w7.heap.size) _ _ := M.own_interval ho_; have HO7 := Aside0.mk (Kd.R_lower hOI_ (below_size (by repeat (first | (with_reducible first | exact HB.out | apply below_alloc | apply pw_below_drewN | apply below_drew1) | exact HB.out)))); have HSZ7 : Aside0 (w6.heap.size ≤ w7.heap.size) := ⟨hb.size⟩; have n_ := Aside0.mk (Kd.R_below (by (with_reducible repeat (first | apply Kd.R_alloc | apply Kd.R_drewN | apply Kd.R_drew)); exact HO4.out) hb); clear HO4; have HO4 := n_; clear n_; have n_ := Aside0.mk (Kd.R_below (by (with_reducible repeat (first | apply Kd.R_alloc | apply Kd.R_drewN | apply Kd.R_drew)); exact HO5.out) hb); clear HO5; have HO5 := n_; clear n_; have n_ := Aside0.mk (Kd.R_below (by (with_reducible repeat (first | apply Kd.R_alloc | apply Kd.R_drewN | apply Kd.R_drew)); exact HO6.out) hb); clear HO6; have HO6 := n_; clear n_; have nB_ := Aside0.mk (below_step (by repeat (first | (with_reducible first | exact HB.out | apply below_alloc | apply pw_below_drewN | apply below_drew1) | exact HB.out)) hb); clear HB; have HB := nB_; clear nB_; clear hOI_ ho_ hb; obtain ⟨B7, d7, ev_⟩ := Kd.R_slice HO7.out; subst ev_; have TK7 : Aside0 True := ⟨trivial⟩) | (have tok_ := TK7; clear TK7 tok_; go_at_call 18; refine (laws_eqIntS.calls (k := k) (A0 := B7) (c0 := d7) (l0 := x7) (A1 := B4) (c1 := d4) (l1 := x4) (r := true) (h := hx8.out) (hr0 := ?hr0) (hc0 := ?hc0) (hr1 := ?hr1) (hc1 := ?hc1)).mono ?_; (case hr0 => (with_reducible repeat (first | apply Kd.C_alloc | apply Kd.C_drewN | apply Kd.C_drew)); exact (Kd.R_reads' HO7.out).2.2); (case hc0 => exact (Kd.R_reads' HO7.out).2.1); (case hr1 => (with_reducible repeat (first | apply Kd.C_alloc | apply Kd.C_drewN | apply Kd.C_drew)); exact (Kd.R_reads' HO4.out).2.2); (case hc1 => exact (Kd.R_reads' HO4.out).2.1); rintro e w8 ⟨rfl, hd_⟩; have hb := M.drawn_below hd_; clear hd_; have HSZ8 : Aside0 (w7.heap.size ≤ w8.heap.size) := ⟨hb.size⟩; have n_ := Aside0.mk (Kd.R_below (by (with_reducible repeat (first | apply Kd.R_alloc | apply Kd.R_drewN | apply Kd.R_drew)); exact HO4.out) hb); clear HO4; have HO4 := n_; clear n_; have n_ := Aside0.mk (Kd.R_below (by (with_reducible repeat (first | apply Kd.R_alloc | apply Kd.R_drewN | apply Kd.R_drew)); exact HO5.out) hb); clear HO5; have HO5 := n_; clear n_; have n_ := Aside0.mk (Kd.R_below (by (with_reducible repeat (first | apply Kd.R_alloc | apply Kd.R_drewN | apply Kd.R_drew)); exact HO6.out) hb); clear HO6; have HO6 := n_; clear n_; have n_ := Aside0.mk (Kd.R_below (by (with_reducible repeat (first | apply Kd.R_alloc | apply Kd.R_drewN | apply Kd.R_drew)); exact HO7.out) hb); clear HO7; have HO7 := n_; clear n_; have nB_ := Aside0.mk (below_step (by repeat (first | (with_reducible first | exact HB.out | apply below_alloc | apply pw_below_drewN | apply below_drew1) | exact HB.out)) hb); clear HB; have HB := nB_; clear nB_; clear hb; have TK8 : Aside0 True := ⟨trivial⟩) | (have tok_ := TK8; clear TK8 tok_; go_at_call 12; refine (laws_toJudgeS.calls (k := k) (A0 := A0) (c0 := c0) (l0 := l0) (r := x9) (h := hx9.out) (hr0 := ?hr0) (hc0 := ?hc0)).mono ?_; (case hr0 => exact Kd.C_below HR0.out (by repeat (first | (with_reducible first | exact HB.out | apply below_alloc | apply pw_below_drewN | apply below_drew1) | exact HB.out))); (case hc0 => exact HC0.out); rintro e w9 ⟨v_, rfl, ho_, hb⟩; have hOI_ : Kd.R k46 46 w9 w8.heap.size (fun k => w8.heap.size ≤ k ∧ k < w9.heap.size) _ _ := M.own_interval (Kd.S_R ho_); have HO9 := Aside0.mk (Kd.R_lower hOI_ (below_size (by repeat (first | (with_reducible first | exact HB.out | apply below_alloc | apply pw_below_drewN | apply below_drew1) | exact HB.out)))); have HSZ9 : Aside0 (w8.heap.size ≤ w9.heap.size) := ⟨hb.size⟩; have n_ := Aside0.mk (Kd.R_below (by (with_reducible repeat (first | apply Kd.R_alloc | apply Kd.R_drewN | apply Kd.R_drew)); exact HO4.out) hb); clear HO4; have HO4 := n_; clear n_; have n_ := Aside0.mk (Kd.R_below (by (with_reducible repeat (first | apply Kd.R_alloc | apply Kd.R_drewN | apply Kd.R_drew)); exact HO5.out) hb); clear HO5; have HO5 := n_; clear n_; have n_ := Aside0.mk (Kd.R_below (by (with_reducible repeat (first | apply Kd.R_alloc | apply Kd.R_drewN | apply Kd.R_drew)); exact HO6.out) hb); clear HO6; have HO6 := n_; clear n_; have n_ := Aside0.mk (Kd.R_below (by (with_reducible repeat (first | apply Kd.R_alloc | apply Kd.R_drewN | apply Kd.R_drew)); exact HO7.out) hb); clear HO7; have HO7 := n_; clear n_; have nB_ := Aside0.mk (below_step (by repeat (first | (with_reducible first | exact HB.out | apply below_alloc | apply pw_below_drewN | apply below_drew1) | exact HB.out)) hb); clear HB; have HB := nB_; clear nB_; clear hOI_ ho_ hb; obtain ⟨B9, d9, ev_⟩ := Kd.R_slice HO9.out; subst ev_; have TK9 : Aside0 True := ⟨trivial⟩) | (have tok_ := TK9; clear TK9 tok_; go_at_call 14; refine (laws_eqJudgeS.calls (k := k) (A0 := B5) (c0 := d5) (l0 := x5) (A1 := B9) (c1 := d9) (l1 := x9) (r := true) (h := hx10.out) (hr0 := ?hr0) (hc0 := ?hc0) (hr1 := ?hr1) (hc1 := ?hc1)).mono ?_; (case hr0 => (with_reducible repeat (first | apply Kd.C_alloc | apply Kd.C_drewN | apply Kd.C_drew)); exact (Kd.R_reads' HO5.out).2.2); (case hc0 => exact (Kd.R_reads' HO5.out).2.1); (case hr1 => (with_reducible repeat (first | apply Kd.C_alloc | apply Kd.C_drewN | apply Kd.C_drew)); exact (Kd.R_reads' HO9.out).2.2); (case hc1 => exact (Kd.R_reads' HO9.out).2.1); rintro e w10 ⟨rfl, hb⟩; have HSZ10 : Aside0 (w9.heap.size ≤ w10.heap.size) := ⟨hb.size⟩; have n_ := Aside0.mk (Kd.R_below (by (with_reducible repeat (first | apply Kd.R_alloc | apply Kd.R_drewN | apply Kd.R_drew)); exact HO4.out) hb); clear HO4; have HO4 := n_; clear n_; have n_ := Aside0.mk (Kd.R_below (by (with_reducible repeat (first | apply Kd.R_alloc | apply Kd.R_drewN | apply Kd.R_drew)); exact HO5.out) hb); clear HO5; have HO5 := n_; clear n_; have n_ := Aside0.mk (Kd.R_below (by (with_reducible repeat (first | apply Kd.R_alloc | apply Kd.R_drewN | apply Kd.R_drew)); exact HO6.out) hb); clear HO6; have HO6 := n_; clear n_; have n_ := Aside0.mk (Kd.R_below (by (with_reducible repeat (first | apply Kd.R_alloc | apply Kd.R_drewN | apply Kd.R_drew)); exact HO7.out) hb); clear HO7; have HO7 := n_; clear n_; have n_ := Aside0.mk (Kd.R_below (by (with_reducible repeat (first | apply Kd.R_alloc | apply Kd.R_drewN | apply Kd.R_drew)); exact HO9.out) hb); clear HO9; have HO9 := n_; clear n_; have nB_ := Aside0.mk (below_step (by repeat (first | (with_reducible first | exact HB.out | apply below_alloc | apply pw_below_drewN | apply below_drew1) | exact HB.out)) hb); clear HB; have HB := nB_; clear nB_; clear hb; clear HO9; have TK10 : Aside0 True := ⟨trivial⟩) | (have tok_ := TK10; clear TK10 tok_; go_at_call 16; refine (laws_toIntS.calls (k := k) (A0 := A1) (c0 := c1) (l0 := l1) (r := x11) (h := hx11.out) (hr0 := ?hr0) (hc0 := ?hc0)).mono ?_; (case hr0 => exact Kd.C_below HR1.out (by repeat (first | (with_reducible first | exact HB.out | apply below_alloc | apply pw_below_drewN | apply below_drew1) | exact HB.out))); (case hc0 => exact HC1.out); rintro e w11 ⟨v_, rfl, ho_, hb⟩; have hOI_ : Kd.R (Kd.int .i64) 3 w11 w10.heap.size (fun k => w10.heap.size ≤ k ∧ k < w11.heap.size) _ _ := M.own_interval ho_; have HO11 := Aside0.mk (Kd.R_lower hOI_ (below_size (by repeat (first | (with_reducible first | exact HB.out | apply below_alloc | apply pw_below_drewN | apply below_drew1) | exact HB.out)))); have HSZ11 : Aside0 (w10.heap.size ≤ w11.heap.size) := ⟨hb.size⟩; have n_ := Aside0.mk (Kd.R_below (by (with_reducible repeat (first | apply Kd.R_alloc | apply Kd.R_drewN | apply Kd.R_drew)); exact HO4.out) hb); clear HO4; have HO4 := n_; clear n_; have n_ := Aside0.mk (Kd.R_below (by (with_reducible repeat (first | apply Kd.R_alloc | apply Kd.R_drewN | apply Kd.R_drew)); exact HO5.out) hb); clear HO5; have HO5 := n_; clear n_; have n_ := Aside0.mk (Kd.R_below (by (with_reducible repeat (first | apply Kd.R_alloc | apply Kd.R_drewN | apply Kd.R_drew)); exact HO6.out) hb); clear HO6; have HO6 := n_; clear n_; have n_ := Aside0.mk (Kd.R_below (by (with_reducible repeat (first | apply Kd.R_alloc | apply Kd.R_drewN | apply Kd.R_drew)); exact HO7.out) hb); clear HO7; have HO7 := n_; clear n_; have nB_ := Aside0.mk (below_step (by repeat (first | (with_reducible first | exact HB.out | apply below_alloc | apply pw_below_drewN | apply below_drew1) | exact HB.out)) hb); clear HB; have HB := nB_; clear nB_; clear hOI_ ho_ hb; obtain ⟨B11, d11, ev_⟩ := Kd.R_slice HO11.out; subst ev_; have TK11 : Aside0 True := ⟨trivial⟩) | (have tok_ := TK11; clear TK11 tok_; go_at_call 18; refine (laws_eqIntS.calls (k := k) (A0 := B6) (c0 := d6) (l0 := x6) (A1 := B11) (c1 := d11) (l1 := x11) (r := true) (h := hx12.out) (hr0 := ?hr0) (hc0 := ?hc0) (hr1 := ?hr1) (hc1 := ?hc1)).mono ?_; (case hr0 => (with_reducible repeat (first | apply Kd.C_alloc | apply Kd.C_drewN | apply Kd.C_drew)); exact (Kd.R_reads' HO6.out).2.2); (case hc0 => exact (Kd.R_reads' HO6.out).2.1); (case hr1 => (with_reducible repeat (first | apply Kd.C_alloc | apply Kd.C_drewN | apply Kd.C_drew)); exact (Kd.R_reads' HO11.out).2.2); (case hc1 => exact (Kd.R_reads' HO11.out).2.1); rintro e w12 ⟨rfl, hd_⟩; have hb := M.drawn_below hd_; clear hd_; have HSZ12 : Aside0 (w11.heap.size ≤ w12.heap.size) := ⟨hb.size⟩; have n_ := Aside0.mk (Kd.R_below (by (with_reducible repeat (first | apply Kd.R_alloc | apply Kd.R_drewN | apply Kd.R_drew)); exact HO4.out) hb); clear HO4; have HO4 := n_; clear n_; have n_ := Aside0.mk (Kd.R_below (by (with_reducible repeat (first | apply Kd.R_alloc | apply Kd.R_drewN | apply Kd.R_drew)); exact HO5.out) hb); clear HO5; have HO5 := n_; clear n_; have n_ := Aside0.mk (Kd.R_below (by (with_reducible repeat (first | apply Kd.R_alloc | apply Kd.R_drewN | apply Kd.R_drew)); exact HO6.out) hb); clear HO6; have HO6 := n_; clear n_; have n_ := Aside0.mk (Kd.R_below (by (with_reducible repeat (first | apply Kd.R_alloc | apply Kd.R_drewN | apply Kd.R_drew)); exact HO7.out) hb); clear HO7; have HO7 := n_; clear n_; have n_ := Aside0.mk (Kd.R_below (by (with_reducible repeat (first | apply Kd.R_alloc | apply Kd.R_drewN | apply Kd.R_drew)); exact HO11.out) hb); clear HO11; have HO11 := n_; clear n_; have nB_ := Aside0.mk (below_step (by repeat (first | (with_reducible first | exact HB.out | apply below_alloc | apply pw_below_drewN | apply below_drew1) | exact HB.out)) hb); clear HB; have HB := nB_; clear nB_; clear hb; clear HO11; have TK12 : Aside0 True := ⟨trivial⟩) | (have tok_ := TK12; clear TK12 tok_; go_at_call 19; refine (M.markJudges (e := 46) (base := w.heap.size) (fun k => w4.heap.size ≤ k ∧ k < w5.heap.size) B5 d5 x5 1 _ ?q1 ?q1b ?q1c ?q2 ?q3).mono ?_; (case q1 => exact (by (with_reducible repeat (first | apply Kd.R_alloc | apply Kd.R_drewN | apply Kd.R_drew)); exact HO5.out)); (case q1b => exact HTK13.out.1.1); (case q1c => exact HTK13.out.1.2); (case q2 => omega); (case q3 => have := HTK13.out.2; omega); rintro e w13 ⟨he_, hm_⟩; rw [← HKK13.out] at he_; subst he_; have n_ := Aside0.mk (Kd.R_kept (by (with_reducible repeat (first | apply Kd.R_alloc | apply Kd.R_drewN | apply Kd.R_drew)); exact HO4.out) hm_.kept (fun k h1 h2 => by obtain ⟨h1a, h1b⟩ := h1; obtain ⟨h2a, h2b⟩ := h2; have := HSZ1.out; have := HSZ2.out; have := HSZ3.out; have := HSZ4.out; have := HSZ5.out; have := HSZ6.out; have := HSZ7.out; have := HSZ8.out; have := HSZ9.out; have := HSZ10.out; have := HSZ11.out; have := HSZ12.out; omega)); clear HO4; have HO4 := n_; clear n_; have n_ := Aside0.mk (Kd.R_kept (by (with_reducible repeat (first | apply Kd.R_alloc | apply Kd.R_drewN | apply Kd.R_drew)); exact HO6.out) hm_.kept (fun k h1 h2 => by obtain ⟨h1a, h1b⟩ := h1; obtain ⟨h2a, h2b⟩ := h2; have := HSZ1.out; have := HSZ2.out; have := HSZ3.out; have := HSZ4.out; have := HSZ5.out; have := HSZ6.out; have := HSZ7.out; have := HSZ8.out; have := HSZ9.out; have := HSZ10.out; have := HSZ11.out; have := HSZ12.out; omega)); clear HO6; have HO6 := n_; clear n_; have n_ := Aside0.mk (Kd.R_kept (by (with_reducible repeat (first | apply Kd.R_alloc | apply Kd.R_drewN | apply Kd.R_drew)); exact HO7.out) hm_.kept (fun k h1 h2 => by obtain ⟨h1a, h1b⟩ := h1; obtain ⟨h2a, h2b⟩ := h2; have := HSZ1.out; have := HSZ2.out; have := HSZ3.out; have := HSZ4.out; have := HSZ5.out; have := HSZ6.out; have := HSZ7.out; have := HSZ8.out; have := HSZ9.out; have := HSZ10.out; have := HSZ11.out; have := HSZ12.out; omega)); clear HO7; have HO7 := n_; clear n_; have nB_ := Aside0.mk (M.MI.below hm_ (by repeat (first | (with_reducible first | exact HB.out | apply below_alloc | apply pw_below_drewN | apply below_drew1) | exact HB.out)) (fun k hk => by have := hk.1; have := HSZ1.out; have := HSZ2.out; have := HSZ3.out; have := HSZ4.out; have := HSZ5.out; have := HSZ6.out; have := HSZ7.out; have := HSZ8.out; have := HSZ9.out; have := HSZ10.out; have := HSZ11.out; have := HSZ12.out; omega)); clear HB; have HB := nB_; clear nB_ HO5; have HSZ13 : Aside0 (w12.heap.size ≤ w13.heap.size) := ⟨hm_.size⟩; clear hm_; have TK13 : Aside0 True := ⟨trivial⟩) | (have tok_ := TK13; clear TK13 tok_; go_at_call 20; refine (M.markI_calls (fun k => w5.heap.size ≤ k ∧ k < w6.heap.size) B6 x6.length d6 K13 _ ?q1 ?q2 ?q3).mono ?_; (case q1 => exact M.RowI.of_R (by (with_reducible repeat (first | apply Kd.R_alloc | apply Kd.R_drewN | apply Kd.R_drew)); exact HO6.out) (by have := HTK14.out; omega)); (case q2 => have := HQK13.out; omega); (case q3 => have := HTK14.out; have := HQK13.out; omega); rintro e w14 ⟨he_, hm_⟩; rw [← HKK14.out] at he_; subst he_; have n_ := Aside0.mk (Kd.R_kept (by (with_reducible repeat (first | apply Kd.R_alloc | apply Kd.R_drewN | apply Kd.R_drew)); exact HO4.out) hm_.kept (fun k h1 h2 => by obtain ⟨h1a, h1b⟩ := h1; obtain ⟨h2a, h2b⟩ := h2; have := HSZ1.out; have := HSZ2.out; have := HSZ3.out; have := HSZ4.out; have := HSZ5.out; have := HSZ6.out; have := HSZ7.out; have := HSZ8.out; have := HSZ9.out; have := HSZ10.out; have := HSZ11.out; have := HSZ12.out; have := HSZ13.out; omega)); clear HO4; have HO4 := n_; clear n_; have n_ := Aside0.mk (Kd.R_kept (by (with_reducible repeat (first | apply Kd.R_alloc | apply Kd.R_drewN | apply Kd.R_drew)); exact HO7.out) hm_.kept (fun k h1 h2 => by obtain ⟨h1a, h1b⟩ := h1; obtain ⟨h2a, h2b⟩ := h2; have := HSZ1.out; have := HSZ2.out; have := HSZ3.out; have := HSZ4.out; have := HSZ5.out; have := HSZ6.out; have := HSZ7.out; have := HSZ8.out; have := HSZ9.out; have := HSZ10.out; have := HSZ11.out; have := HSZ12.out; have := HSZ13.out; omega)); clear HO7; have HO7 := n_; clear n_; have nB_ := Aside0.mk (M.MI.below hm_ (by repeat (first | (with_reducible first | exact HB.out | apply below_alloc | apply pw_below_drewN | apply below_drew1) | exact HB.out)) (fun k hk => by have := hk.1; have := HSZ1.out; have := HSZ2.out; have := HSZ3.out; have := HSZ4.out; have := HSZ5.out; have := HSZ6.out; have := HSZ7.out; have := HSZ8.out; have := HSZ9.out; have := HSZ10.out; have := HSZ11.out; have := HSZ12.out; have := HSZ13.out; omega)); clear HB; have HB := nB_; clear nB_ HO6; have HSZ14 : Aside0 (w13.heap.size ≤ w14.heap.size) := ⟨hm_.size⟩; clear hm_; have TK14 : Aside0 True := ⟨trivial⟩) | (have tok_ := TK14; clear TK14 tok_; go_at_call 18; refine (laws_eqIntS.calls (k := k) (A0 := B7) (c0 := d7) (l0 := x7) (A1 := B4) (c1 := d4) (l1 := x4) (r := true) (h := hx15.out) (hr0 := ?hr0) (hc0 := ?hc0) (hr1 := ?hr1) (hc1 := ?hc1)).mono ?_; (case hr0 => (with_reducible repeat (first | apply Kd.C_alloc | apply Kd.C_drewN | apply Kd.C_drew)); exact (Kd.R_reads' HO7.out).2.2); (case hc0 => exact (Kd.R_reads' HO7.out).2.1); (case hr1 => (with_reducible repeat (first | apply Kd.C_alloc | apply Kd.C_drewN | apply Kd.C_drew)); exact (Kd.R_reads' HO4.out).2.2); (case hc1 => exact (Kd.R_reads' HO4.out).2.1); rintro e w15 ⟨rfl, hd_⟩; have hb := M.drawn_below hd_; clear hd_; have HSZ15 : Aside0 (w14.heap.size ≤ w15.heap.size) := ⟨hb.size⟩; have n_ := Aside0.mk (Kd.R_below (by (with_reducible repeat (first | apply Kd.R_alloc | apply Kd.R_drewN | apply Kd.R_drew)); exact HO4.out) hb); clear HO4; have HO4 := n_; clear n_; have n_ := Aside0.mk (Kd.R_below (by (with_reducible repeat (first | apply Kd.R_alloc | apply Kd.R_drewN | apply Kd.R_drew)); exact HO7.out) hb); clear HO7; have HO7 := n_; clear n_; have nB_ := Aside0.mk (below_step (by repeat (first | (with_reducible first | exact HB.out | apply below_alloc | apply pw_below_drewN | apply below_drew1) | exact HB.out)) hb); clear HB; have HB := nB_; clear nB_; clear hb; have TK15 : Aside0 True := ⟨trivial⟩) | (have tok_ := TK15; clear TK15 tok_; go_at_call 20; refine (laws_markIntS.calls (k := k) (P0_ := fun k => w6.heap.size ≤ k ∧ k < w7.heap.size) (u9000_ := .slice B7 x7.length d7) (l0 := x7) (a1 := 1) (r1 := m16) (r2 := y16) (w0 := w) (h := hx16.out) (hB := ?q1) (ho0 := ?q2)).mono ?_; (case q1 => exact (by repeat (first | (with_reducible first | exact HB.out | apply below_alloc | apply pw_below_drewN | apply below_drew1) | exact HB.out))); (case q2 => (with_reducible repeat (first | apply Kd.R_alloc | apply Kd.R_drewN | apply Kd.R_drew)); exact HO7.out); rintro e w16 ⟨rfl, ho_, hb_, hk_⟩; have n_ := Aside0.mk (Kd.R_kept (by (with_reducible repeat (first | apply Kd.R_alloc | apply Kd.R_drewN | apply Kd.R_drew)); exact HO4.out) hk_ (fun k h1 h2 => by obtain ⟨h1a, h1b⟩ := h1; obtain ⟨h2a, h2b⟩ := h2; have := HSZ1.out; have := HSZ2.out; have := HSZ3.out; have := HSZ4.out; have := HSZ5.out; have := HSZ6.out; have := HSZ7.out; have := HSZ8.out; have := HSZ9.out; have := HSZ10.out; have := HSZ11.out; have := HSZ12.out; have := HSZ13.out; have := HSZ14.out; have := HSZ15.out; omega)); clear HO4; have HO4 := n_; clear n_; clear HO7; have HO7 := Aside0.mk ho_; have el_ : x7.length = y16.length := (Kd.R_reads' ho_).1; clear HB; have HB := Aside0.mk hb_; have HSZ16 : Aside0 (w15.heap.size ≤ w16.heap.size) := ⟨hk_.1⟩; clear ho_ hb_ hk_; rw [el_]; rw [el_] at HO7; clear el_; have TK16 : Aside0 True := ⟨trivial⟩) | (have tok_ := TK16; clear TK16 tok_; go_at_call 21; refine (laws_heldIntS.calls (k := k) (A0 := B7) (c0 := d7) (l0 := y16) (a1 := 1) (r := m16) (h := hx17.out) (hr0 := ?hr0) (hc0 := ?hc0)).mono ?_; (case hr0 => (with_reducible repeat (first | apply Kd.C_alloc | apply Kd.C_drewN | apply Kd.C_drew)); exact (Kd.R_reads' HO7.out).2.2); (case hc0 => exact (Kd.R_reads' HO7.out).2.1); rintro e w17 ⟨rfl, hd_⟩; have hb := M.drawn_below hd_; clear hd_; have HSZ17 : Aside0 (w16.heap.size ≤ w17.heap.size) := ⟨hb.size⟩; have n_ := Aside0.mk (Kd.R_below (by (with_reducible repeat (first | apply Kd.R_alloc | apply Kd.R_drewN | apply Kd.R_drew)); exact HO4.out) hb); clear HO4; have HO4 := n_; clear n_; have n_ := Aside0.mk (Kd.R_below (by (with_reducible repeat (first | apply Kd.R_alloc | apply Kd.R_drewN | apply Kd.R_drew)); exact HO7.out) hb); clear HO7; have HO7 := n_; clear n_; have nB_ := Aside0.mk (below_step (by repeat (first | (with_reducible first | exact HB.out | apply below_alloc | apply pw_below_drewN | apply below_drew1) | exact HB.out)) hb); clear HB; have HB := nB_; clear nB_; clear hb; have TK17 : Aside0 True := ⟨trivial⟩) | (have tok_ := TK17; clear TK17 tok_; go_at_call 12; refine (laws_toJudgeS.calls (k := k) (A0 := A0) (c0 := c0) (l0 := l0) (r := x18) (h := hx18.out) (hr0 := ?hr0) (hc0 := ?hc0)).mono ?_; (case hr0 => exact Kd.C_below HR0.out (by repeat (first | (with_reducible first | exact HB.out | apply below_alloc | apply pw_below_drewN | apply below_drew1) | exact HB.out))); (case hc0 => exact HC0.out); rintro e w18 ⟨v_, rfl, ho_, hb⟩; have hOI_ : Kd.R k46 46 w18 w17.heap.size (fun k => w17.heap.size ≤ k ∧ k < w18.heap.size) _ _ := M.own_interval (Kd.S_R ho_); have HO18 := Aside0.mk (Kd.R_lower hOI_ (below_size (by repeat (first | (with_reducible first | exact HB.out | apply below_alloc | apply pw_below_drewN | apply below_drew1) | exact HB.out)))); have HSZ18 : Aside0 (w17.heap.size ≤ w18.heap.size) := ⟨hb.size⟩; have n_ := Aside0.mk (Kd.R_below (by (with_reducible repeat (first | apply Kd.R_alloc | apply Kd.R_drewN | apply Kd.R_drew)); exact HO4.out) hb); clear HO4; have HO4 := n_; clear n_; have n_ := Aside0.mk (Kd.R_below (by (with_reducible repeat (first | apply Kd.R_alloc | apply Kd.R_drewN | apply Kd.R_drew)); exact HO7.out) hb); clear HO7; have HO7 := n_; clear n_; have nB_ := Aside0.mk (below_step (by repeat (first | (with_reducible first | exact HB.out | apply below_alloc | apply pw_below_drewN | apply below_drew1) | exact HB.out)) hb); clear HB; have HB := nB_; clear nB_; clear hOI_ ho_ hb; obtain ⟨B18, d18, ev_⟩ := Kd.R_slice HO18.out; subst ev_; have TK18 : Aside0 True := ⟨trivial⟩) | (have tok_ := TK18; clear TK18 tok_; go_at_call 16; refine (laws_toIntS.calls (k := k) (A0 := A1) (c0 := c1) (l0 := l1) (r := x19) (h := hx19.out) (hr0 := ?hr0) (hc0 := ?hc0)).mono ?_; (case hr0 => exact Kd.C_below HR1.out (by repeat (first | (with_reducible first | exact HB.out | apply below_alloc | apply pw_below_drewN | apply below_drew1) | exact HB.out))); (case hc0 => exact HC1.out); rintro e w19 ⟨v_, rfl, ho_, hb⟩; have hOI_ : Kd.R (Kd.int .i64) 3 w19 w18.heap.size (fun k => w18.heap.size ≤ k ∧ k < w19.heap.size) _ _ := M.own_interval ho_; have HO19 := Aside0.mk (Kd.R_lower hOI_ (below_size (by repeat (first | (with_reducible first | exact HB.out | apply below_alloc | apply pw_below_drewN | apply below_drew1) | exact HB.out)))); have HSZ19 : Aside0 (w18.heap.size ≤ w19.heap.size) := ⟨hb.size⟩; have n_ := Aside0.mk (Kd.R_below (by (with_reducible repeat (first | apply Kd.R_alloc | apply Kd.R_drewN | apply Kd.R_drew)); exact HO4.out) hb); clear HO4; have HO4 := n_; clear n_; have n_ := Aside0.mk (Kd.R_below (by (with_reducible repeat (first | apply Kd.R_alloc | apply Kd.R_drewN | apply Kd.R_drew)); exact HO7.out) hb); clear HO7; have HO7 := n_; clear n_; have n_ := Aside0.mk (Kd.R_below (by (with_reducible repeat (first | apply Kd.R_alloc | apply Kd.R_drewN | apply Kd.R_drew)); exact HO18.out) hb); clear HO18; have HO18 := n_; clear n_; have nB_ := Aside0.mk (below_step (by repeat (first | (with_reducible first | exact HB.out | apply below_alloc | apply pw_below_drewN | apply below_drew1) | exact HB.out)) hb); clear HB; have HB := nB_; clear nB_; clear hOI_ ho_ hb; obtain ⟨B19, d19, ev_⟩ := Kd.R_slice HO19.out; subst ev_; have TK19 : Aside0 True := ⟨trivial⟩) | (have tok_ := TK19; clear TK19 tok_; go_at_call 17; refine (impl_FreeJudges.calls (k := k) (A0 := B18) (c0 := d18) (l0 := x18) (A1 := B19) (c1 := d19) (l1 := x19) (r := x20) (h := hx20.out) (hr0 := ?hr0) (hc0 := ?hc0) (hr1 := ?hr1) (hc1 := ?hc1)).mono ?_; (case hr0 => (with_reducible repeat (first | apply Kd.C_alloc | apply Kd.C_drewN | apply Kd.C_drew)); exact (Kd.R_reads' HO18.out).2.2); (case hc0 => exact (Kd.R_reads' HO18.out).2.1); (case hr1 => (with_reducible repeat (first | apply Kd.C_alloc | apply Kd.C_drewN | apply Kd.C_drew)); exact (Kd.R_reads' HO19.out).2.2); (case hc1 => exact (Kd.R_reads' HO19.out).2.1); rintro e w20 ⟨v_, rfl, ho_, hb⟩; have hOI_ : Kd.R (Kd.int .i64) 3 w20 w19.heap.size (fun k => w19.heap.size ≤ k ∧ k < w20.heap.size) _ _ := M.own_interval ho_; have HO20 := Aside0.mk (Kd.R_lower hOI_ (below_size (by repeat (first | (with_reducible first | exact HB.out | apply below_alloc | apply pw_below_drewN | apply below_drew1) | exact HB.out)))); have HSZ20 : Aside0 (w19.heap.size ≤ w20.heap.size) := ⟨hb.size⟩; have n_ := Aside0.mk (Kd.R_below (by (with_reducible repeat (first | apply Kd.R_alloc | apply Kd.R_drewN | apply Kd.R_drew)); exact HO4.out) hb); clear HO4; have HO4 := n_; clear n_; have n_ := Aside0.mk (Kd.R_below (by (with_reducible repeat (first | apply Kd.R_alloc | apply Kd.R_drewN | apply Kd.R_drew)); exact HO7.out) hb); clear HO7; have HO7 := n_; clear n_; have n_ := Aside0.mk (Kd.R_below (by (with_reducible repeat (first | apply Kd.R_alloc | apply Kd.R_drewN | apply Kd.R_drew)); exact HO18.out) hb); clear HO18; have HO18 := n_; clear n_; have n_ := Aside0.mk (Kd.R_below (by (with_reducible repeat (first | apply Kd.R_alloc | apply Kd.R_drewN | apply Kd.R_drew)); exact HO19.out) hb); clear HO19; have HO19 := n_; clear n_; have nB_ := Aside0.mk (below_step (by repeat (first | (with_reducible first | exact HB.out | apply below_alloc | apply pw_below_drewN | apply below_drew1) | exact HB.out)) hb); clear HB; have HB := nB_; clear nB_; clear hOI_ ho_ hb; obtain ⟨B20, d20, ev_⟩ := Kd.R_slice HO20.out; subst ev_; clear HO18 HO19; have TK20 : Aside0 True := ⟨trivial⟩) | (have tok_ := TK20; clear TK20 tok_; go_at_call 18; refine (laws_eqIntS.calls (k := k) (A0 := B20) (c0 := d20) (l0 := x20) (A1 := B4) (c1 := d4) (l1 := x4) (r := true) (h := hx21.out) (hr0 := ?hr0) (hc0 := ?hc0) (hr1 := ?hr1) (hc1 := ?hc1)).mono ?_; (case hr0 => (with_reducible repeat (first | apply Kd.C_alloc | apply Kd.C_drewN | apply Kd.C_drew)); exact (Kd.R_reads' HO20.out).2.2); (case hc0 => exact (Kd.R_reads' HO20.out).2.1); (case hr1 => (with_reducible repeat (first | apply Kd.C_alloc | apply Kd.C_drewN | apply Kd.C_drew)); exact (Kd.R_reads' HO4.out).2.2); (case hc1 => exact (Kd.R_reads' HO4.out).2.1); rintro e w21 ⟨rfl, hd_⟩; have hb := M.drawn_below hd_; clear hd_; have HSZ21 : Aside0 (w20.heap.size ≤ w21.heap.size) := ⟨hb.size⟩; have n_ := Aside0.mk (Kd.R_below (by (with_reducible repeat (first | apply Kd.R_alloc | apply Kd.R_drewN | apply Kd.R_drew)); exact HO4.out) hb); clear HO4; have HO4 := n_; clear n_; have n_ := Aside0.mk (Kd.R_below (by (with_reducible repeat (first | apply Kd.R_alloc | apply Kd.R_drewN | apply Kd.R_drew)); exact HO7.out) hb); clear HO7; have HO7 := n_; clear n_; have n_ := Aside0.mk (Kd.R_below (by (with_reducible repeat (first | apply Kd.R_alloc | apply Kd.R_drewN | apply Kd.R_drew)); exact HO20.out) hb); clear HO20; have HO20 := n_; clear n_; have nB_ := Aside0.mk (below_step (by repeat (first | (with_reducible first | exact HB.out | apply below_alloc | apply pw_below_drewN | apply below_drew1) | exact HB.out)) hb); clear HB; have HB := nB_; clear nB_; clear hb; clear HO4 HO20; have TK21 : Aside0 True := ⟨trivial⟩) | (have tok_ := TK21; clear TK21 tok_; go_at_call 21; refine (laws_heldIntS.calls (k := k) (A0 := B7) (c0 := d7) (l0 := y16) (a1 := 1) (r := m16) (h := hx22.out) (hr0 := ?hr0) (hc0 := ?hc0)).mono ?_; (case hr0 => (with_reducible repeat (first | apply Kd.C_alloc | apply Kd.C_drewN | apply Kd.C_drew)); exact (Kd.R_reads' HO7.out).2.2); (case hc0 => exact (Kd.R_reads' HO7.out).2.1); rintro e w22 ⟨rfl, hd_⟩; have hb := M.drawn_below hd_; clear hd_; have HSZ22 : Aside0 (w21.heap.size ≤ w22.heap.size) := ⟨hb.size⟩; have n_ := Aside0.mk (Kd.R_below (by (with_reducible repeat (first | apply Kd.R_alloc | apply Kd.R_drewN | apply Kd.R_drew)); exact HO7.out) hb); clear HO7; have HO7 := n_; clear n_; have nB_ := Aside0.mk (below_step (by repeat (first | (with_reducible first | exact HB.out | apply below_alloc | apply pw_below_drewN | apply below_drew1) | exact HB.out)) hb); clear HB; have HB := nB_; clear nB_; clear hb; clear HO7; have TK22 : Aside0 True := ⟨trivial⟩))
  go_ret
  exact ⟨rfl, (by repeat (first | (with_reducible first | exact HB.out | apply below_alloc | apply pw_below_drewN | apply below_drew1) | exact HB.out))⟩
end Go.Proofs.Ytdlebbmmanjffaa.A
end

section
set_option linter.unusedVariables false
namespace Go.Proofs.Ytdlebbmmanjffaa.Open
open Go.ChangeShapes Go.WideShapes Go.Deep Go.RowKit Go.Proofs.YtdlebbmmanjffaaW.PrintWords
def Opn (P : Program) (t : TypeId) {α : Type} (d : Kd α) : Prop :=
  ∀ (H : Type) (enc : TypeId × Value → H) (w : World) (base : Nat) (spare : Nat → Bool) (held : Bool) (fuel : Nat) (cs : List Value) (y : DataW H × List MemPlace),
    DataW.trod enc P w base spare held fuel t cs = some y → ∃ x : α, d.K w x cs
def OpnL (P : Program) (fs : List Field) {α : Type} (d : Kd α) : Prop :=
  ∀ (H : Type) (enc : TypeId × Value → H) (w : World) (base : Nat) (spare : Nat → Bool) (held : Bool) (cs : List Value), cs.length = fs.length →
    (∀ (j : Nat) (f : Field) (c : Value), fs[j]? = some f → cs[j]? = some c → ∃ (n : Nat) (y : DataW H × List MemPlace), DataW.trod enc P w base spare held n f.type [c] = some y) → ∃ x : α, d.K w x cs
theorem opn_int {P : Program} {t : TypeId} {k : IntKind} (ht : P.underlying t = some (.int k)) : Opn P t (Kd.int k) := by
  intro H enc w base spare held fuel cs y h
  obtain ⟨n, rfl, _⟩ := DataW.trod_int ht h
  exact ⟨n, rfl⟩
theorem opnL_one {P : Program} {f : Field} {α : Type} {d : Kd α} (h : Opn P f.type d) : OpnL P [f] d := by
  intro H enc w base spare held cs hl hf
  match cs, hl with
  | [c], _ =>
    obtain ⟨n, y, hy⟩ := hf 0 f c rfl rfl
    exact h H enc w base spare held n [c] y hy
theorem opnL_cons {P : Program} {f : Field} {fs : List Field} {α β : Type} {a : Kd α} {b : Kd β} (h : Opn P f.type a) (hs : OpnL P fs b) : OpnL P (f :: fs) (Kd.pair a b) := by
  intro H enc w base spare held cs hl hf
  match cs, hl with
  | c :: cs, hl =>
    obtain ⟨n, y, hy⟩ := hf 0 f c rfl rfl
    obtain ⟨x, hx⟩ := h H enc w base spare held n [c] y hy
    obtain ⟨z, hz⟩ := hs H enc w base spare held cs (by simpa using hl) (fun j f' c' h1 h2 => hf (j + 1) f' c' (by simpa using h1) (by simpa using h2))
    exact ⟨(x, z), [c], cs, rfl, hx, hz⟩
theorem opn_struct {P : Program} {t : TypeId} {fs : Array Field} (ht : P.underlying t = some (.struct fs)) (hone : oneCellFields P fs = true) (hC : P.cellsOf t = fs.size)
    {α : Type} {d : Kd α} (hL : OpnL P fs.toList d) : Opn P t d := by
  intro H enc w base spare held fuel cs y h
  obtain ⟨xs, n, _, _, hlen, hxl, hf⟩ := DataW.trod_struct ht h
  refine hL H enc w base spare held cs (by rw [hlen, hC, Array.length_toList]) (fun j f c hj hc => ?_)
  have hj' : fs[j]? = some f := by simpa using hj
  obtain ⟨ho, hk⟩ := hone_of hone j f hj'
  have h1 := hf j f hj'
  rw [ho, hk] at h1
  have hjl : j < fs.size := (Array.getElem?_eq_some_iff.1 hj').1
  have hcl : j < cs.length := (List.getElem?_eq_some_iff.1 hc).1
  have e1 : (cs.drop j).take 1 = [c] := by
    rw [List.drop_eq_getElem_cons hcl]
    have : cs[j] = c := (List.getElem?_eq_some_iff.1 hc).2
    rw [this]; rfl
  rw [e1] at h1
  exact ⟨n, xs[j]'(by omega), h1.trans (List.getElem?_eq_getElem (by omega))⟩
theorem opn_iso {P : Program} {t : TypeId} {α β : Type} {d : Kd α} {f : β → α} (h : Opn P t d) (hs : ∀ a, ∃ b, f b = a) : Opn P t (Kd.iso d f) := by
  intro H enc w base spare held fuel cs y hy
  obtain ⟨x, hx⟩ := h H enc w base spare held fuel cs y hy
  obtain ⟨z, rfl⟩ := hs x
  exact ⟨z, hx⟩
theorem list_of {α : Type} {p : Nat → α → Prop} : ∀ n, (∀ i, i < n → ∃ x, p i x) → ∃ l : List α, l.length = n ∧ ∀ i x, l[i]? = some x → p i x
  | 0, _ => ⟨[], rfl, fun i x h => by simp at h⟩
  | n + 1, h => by
    obtain ⟨l, hl, hp⟩ := list_of n (fun i hi => h i (by omega))
    obtain ⟨x, hx⟩ := h n (by omega)
    refine ⟨l ++ [x], by simp [hl], fun i y hy => ?_⟩
    rcases Nat.lt_or_ge i l.length with hi | hi
    · rw [List.getElem?_append_left hi] at hy
      exact hp i y hy
    · have hi' : i = l.length := by
        have := (List.getElem?_eq_some_iff.1 hy).1
        rw [List.length_append, List.length_singleton] at this
        omega
      subst hi'
      have : x = y := by simpa using hy
      subst this
      rw [hl]
      exact hx
theorem opn_slice {P : Program} {t e : TypeId} {α : Type} {d : Kd α} (ht : P.underlying t = some (.slice e)) (hC : P.cellsOf e = d.sz) (he : Opn P e d) : Opn P t (Kd.slice e d) := by
  intro H enc w base spare held fuel cs y h
  rcases open_slice ht h with ⟨rfl, _⟩ | ⟨a, len, cap, m, n, D, Pl, rfl, hb, hl, hm, hmm, hx, hi⟩
  · exact ⟨[], none, 0, rfl, Nat.le_refl _, rfl, by simp, fun h => absurd h (by simp)⟩
  · have hlm : len ≤ m := by rw [hmm]; split <;> omega
    obtain ⟨xs, hxl, hp⟩ := list_of (p := fun i x => ∃ cs', w.cells? base (a.add (i * P.cellsOf e)) (P.cellsOf e) = some cs' ∧ d.K w x cs') len (fun i hil => by
      obtain ⟨cs', h1, h2⟩ := hi i (by omega)
      obtain ⟨x, hx⟩ := he H enc w base spare held n cs' _ h2
      exact ⟨x, cs', h1, hx⟩)
    refine ⟨xs, some a, cap, by rw [hxl], by omega, rfl, by unfold maxLen at hm; omega, fun _ => ⟨a, rfl, fun j p hj => ?_⟩⟩
    obtain ⟨cs', hc, hk⟩ := hp j p hj
    obtain ⟨_, hcl, hat⟩ := World.cells?_some hc
    refine ⟨cs', d.K_len hk, hk, fun i u hu => ?_⟩
    have hil : i < cs'.length := (List.getElem?_eq_some_iff.1 hu).1
    have := hat i (by omega)
    rw [Go.Deep.add_add, hC] at this
    rw [this]
    exact hu
theorem opened {H : Type} {enc : TypeId × Value → H} {P : Program} {W : World} {base : Nat} {spare : Nat → Bool} {held : Bool} {t e : TypeId} {α : Type} {d : Kd α} (h : Opn P t (Kd.slice e d)) {a : Option Addr} {len cap : Nat} {dd : DataW H} {ps : List MemPlace}
    (ht : DataW.Trod enc P W base spare held t (.slice a len cap) dd ps) : ∃ l : List α, l.length = len ∧ l.length ≤ cap ∧ d.C W a l.length l := by
  obtain ⟨fuel, hf⟩ := ht
  obtain ⟨l, A, c, he, hl, hc⟩ := h H enc W base spare held fuel _ _ hf
  simp [Value.cells] at he
  obtain ⟨rfl, rfl, rfl⟩ := he
  exact ⟨l, rfl, hl, hc⟩
theorem C_mem {α : Type} {d : Kd α} {w : World} {A : Option Addr} {n : Nat} {xs : List α} (h : d.C w A n xs) (x : α) (hx : x ∈ xs) : ∃ c, d.K w x c := by
  obtain ⟨j, hj, rfl⟩ := List.mem_iff_getElem.1 hx
  have h0 : 0 < n := by have := h.1; omega
  obtain ⟨ad, _, hc⟩ := h.2.2 h0
  obtain ⟨c, _, hk, _⟩ := hc j _ (List.getElem?_eq_getElem hj)
  exact ⟨c, hk⟩
end Go.Proofs.Ytdlebbmmanjffaa.Open
end

section
set_option linter.unusedVariables false
set_option linter.unusedSimpArgs false
namespace Go.Proofs.Ytdlebbmmanjffaa.L
open Go Go.RowKit Go.Proofs.YtdlebbmmanjffaaW.PrintWords
theorem Ev.pos {α : Type} {c : Prop} [Decidable c] {A B : Nat → Option α} {r : α} (h : c) (k : Ev A r) : Ev (fun k => if c then A k else B k) r := by
  obtain ⟨K, k⟩ := k
  exact ⟨K, fun n hn => by show (if c then A n else B n) = some r; rw [if_pos h]; exact k n hn⟩
theorem Ev.neg {α : Type} {c : Prop} [Decidable c] {A B : Nat → Option α} {r : α} (h : ¬ c) (k : Ev B r) : Ev (fun k => if c then A k else B k) r := by
  obtain ⟨K, k⟩ := k
  exact ⟨K, fun n hn => by show (if c then A n else B n) = some r; rw [if_neg h]; exact k n hn⟩
theorem Ev.ite {α : Type} {c : Prop} [Decidable c] {A B : Nat → Option α} {r : α} (h : c → Ev A r) (k : ¬ c → Ev B r) : Ev (fun k => if c then A k else B k) r := by
  by_cases e : c
  · exact Ev.pos e (h e)
  · exact Ev.neg e (k e)
theorem Ev.cast {α : Type} {g : Nat → Option α} {r r' : α} (h : Ev g r) (e : r = r') : Ev g r' := e ▸ h
theorem Ev.bnd {α β : Type} {o : Option α} {a : α} {f : Nat → α → Option β} {r : β} (h : o = some a) (k : Ev (fun n => f n a) r) : Ev (fun n => o.bind (f n)) r := by
  obtain ⟨K, k⟩ := k
  exact ⟨K, fun n hn => by show o.bind (f n) = some r; rw [h]; exact k n hn⟩
theorem Ev.some_ {α : Type} {r r' : α} (h : r = r') : Ev (fun _ => some r) r' := h ▸ Ev.now r
theorem w64 {x : Int} (h0 : -9223372036854775808 ≤ x) (h1 : x ≤ 9223372036854775807) : wrap64 x = x := by
  unfold wrap64
  omega
theorem w64s {n : Nat} (h : n < 4611686018427387904) : wrap64 ((n : Int) + 1) = ((n + 1 : Nat) : Int) := by
  unfold wrap64
  omega
theorem rd_at {l : List Int} {n : Nat} (h : n < l.length) : rd l (n : Int) = l[n] := by
  simp [rd, h]
def inR (a b c : Int) : Bool := decide (b ≤ a ∧ a ≤ c)
end Go.Proofs.Ytdlebbmmanjffaa.L
end

section
set_option linter.unusedVariables false
set_option linter.unusedSimpArgs false
namespace Go.Proofs.Ytdlebbmmanjffaa.L
open Go Go.RowKit Go.Proofs.Ytdlebbmmanjffaa.A Go.Proofs.YtdlebbmmanjffaaW.PrintWords
theorem toIntS_l0 (l : List Int) (hl : l.length ≤ 1099511627776) : ∀ (d n : Nat) (xs : List Int), n + d = l.length → xs.length = l.length → xs.take n = l.take n → Ev (fun k => laws_toIntS.l0 k l xs (n : Int)) l := by
  intro d
  induction d with
  | zero =>
    intro n xs hd hx ht
    refine Ev.step (fun k => laws_toIntS.l0.eq_2 ..) ?_
    refine Ev.neg (by omega) (Ev.some_ ?_)
    rw [List.take_of_length_le (by omega), List.take_of_length_le (by omega)] at ht
    exact ht
  | succ d ih =>
    intro n xs hd hx ht
    refine Ev.step (fun k => laws_toIntS.l0.eq_2 ..) ?_
    refine Ev.pos (by omega) (Ev.pos (by omega) (Ev.pos (by omega) ?_))
    simp only [w64s (show n < 4611686018427387904 by omega), rd_at (show n < l.length by omega), Int.toNat_natCast]
    refine ih (n + 1) _ (by omega) (by simp [hx]) ?_
    rw [List.take_succ_eq_append_getElem (by simp; omega), List.take_succ_eq_append_getElem (by omega), List.take_set_of_le (by omega), ht]
    simp
theorem toIntS_ev (l : List Int) (hl : l.length ≤ 1099511627776) : Ev (fun k => laws_toIntS.f k l) l := by
  unfold laws_toIntS.f
  refine Ev.pos (by omega) (Ev.pos (by simp; omega) ?_)
  exact toIntS_l0 l hl l.length 0 _ (by omega) (by simp) (by simp)
theorem eqIntS_l0 (l m : List Int) (hl : l.length ≤ 1099511627776) (hm : l.length = m.length) : ∀ (d n : Nat), n + d = l.length → Ev (fun k => laws_eqIntS.l0 k l m (n : Int)) (decide (l.drop n = m.drop n)) := by
  intro d
  induction d with
  | zero =>
    intro n hd
    refine Ev.step (fun k => laws_eqIntS.l0.eq_2 ..) ?_
    refine Ev.neg (by omega) (Ev.some_ ?_)
    rw [List.drop_eq_nil_of_le (by omega), List.drop_eq_nil_of_le (by omega)]
    simp
  | succ d ih =>
    intro n hd
    refine Ev.step (fun k => laws_eqIntS.l0.eq_2 ..) ?_
    refine Ev.pos (by omega) (Ev.pos (by omega) (Ev.pos (by omega) ?_))
    simp only [w64s (show n < 4611686018427387904 by omega), rd_at (show n < l.length by omega), rd_at (show n < m.length by omega)]
    have h1 := ih (n + 1) (by omega)
    rw [List.drop_eq_getElem_cons (show n < l.length by omega), List.drop_eq_getElem_cons (show n < m.length by omega)]
    generalize l.drop (n + 1) = u at h1 ⊢
    generalize m.drop (n + 1) = v at h1 ⊢
    refine Ev.ite (fun h => Ev.cast h1 ?_) (fun h => Ev.some_ ?_)
    · simp [h]
    · simp [h]
theorem eqIntS_ev (l m : List Int) (hl : l.length ≤ 1099511627776) : Ev (fun k => laws_eqIntS.f k l m) (decide (l = m)) := by
  unfold laws_eqIntS.f
  refine Ev.ite (fun h => Ev.cast (eqIntS_l0 l m hl (by omega) l.length 0 (by omega)) (by simp)) (fun h => Ev.some_ ?_)
  have : l ≠ m := fun e => h (by rw [e])
  simp [this]
end Go.Proofs.Ytdlebbmmanjffaa.L
end

section
namespace Go.Proofs.Ytdlebbmmanjffaa.A
open Go.RowKit Go.Proofs.YtdlebbmmanjffaaW.PrintWords Go.Proofs.YtdlebbmmanjffaaW.PrintLast Go.Proofs.YtdlebbmmanjffaaW.PrintMore
attribute [local go_sem] max2_int min2_int max_two min_two max_three min_three max_four min_four   -- for this text's walks alone
set_option linter.unusedVariables false
set_option linter.unusedSimpArgs false
def spec_l1In.f (a0 : Int) (a1 : Int) (a2 : Int) : Option (Bool) := if a0 ≥ a1 then (some (decide (a0 ≤ a2))) else (some false)
end Go.Proofs.Ytdlebbmmanjffaa.A
end

section
set_option linter.unusedVariables false
set_option linter.unusedSimpArgs false
namespace Go.Proofs.Ytdlebbmmanjffaa.L
open Go Go.RowKit Go.Proofs.Ytdlebbmmanjffaa.A Go.Proofs.YtdlebbmmanjffaaW.PrintWords
end Go.Proofs.Ytdlebbmmanjffaa.L
end

section
namespace Go.Proofs.Ytdlebbmmanjffaa.A
open Go.RowKit Go.Proofs.YtdlebbmmanjffaaW.PrintWords Go.Proofs.YtdlebbmmanjffaaW.PrintLast Go.Proofs.YtdlebbmmanjffaaW.PrintMore
attribute [local go_sem] max2_int min2_int max_two min_two max_three min_three max_four min_four   -- for this text's walks alone
set_option linter.unusedVariables false
set_option linter.unusedSimpArgs false
def impl_InRange.f (a0 : Int) (a1 : Int) (a2 : Int) : Option (Bool) := if a1 ≤ a0 then (some (decide (a0 ≤ a2))) else (some false)
end Go.Proofs.Ytdlebbmmanjffaa.A
end

section
set_option linter.unusedVariables false
set_option linter.unusedSimpArgs false
namespace Go.Proofs.Ytdlebbmmanjffaa.L
open Go Go.RowKit Go.Proofs.Ytdlebbmmanjffaa.A Go.Proofs.YtdlebbmmanjffaaW.PrintWords
end Go.Proofs.Ytdlebbmmanjffaa.L
end

section
namespace Go.Proofs.Ytdlebbmmanjffaa.A
open Go.RowKit Go.Proofs.YtdlebbmmanjffaaW.PrintWords Go.Proofs.YtdlebbmmanjffaaW.PrintLast Go.Proofs.YtdlebbmmanjffaaW.PrintMore
def bvL : Nat → Nat → List Bool
  | 0, _ => []
  | n + 1, m => (m % 2 == 1) :: bvL n (m / 2)
def bv (n m : Nat) : Array Bool := (bvL n m).toArray
section
variable {P : Program} {ops : Array Oper} {Q : Exit → Act → World → Prop} {S : World → Prop} {ds : List Nat} {T : Bool × List (List Nat × List Nat)} {B : List Nat}
end
end Go.Proofs.Ytdlebbmmanjffaa.A
end

section
namespace Go.Proofs.Ytdlebbmmanjffaa.A
open Go.RowKit Go.Proofs.YtdlebbmmanjffaaW.PrintWords Go.Proofs.YtdlebbmmanjffaaW.PrintLast Go.Proofs.YtdlebbmmanjffaaW.PrintMore
attribute [local go_sem] max2_int min2_int max_two min_two max_three min_three max_four min_four   -- for this text's walks alone
set_option linter.unusedVariables false
set_option linter.unusedSimpArgs false
mutual
def spec_AreJudges.l0 : Nat → List (S46) → Int → Option (Bool)
  | 0, _, _ => none
  | k + 1, x0, x3 => if x3 < (x0.length : Int) then (if 0 ≤ x3 then ((spec_l1In.f ((rd_T46 x0 x3).f0) 1 99).bind fun t106 => (if t106 = true then ((spec_l1In.f ((rd_T46 x0 x3).f1) 1 99).bind fun t108 => (if t108 = true then (if x3 > 0 then (if 0 ≤ (wrap64 (x3 - 1)) then (if (wrap64 (x3 - 1)) < (x0.length : Int) then (spec_AreJudges.j1 k x0 x3 (decide (((rd_T46 x0 (wrap64 (x3 - 1))).f0) ≥ ((rd_T46 x0 x3).f0)))) else (none)) else (none)) else (spec_AreJudges.j1 k x0 x3 false)) else (spec_AreJudges.j1 k x0 x3 true))) else (spec_AreJudges.j1 k x0 x3 true))) else (none)) else (some (decide ((x0.length : Int) ≤ 10)))
def spec_AreJudges.j1 : Nat → List (S46) → Int → Bool → Option (Bool)
  | 0, _, _, _ => none
  | k + 1, x0, x3, x44 => if x44 = true then (some false) else (spec_AreJudges.l1 k x0 x3 0)
def spec_AreJudges.l1 : Nat → List (S46) → Int → Int → Option (Bool)
  | 0, _, _, _ => none
  | k + 1, x0, x3, x4 => if 0 ≤ x3 then (if x3 < (x0.length : Int) then (if x4 < (((rd_T46 x0 x3).f2).length : Int) then (if 0 ≤ x4 then ((spec_l1In.f (rd ((rd_T46 x0 x3).f2) x4) 1 99).bind fun t114 => (if t114 = true then (if x4 > 0 then (if 0 ≤ (wrap64 (x4 - 1)) then (if (wrap64 (x4 - 1)) < (((rd_T46 x0 x3).f2).length : Int) then (if (rd ((rd_T46 x0 x3).f2) (wrap64 (x4 - 1))) ≥ (rd ((rd_T46 x0 x3).f2) x4) then (some false) else (spec_AreJudges.l1 k x0 x3 (wrap64 (x4 + 1)))) else (none)) else (none)) else (spec_AreJudges.l1 k x0 x3 (wrap64 (x4 + 1)))) else (some false))) else (none)) else (spec_AreJudges.l0 k x0 (wrap64 (x3 + 1)))) else (none)) else (none)
end
def spec_AreJudges.f (k : Nat) (l0 : List (S46)) : Option (Bool) := spec_AreJudges.l0 k l0 0
def spec_AreJudges.T4 : Bool × List (List Nat × List Nat) := (true, [([], []), ([], []), ([0, 1], [0, 1]), ([2], [2]), ([3], [3]), ([4], [4]), ([5], [5]), ([6, 5], [6]), ([7], [7]), ([7], [7]), ([8, 9, 7], [7, 8, 9]), ([10, 7], [7, 10]), ([11, 7], [7, 11]), ([12, 7, 7], [7, 12]), ([13, 7], [7, 13]), ([7, 14], [7, 14]), ([15, 13], [15]), ([16], [16]), ([17, 16], [16, 17]), ([18, 16, 16], [16, 18]), ([19], [19]), ([19], [19]), ([21, 19], [19, 21]), ([20, 22, 19], [19, 20, 22]), ([23, 19], [19, 23]), ([24, 19], [19, 24]), ([19], [19]), ([19], [19]), ([26, 27, 19], [19, 26, 27]), ([28, 19], [19, 28]), ([29, 19], [19, 29]), ([25, 30, 19], [19, 25, 30]), ([19, 31, 16], [16, 19, 31]), ([16, 32], [16, 32])])
def spec_AreJudges.B4 : List Nat := [0, 0, 3, 7, 15, 31, 63, 127, 255, 255, 1023, 2047, 4095, 8191, 16383, 32767, 65535, 131071, 262143, 524287, 1048575, 1048575, 3145727, 8388607, 16777215, 33554431, 1048575, 1048575, 202375167, 470810623, 1007681535, 2147483647, 4294967295, 8589934591]
def spec_AreJudges.T9 : Bool × List (List Nat × List Nat) := (true, [([], []), ([], []), ([0, 1], [0, 1]), ([2], [2]), ([3], [3]), ([], []), ([4, 5], [4, 5]), ([6], [6]), ([7], [7]), ([8], [8]), ([9, 8], [9]), ([10], [10]), ([11, 10], [10, 11]), ([12, 10, 10], [10, 12]), ([13], [13]), ([13], [13]), ([14, 15, 13], [13, 14, 15]), ([16, 13], [13, 16]), ([17, 13], [13, 17]), ([13], [13]), ([19, 13], [13, 19]), ([18, 20, 13], [13, 18, 20]), ([21, 13], [13, 21]), ([13], [13]), ([13], [13]), ([23, 24, 13], [13, 23, 24]), ([25, 13], [13, 25]), ([26, 13], [13, 26]), ([13], [13]), ([27, 28, 13], [13, 27, 28]), ([29, 13], [13, 29]), ([22, 30, 13], [13, 22, 30]), ([13, 31, 10], [10, 13, 31]), ([10, 32], [10, 32])])
def spec_AreJudges.B9 : List Nat := [0, 0, 3, 7, 15, 0, 63, 127, 255, 511, 1023, 2047, 4095, 8191, 16383, 16383, 65535, 131071, 262143, 16383, 540671, 2097151, 4194303, 16383, 16383, 25182207, 58736639, 125845503, 16383, 528498687, 1065369599, 2147483647, 4294967295, 8589934591]
end Go.Proofs.Ytdlebbmmanjffaa.A
end

section
namespace Go.Proofs.Ytdlebbmmanjffaa.A
open Go.RowKit Go.Proofs.YtdlebbmmanjffaaW.PrintWords Go.Proofs.YtdlebbmmanjffaaW.PrintLast Go.Proofs.YtdlebbmmanjffaaW.PrintMore
attribute [local go_sem] max2_int min2_int max_two min_two max_three min_three max_four min_four   -- for this text's walks alone
set_option linter.unusedVariables false
set_option linter.unusedSimpArgs false
mutual
def impl_AreJudges.l0 : Nat → List (S46) → List (S46) → Int → Int → Option (Bool)
  | 0, _, _, _, _ => none
  | k + 1, x0, x10, x11, x12 => if x12 < x11 then (if 0 ≤ x12 then (if x12 < (x10.length : Int) then ((impl_InRange.f ((rd_T46 x10 x12).f0) 1 99).bind fun t142 => (if t142 = true then (if x12 > 0 then (if 0 ≤ (wrap64 (x12 - 1)) then (if (wrap64 (x12 - 1)) < (x0.length : Int) then (if ((rd_T46 x10 x12).f0) ≤ ((rd_T46 x0 (wrap64 (x12 - 1))).f0) then (impl_AreJudges.j1 k x0 x10 x11 x12 true ((rd_T46 x10 x12).f0) ((rd_T46 x10 x12).f1) ((rd_T46 x10 x12).f2)) else ((impl_InRange.f ((rd_T46 x10 x12).f1) 1 99).bind fun t144 => (impl_AreJudges.j1 k x0 x10 x11 x12 (!t144) ((rd_T46 x10 x12).f0) ((rd_T46 x10 x12).f1) ((rd_T46 x10 x12).f2)))) else (none)) else (none)) else ((impl_InRange.f ((rd_T46 x10 x12).f1) 1 99).bind fun t145 => (impl_AreJudges.j1 k x0 x10 x11 x12 (!t145) ((rd_T46 x10 x12).f0) ((rd_T46 x10 x12).f1) ((rd_T46 x10 x12).f2)))) else (impl_AreJudges.j1 k x0 x10 x11 x12 true ((rd_T46 x10 x12).f0) ((rd_T46 x10 x12).f1) ((rd_T46 x10 x12).f2)))) else (none)) else (none)) else (some true)
def impl_AreJudges.j1 : Nat → List (S46) → List (S46) → Int → Int → Bool → Int → Int → List Int → Option (Bool)
  | 0, _, _, _, _, _, _, _, _ => none
  | k + 1, x0, x10, x11, x12, x41, x142000, x142001, x142002 => if x41 = true then (some false) else (impl_AreJudges.l1 k x0 x10 x11 x12 x142002 (x142002.length : Int) 0 x142000 x142001 x142002)
def impl_AreJudges.l1 : Nat → List (S46) → List (S46) → Int → Int → List Int → Int → Int → Int → Int → List Int → Option (Bool)
  | 0, _, _, _, _, _, _, _, _, _, _ => none
  | k + 1, x0, x10, x11, x12, x43, x44, x45, x142000, x142001, x142002 => if x45 < x44 then (if 0 ≤ x45 then (if x45 < (x43.length : Int) then ((impl_InRange.f (rd x43 x45) 1 99).bind fun t147 => (if t147 = true then (if x45 > 0 then (if 0 ≤ (wrap64 (x45 - 1)) then (if (wrap64 (x45 - 1)) < (x142002.length : Int) then (if (rd x43 x45) ≤ (rd x142002 (wrap64 (x45 - 1))) then (some false) else (impl_AreJudges.l1 k x0 x10 x11 x12 x43 x44 (wrap64 (x45 + 1)) x142000 x142001 x142002)) else (none)) else (none)) else (impl_AreJudges.l1 k x0 x10 x11 x12 x43 x44 (wrap64 (x45 + 1)) x142000 x142001 x142002)) else (some false))) else (none)) else (none)) else (impl_AreJudges.l0 k x0 x10 x11 (wrap64 (x12 + 1)))
end
def impl_AreJudges.f (k : Nat) (l0 : List (S46)) : Option (Bool) := if (l0.length : Int) > 10 then (some false) else (impl_AreJudges.l0 k l0 l0 (l0.length : Int) 0)
end Go.Proofs.Ytdlebbmmanjffaa.A
end

section
set_option linter.unusedVariables false
set_option linter.unusedSimpArgs false
namespace Go.Proofs.Ytdlebbmmanjffaa.L
open Go Go.RowKit Go.Proofs.Ytdlebbmmanjffaa.A Go.Proofs.YtdlebbmmanjffaaW.PrintWords
abbrev Jg := S46
theorem rdJg {l : List Jg} {n : Nat} (h : n < l.length) : rd_T46 l (n : Int) = l[n] := by
  simp [rd_T46, h]
theorem rdLJg {l : List S38} {n : Nat} (h : n < l.length) : rd_T38 l (n : Int) = l[n] := by
  simp [rd_T38, h]
def cvJg (x : S38) : Jg := ⟨x.f0, x.f1, x.f2⟩
def SmallJ (l : List Jg) : Prop := l.length ≤ 1099511627776 ∧ ∀ x ∈ l, x.f2.length ≤ 1099511627776
theorem szIntJ_eq (l : List Int) (left : Int) (h0 : 0 ≤ left) (h1 : left ≤ 1048576) (hl : l.length ≤ 9223372036854775807) : laws_szIntS.f l left = some (if left - l.length < 0 then -1 else left - l.length) := by
  unfold laws_szIntS.f
  rw [w64 (by omega) (by omega)]
  split <;> rfl
theorem szJudge_eq (a b : Int) (l : List Int) (left : Int) (h0 : 0 ≤ left) (h1 : left ≤ 1048576) (hl : l.length ≤ 9223372036854775807) : laws_szJudge.f a b l left = some (if left - l.length < 0 then -1 else left - l.length) := by
  unfold laws_szJudge.f
  rw [szIntJ_eq l left h0 h1 hl]
  simp only [Option.bind_some]
  by_cases h : left - (l.length : Int) < 0
  · rw [if_pos h, if_pos (by omega)]
  · rw [if_neg h, if_neg h]
theorem szJudgeS_l0 (l : List S38) (hl : l.length ≤ 1048576) (hi : ∀ x ∈ l, x.f2.length ≤ 9223372036854775807) : ∀ (d n : Nat) (left : Int), n + d = l.length → 0 ≤ left → left ≤ 1048576 → (∀ (i : Nat) (h : i < n) (h' : i < l.length), (l[i]).f2.length ≤ 1048576) → ∃ v, Ev (fun k => laws_szJudgeS.l0 k l left (n : Int)) v ∧ v ≤ 1048576 ∧ (0 ≤ v → ∀ x ∈ l, x.f2.length ≤ 1048576) := by
  intro d
  induction d with
  | zero =>
    intro n left hd h0 h1 hp
    refine ⟨left, Ev.step (fun k => laws_szJudgeS.l0.eq_2 ..) (Ev.neg (by omega) (Ev.now _)), h1, fun _ x hx => ?_⟩
    obtain ⟨j, hj, rfl⟩ := List.mem_iff_getElem.1 hx
    exact hp j (by omega) hj
  | succ d ih =>
    intro n left hd h0 h1 hp
    have hn : n < l.length := by omega
    have hs := szJudge_eq (l[n]).f0 (l[n]).f1 (l[n]).f2 left h0 h1 (hi _ (List.getElem_mem _))
    by_cases hb : left - (l[n]).f2.length < 0
    · rw [if_pos hb] at hs
      refine ⟨-1, Ev.step (fun k => laws_szJudgeS.l0.eq_2 ..) (Ev.pos (by omega) (Ev.pos (by omega) ?_)), by omega, fun h => by omega⟩
      simp only [rdLJg hn]
      exact Ev.bnd hs (Ev.pos (by omega) (Ev.now _))
    · rw [if_neg hb] at hs
      obtain ⟨v, hv, hv1, hv2⟩ := ih (n + 1) (left - (l[n]).f2.length) (by omega) (by omega) (by omega) (fun i h h' => by
        by_cases e : i = n
        · subst e
          omega
        · exact hp i (by omega) h')
      refine ⟨v, Ev.step (fun k => laws_szJudgeS.l0.eq_2 ..) (Ev.pos (by omega) (Ev.pos (by omega) ?_)), hv1, hv2⟩
      simp only [rdLJg hn, w64s (show n < 4611686018427387904 by omega)]
      exact Ev.bnd hs (Ev.neg (by omega) hv)
theorem szJudgeS_ev (l : List S38) (left : Int) (hL : 0 ≤ left ∧ left ≤ 1048576) (hl : l.length ≤ 9223372036854775807) (hi : ∀ x ∈ l, x.f2.length ≤ 9223372036854775807) : ∃ v, Ev (fun k => laws_szJudgeS.f k l left) v ∧ v ≤ 1048576 ∧ (¬ v < 0 → l.length ≤ 1048576 ∧ ∀ x ∈ l, x.f2.length ≤ 1048576) := by
  unfold laws_szJudgeS.f
  rw [w64 (by omega) (by omega)]
  by_cases hb : left - (l.length : Int) < 0
  · exact ⟨-1, Ev.pos hb (Ev.now _), by omega, fun h => by omega⟩
  · obtain ⟨v, hv, hv1, hv2⟩ := szJudgeS_l0 l (by omega) hi l.length 0 (left - l.length) (by omega) (by omega) (by omega) (fun i h => by omega)
    exact ⟨v, Ev.neg hb hv, hv1, fun h => ⟨by omega, hv2 (by omega)⟩⟩
theorem toJudge_ev (a b : Int) (l : List Int) (h : l.length ≤ 1099511627776) : Ev (fun k => laws_toJudge.f k a b l) (a, b, l) := by
  unfold laws_toJudge.f
  exact Ev.bind (toIntS_ev l h) (Ev.now _)
theorem toJudgeS_l0 (l : List S38) (hl : l.length ≤ 1099511627776) (hi : ∀ x ∈ l, x.f2.length ≤ 1099511627776) : ∀ (d n : Nat) (xs : List Jg), n + d = l.length → xs.length = l.length → xs.take n = (l.map cvJg).take n → Ev (fun k => laws_toJudgeS.l0 k l xs (n : Int)) (l.map cvJg) := by
  intro d
  induction d with
  | zero =>
    intro n xs hd hx ht
    refine Ev.step (fun k => laws_toJudgeS.l0.eq_2 ..) ?_
    refine Ev.neg (by omega) (Ev.some_ ?_)
    rw [List.take_of_length_le (by omega), List.take_of_length_le (by simp; omega)] at ht
    exact ht
  | succ d ih =>
    intro n xs hd hx ht
    refine Ev.step (fun k => laws_toJudgeS.l0.eq_2 ..) ?_
    refine Ev.pos (by omega) (Ev.pos (by omega) ?_)
    simp only [w64s (show n < 4611686018427387904 by omega), rdLJg (show n < l.length by omega), Int.toNat_natCast]
    refine Ev.bind (toJudge_ev _ _ _ (hi _ (List.getElem_mem _))) (Ev.pos (by omega) ?_)
    refine ih (n + 1) _ (by omega) (by simp [hx]) ?_
    rw [List.take_succ_eq_append_getElem (by simp; omega), List.take_succ_eq_append_getElem (by simp; omega), List.take_set_of_le (by omega), ht]
    simp [cvJg]
theorem toJudgeS_ev (l : List S38) (hl : l.length ≤ 1099511627776) (hi : ∀ x ∈ l, x.f2.length ≤ 1099511627776) : Ev (fun k => laws_toJudgeS.f k l) (l.map cvJg) := by
  unfold laws_toJudgeS.f
  refine Ev.pos (by omega) (Ev.pos (by simp; omega) ?_)
  exact toJudgeS_l0 l hl hi l.length 0 _ (by omega) (by simp) (by simp)
theorem smallJ_map (l : List S38) (hl : l.length ≤ 1099511627776) (hi : ∀ x ∈ l, x.f2.length ≤ 1099511627776) : SmallJ (l.map cvJg) := by
  refine ⟨by simpa using hl, fun x hx => ?_⟩
  obtain ⟨y, hy, rfl⟩ := List.mem_map.1 hx
  exact hi y hy
theorem eqJudge_ev (a b : Int) (l : List Int) (h : l.length ≤ 1099511627776) : Ev (fun k => laws_eqJudge.f k a b l a b l) true := by
  unfold laws_eqJudge.f
  exact Ev.pos rfl (Ev.pos rfl (Ev.bind (eqIntS_ev _ _ h) (Ev.pos (by simp) (Ev.now _))))
theorem eqJudgeS_l0 (l : List Jg) (hs : SmallJ l) : ∀ (d n : Nat), n + d = l.length → Ev (fun k => laws_eqJudgeS.l0 k l l (n : Int)) true := by
  have hl := hs.1
  intro d
  induction d with
  | zero =>
    intro n hd
    refine Ev.step (fun k => laws_eqJudgeS.l0.eq_2 ..) ?_
    exact Ev.neg (by omega) (Ev.now _)
  | succ d ih =>
    intro n hd
    refine Ev.step (fun k => laws_eqJudgeS.l0.eq_2 ..) ?_
    refine Ev.pos (by omega) (Ev.pos (by omega) (Ev.pos (by omega) ?_))
    simp only [w64s (show n < 4611686018427387904 by omega), rdJg (show n < l.length by omega)]
    exact Ev.bind (eqJudge_ev _ _ _ (hs.2 _ (List.getElem_mem _))) (Ev.pos rfl (ih (n + 1) (by omega)))
theorem eqJudgeS_ev (l : List Jg) (hs : SmallJ l) : Ev (fun k => laws_eqJudgeS.f k l l) true := by
  unfold laws_eqJudgeS.f
  exact Ev.pos rfl (eqJudgeS_l0 l hs l.length 0 (by omega))
def seenF (p : Int) : List Int → Bool
  | [] => true
  | x :: t => inR x 1 99 && decide (p < x) && seenF x t
def judgesF (p : Int) : List Jg → Bool
  | [] => true
  | j :: l => inR j.f0 1 99 && decide (p < j.f0) && inR j.f1 1 99 && seenF 0 j.f2 && judgesF j.f0 l
def okJudges (l : List Jg) : Bool := judgesF 0 l && decide ((l.length : Int) ≤ 10)
end Go.Proofs.Ytdlebbmmanjffaa.L
end

section
set_option linter.unusedVariables false
set_option linter.unusedSimpArgs false
namespace Go.Proofs.Ytdlebbmmanjffaa.L
open Go Go.RowKit Go.Proofs.Ytdlebbmmanjffaa.A Go.Proofs.YtdlebbmmanjffaaW.PrintWords
theorem l4Has_l0 (l : List Int) (x : Int) (hl : l.length ≤ 1099511627776) : ∀ (d n : Nat), n + d = l.length → Ev (fun k => spec_l4Has.l0 k l x (n : Int)) (decide (x ∈ l.drop n)) := by
  intro d
  induction d with
  | zero =>
    intro n hd
    refine Ev.step (fun k => spec_l4Has.l0.eq_2 ..) ?_
    refine Ev.neg (by omega) (Ev.some_ ?_)
    rw [List.drop_eq_nil_of_le (by omega)]
    simp
  | succ d ih =>
    intro n hd
    refine Ev.step (fun k => spec_l4Has.l0.eq_2 ..) ?_
    refine Ev.pos (by omega) (Ev.pos (by omega) ?_)
    simp only [w64s (show n < 4611686018427387904 by omega), rd_at (show n < l.length by omega)]
    have h1 := ih (n + 1) (by omega)
    rw [List.drop_eq_getElem_cons (show n < l.length by omega)]
    generalize l.drop (n + 1) = u at h1 ⊢
    refine Ev.ite (fun h => Ev.some_ ?_) (fun h => Ev.cast h1 ?_)
    · simp [h]
    · have h' : ¬ x = l[n] := fun e => h e.symm
      simp [h']
theorem l4Has_ev (l : List Int) (x : Int) (hl : l.length ≤ 1099511627776) : Ev (fun k => spec_l4Has.f k l x) (decide (x ∈ l)) := by
  unfold spec_l4Has.f
  exact Ev.cast (l4Has_l0 l x hl l.length 0 (by omega)) (by simp)
end Go.Proofs.Ytdlebbmmanjffaa.L
end

section
set_option linter.unusedVariables false
set_option linter.unusedSimpArgs false
namespace Go.Proofs.Ytdlebbmmanjffaa.L
open Go Go.RowKit Go.Proofs.Ytdlebbmmanjffaa.A Go.Proofs.YtdlebbmmanjffaaW.PrintWords
theorem Index_l0 (l : List Int) (x : Int) (hl : l.length ≤ 1099511627776) : ∀ (d n : Nat), n + d = l.length → Ev (fun k => slices_Index_int_int.l0 k l x (l.length : Int) (n : Int)) (if x ∈ l.drop n then ((n + (l.drop n).idxOf x : Nat) : Int) else -1) := by
  intro d
  induction d with
  | zero =>
    intro n hd
    refine Ev.step (fun k => slices_Index_int_int.l0.eq_2 ..) ?_
    refine Ev.neg (by omega) (Ev.some_ ?_)
    rw [List.drop_eq_nil_of_le (by omega)]
    simp
  | succ d ih =>
    intro n hd
    refine Ev.step (fun k => slices_Index_int_int.l0.eq_2 ..) ?_
    refine Ev.pos (by omega) (Ev.pos (by omega) (Ev.pos (by omega) ?_))
    simp only [w64s (show n < 4611686018427387904 by omega), rd_at (show n < l.length by omega)]
    have h1 := ih (n + 1) (by omega)
    rw [List.drop_eq_getElem_cons (show n < l.length by omega)]
    generalize l.drop (n + 1) = u at h1 ⊢
    refine Ev.ite (fun h => Ev.some_ ?_) (fun h => Ev.cast h1 ?_)
    · simp [h]
    · have h' : ¬ l[n] = x := fun e => h e.symm
      simp only [List.mem_cons, h, false_or, List.idxOf_cons, beq_eq_false_iff_ne.2 h']
      split
      · simp; omega
      · rfl
def idx (l : List Int) (x : Int) : Int := if x ∈ l then (l.idxOf x : Int) else -1
theorem Index_ev (l : List Int) (x : Int) (hl : l.length ≤ 1099511627776) : Ev (fun k => slices_Index_int_int.f k l x) (idx l x) := by
  unfold slices_Index_int_int.f
  refine Ev.cast (Index_l0 l x hl l.length 0 (by omega)) ?_
  simp [idx]
theorem Contains_ev (l : List Int) (x : Int) (hl : l.length ≤ 1099511627776) : Ev (fun k => slices_Contains_int_int.f k l x) (decide (x ∈ l)) := by
  unfold slices_Contains_int_int.f
  refine Ev.bind (Index_ev l x hl) (Ev.some_ ?_)
  unfold idx
  by_cases h : x ∈ l
  · simp [h]
  · simp [h]
end Go.Proofs.Ytdlebbmmanjffaa.L
end

section
set_option linter.unusedVariables false
set_option linter.unusedSimpArgs false
namespace Go.Proofs.Ytdlebbmmanjffaa.L
open Go Go.RowKit Go.Proofs.Ytdlebbmmanjffaa.A Go.Proofs.YtdlebbmmanjffaaW.PrintWords
def freeJ (ids : List Int) : List Jg → List Int
  | [] => []
  | j :: r => if j.f0 ∈ ids then freeJ ids r else j.f0 :: freeJ ids r
theorem freeJ_length (ids : List Int) : ∀ l : List Jg, (freeJ ids l).length ≤ l.length
  | [] => Nat.le_refl _
  | j :: r => by
    have := freeJ_length ids r
    simp only [freeJ]
    split
    · simp only [List.length_cons]; omega
    · simp only [List.length_cons]; omega
theorem sFree_l0 (l : List Jg) (ids : List Int) (hl : l.length ≤ 1099511627776) (hi : ids.length ≤ 1099511627776) : ∀ (d n : Nat) (acc : List Int), n + d = l.length → acc.length ≤ n → Ev (fun k => spec_FreeJudges.l0 k l ids acc (n : Int)) (acc ++ freeJ ids (l.drop n)) := by
  intro d
  induction d with
  | zero =>
    intro n acc hd ha
    refine Ev.step (fun k => spec_FreeJudges.l0.eq_2 ..) (Ev.neg (by omega) (Ev.some_ ?_))
    rw [List.drop_eq_nil_of_le (by omega)]
    simp [freeJ]
  | succ d ih =>
    intro n acc hd ha
    have hn : n < l.length := by omega
    refine Ev.step (fun k => spec_FreeJudges.l0.eq_2 ..) (Ev.pos (by omega) (Ev.pos (by omega) ?_))
    simp only [w64s (show n < 4611686018427387904 by omega), rdJg hn]
    refine Ev.bind (l4Has_ev _ _ hi) ?_
    rw [List.drop_eq_getElem_cons hn, freeJ]
    refine Ev.ite (fun h => ?_) (fun h => ?_)
    · rw [if_pos (of_decide_eq_true h)]
      exact ih (n + 1) acc (by omega) (by omega)
    · rw [if_neg (by simpa using h)]
      refine Ev.pos (by omega) ?_
      have := ih (n + 1) (acc ++ [l[n].f0]) (by omega) (by simp; omega)
      simpa using this
theorem sFree_ev (l : List Jg) (ids : List Int) (hl : l.length ≤ 1099511627776) (hi : ids.length ≤ 1099511627776) : Ev (fun k => spec_FreeJudges.f k l ids) (freeJ ids l) := by
  unfold spec_FreeJudges.f
  exact sFree_l0 l ids hl hi l.length 0 [] (by omega) (by simp)
theorem iFree_l0 (l : List Jg) (ids : List Int) (hl : l.length ≤ 1099511627776) (hi : ids.length ≤ 1099511627776) : ∀ (d n : Nat) (acc : List Int), n + d = l.length → acc.length ≤ n → Ev (fun k => impl_FreeJudges.l0 k ids acc l (l.length : Int) (n : Int)) (acc ++ freeJ ids (l.drop n)) := by
  intro d
  induction d with
  | zero =>
    intro n acc hd ha
    refine Ev.step (fun k => impl_FreeJudges.l0.eq_2 ..) (Ev.neg (by omega) (Ev.some_ ?_))
    rw [List.drop_eq_nil_of_le (by omega)]
    simp [freeJ]
  | succ d ih =>
    intro n acc hd ha
    have hn : n < l.length := by omega
    refine Ev.step (fun k => impl_FreeJudges.l0.eq_2 ..) (Ev.pos (by omega) (Ev.pos (by omega) (Ev.pos (by omega) ?_)))
    simp only [w64s (show n < 4611686018427387904 by omega), rdJg hn]
    refine Ev.bind (Contains_ev _ _ hi) ?_
    rw [List.drop_eq_getElem_cons hn, freeJ]
    refine Ev.ite (fun h => ?_) (fun h => ?_)
    · rw [if_pos (of_decide_eq_true h)]
      exact ih (n + 1) acc (by omega) (by omega)
    · rw [if_neg (by simpa using h)]
      refine Ev.pos (by omega) ?_
      have := ih (n + 1) (acc ++ [l[n].f0]) (by omega) (by simp; omega)
      simpa using this
theorem iFree_ev (l : List Jg) (ids : List Int) (hl : l.length ≤ 1099511627776) (hi : ids.length ≤ 1099511627776) : Ev (fun k => impl_FreeJudges.f k l ids) (freeJ ids l) := by
  unfold impl_FreeJudges.f
  exact iFree_l0 l ids hl hi l.length 0 [] (by omega) (by simp)
end Go.Proofs.Ytdlebbmmanjffaa.L
end

section
set_option linter.unusedVariables false
set_option linter.unusedSimpArgs false
namespace Go.Proofs.Ytdlebbmmanjffaa.L
open Go Go.RowKit Go.Proofs.Ytdlebbmmanjffaa.A Go.Proofs.YtdlebbmmanjffaaW.PrintWords
def ups : Nat → Int → List Int
  | 0, _ => []
  | n + 1, k => k :: ups n (k + 1)
theorem ups_length : ∀ (n : Nat) (k : Int), (ups n k).length = n
  | 0, _ => rfl
  | n + 1, k => by simp [ups, ups_length n]
theorem ups_get : ∀ (n : Nat) (k : Int) (i : Nat) (h : i < n), (ups n k)[i]'(by rw [ups_length]; exact h) = k + i
  | n + 1, k, 0, _ => by simp [ups]
  | n + 1, k, i + 1, h => by
    simp only [ups, List.getElem_cons_succ]
    rw [ups_get n (k + 1) i (by omega)]
    omega
theorem markIntS_l0 (k0 : Int) (N : Nat) (h0 : 0 ≤ k0) (h1 : k0 ≤ 1099511627776) (hN : N ≤ 1099511627776) : ∀ (d n : Nat) (xs : List Int), n + d = N → xs.length = N → xs.take n = (ups N k0).take n → Ev (fun k => laws_markIntS.l0 k xs (k0 + n) (n : Int)) (k0 + N, ups N k0) := by
  intro d
  induction d with
  | zero =>
    intro n xs hd hx ht
    refine Ev.step (fun k => laws_markIntS.l0.eq_2 ..) ?_
    refine Ev.neg (by omega) (Ev.some_ ?_)
    rw [List.take_of_length_le (by omega), List.take_of_length_le (by rw [ups_length]; omega)] at ht
    rw [ht, show n = N by omega]
  | succ d ih =>
    intro n xs hd hx ht
    refine Ev.step (fun k => laws_markIntS.l0.eq_2 ..) ?_
    refine Ev.pos (by omega) (Ev.pos (by omega) ?_)
    have e : wrap64 (k0 + (n : Int) + 1) = k0 + ((n + 1 : Nat) : Int) := by rw [w64 (by omega) (by omega)]; omega
    simp only [w64s (show n < 4611686018427387904 by omega), e, Int.toNat_natCast]
    refine ih (n + 1) _ (by omega) (by simp [hx]) ?_
    rw [List.take_succ_eq_append_getElem (by simp; omega), List.take_succ_eq_append_getElem (by rw [ups_length]; omega), List.take_set_of_le (by omega), ht, ups_get N k0 n (by omega)]
    simp
theorem markIntS_ev (l : List Int) (k0 : Int) (h0 : 0 ≤ k0) (h1 : k0 ≤ 1099511627776) (hN : l.length ≤ 1099511627776) : Ev (fun k => laws_markIntS.f k l k0) (k0 + l.length, ups l.length k0) := by
  unfold laws_markIntS.f
  have := markIntS_l0 k0 l.length h0 h1 hN l.length 0 l (by omega) rfl (by simp)
  simpa using this
theorem heldIntS_l0 (k0 : Int) (N : Nat) (h0 : 0 ≤ k0) (h1 : k0 ≤ 1099511627776) (hN : N ≤ 1099511627776) : ∀ (d n : Nat), n + d = N → Ev (fun k => laws_heldIntS.l0 k (ups N k0) (k0 + n) (n : Int)) (k0 + N) := by
  intro d
  induction d with
  | zero =>
    intro n hd
    refine Ev.step (fun k => laws_heldIntS.l0.eq_2 ..) ?_
    refine Ev.neg (by rw [ups_length]; omega) (Ev.some_ ?_)
    rw [show n = N by omega]
  | succ d ih =>
    intro n hd
    refine Ev.step (fun k => laws_heldIntS.l0.eq_2 ..) ?_
    refine Ev.pos (by rw [ups_length]; omega) (Ev.pos (by omega) ?_)
    have e : wrap64 (k0 + (n : Int) + 1) = k0 + ((n + 1 : Nat) : Int) := by rw [w64 (by omega) (by omega)]; omega
    simp only [w64s (show n < 4611686018427387904 by omega), e, rd_at (show n < (ups N k0).length by rw [ups_length]; omega), ups_get N k0 n (show n < N by omega)]
    exact Ev.pos trivial (ih (n + 1) (by omega))
theorem heldIntS_ev (N : Nat) (k0 : Int) (h0 : 0 ≤ k0) (h1 : k0 ≤ 1099511627776) (hN : N ≤ 1099511627776) : Ev (fun k => laws_heldIntS.f k (ups N k0) k0) (k0 + N) := by
  unfold laws_heldIntS.f
  have := heldIntS_l0 k0 N h0 h1 hN N 0 (by omega)
  simpa using this
end Go.Proofs.Ytdlebbmmanjffaa.L
end

section
set_option linter.unusedVariables false
namespace Go.Proofs.Ytdlebbmmanjffaa.M
theorem tot_le (m B : Nat) : ∀ ns : List Nat, (∀ n ∈ ns, n ≤ B) → tot m ns ≤ ns.length * (m + B)
  | [], _ => by simp [tot]
  | n :: r, h => by
    have h1 := tot_le m B r (fun x hx => h x (List.mem_cons_of_mem _ hx))
    have h2 := h n List.mem_cons_self
    simp only [tot, List.length_cons, Nat.succ_mul]
    omega
theorem tot_small {α : Type} (m : Nat) (hm : m ≤ 5) (f : α → Nat) (l : List α) (hl : l.length ≤ 1048576) (hf : ∀ x ∈ l, f x ≤ 1048576) : tot m (l.map f) ≤ 1099516870656 := by
  have h := tot_le m 1048576 (l.map f) (by simpa using hf)
  rw [List.length_map] at h
  refine Nat.le_trans h ?_
  refine Nat.le_trans (Nat.mul_le_mul hl (Nat.add_le_add_right hm 1048576)) ?_
  omega
end Go.Proofs.Ytdlebbmmanjffaa.M
end

section
set_option linter.unusedVariables false
set_option linter.unusedSimpArgs false
namespace Go.Proofs.Ytdlebbmmanjffaa.L
open Go Go.RowKit Go.Proofs.Ytdlebbmmanjffaa.A Go.Proofs.YtdlebbmmanjffaaW.PrintWords
theorem FnExactFreeJudges_pure (l0 : List S38) (l1 : List Int) (b0 : l0.length ≤ 9223372036854775807) (b1 : ∀ x ∈ l0, x.f2.length ≤ 9223372036854775807) (b2 : l1.length ≤ 9223372036854775807) : ∃ k, laws_FnExactFreeJudges.f k l0 l1 = some true := by
  refine Ev.rounds (g := fun k => laws_FnExactFreeJudges.f k l0 l1) ?_
  unfold laws_FnExactFreeJudges.f
  refine Ev.ite (fun _ => Ev.now _) (fun hl1 => ?_)
  obtain ⟨v, hv, hv1, hv2⟩ := szJudgeS_ev l0 1048576 ⟨by omega, by omega⟩ b0 b1
  refine Ev.bind hv (Ev.ite (fun _ => Ev.now _) (fun hs => ?_))
  obtain ⟨hl, hi⟩ := hv2 hs
  have hi' : ∀ x ∈ l0, x.f2.length ≤ 1099511627776 := fun x hx => by have := hi x hx; omega
  have hS := smallJ_map l0 (by omega) hi'
  have hT := M.tot_small 2 (by omega) (fun x : Jg => x.f2.length) (l0.map cvJg) (by simpa using hl) (by
    intro x hx
    obtain ⟨y, hy, rfl⟩ := List.mem_map.1 hx
    exact hi y hy)
  have hfl : (freeJ l1 (l0.map cvJg)).length ≤ 1048576 := Nat.le_trans (freeJ_length _ _) (by simpa using hl)
  have hT1 := toJudgeS_ev l0 (by omega) hi'
  have hI1 := toIntS_ev l1 (by omega)
  have hE : Ev (fun k => laws_eqIntS.f k (freeJ l1 (l0.map cvJg)) (freeJ l1 (l0.map cvJg))) true := Ev.cast (eqIntS_ev _ _ (by omega)) (by simp)
  refine Ev.bind hT1 (Ev.bind hI1 (Ev.bind (sFree_ev _ _ (by simp; omega) (by omega)) (Ev.bind hT1 (Ev.bind hI1 (Ev.bind (iFree_ev _ _ (by simp; omega) (by omega)) (Ev.bind hE (Ev.pos rfl ?_)))))))
  refine Ev.bind hT1 (Ev.bind (eqJudgeS_ev _ hS) (Ev.pos rfl (Ev.bind hI1 (Ev.bind (Ev.cast (eqIntS_ev _ _ (by omega)) (by simp)) (Ev.pos rfl ?_)))))
  refine Ev.pos ⟨⟨by simp; omega, fun x hx => by have := hS.2 x hx; omega⟩, Int.le_trans (Int.ofNat_le.2 hT) (by omega)⟩ (Ev.pos (by omega) ?_)
  refine Ev.bind hE (Ev.pos rfl (Ev.bind (markIntS_ev _ 1 (by omega) (by omega) (by omega)) ?_))
  dsimp only
  have hH := heldIntS_ev (freeJ l1 (l0.map cvJg)).length 1 (by omega) (by omega) (by omega)
  refine Ev.bind hH (Ev.pos (by omega) (Ev.pos rfl ?_))
  refine Ev.bind hT1 (Ev.bind hI1 (Ev.bind (iFree_ev _ _ (by simp; omega) (by omega)) (Ev.bind hE (Ev.pos rfl ?_))))
  exact Ev.bind hH (Ev.pos (by omega) (Ev.pos rfl (Ev.now _)))
end Go.Proofs.Ytdlebbmmanjffaa.L
end
