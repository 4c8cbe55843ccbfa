/- What the row FnExactPlacePoints rests on, put together: A25, A26, LWMark, LHMark, LHMarkL, LHLFnExactPlacePoints, LOpen, LBase, LRngS, LRngI, LHas, LCont, LRank1, LInt, LIntSS, LRank2a, LPoints, LMark, LTotLe, LXFnExactPlacePoints. No condition. -/
import Derived.Test.YtjmgdjelnlambaaSFnExactPlacePointsx0
import Derived.Deep.Slices
import Derived.Deep.Fields
import Derived.ChangeSame
import Derived.Lib.SmallJoins
section
namespace Go.Proofs.Ytjmgdjelnlambaa.A
open Go.RowKit Go.Proofs.YtjmgdjelnlambaaW.PrintWords Go.Proofs.YtjmgdjelnlambaaW.PrintLast Go.Proofs.YtjmgdjelnlambaaW.PrintMore
attribute [local go_sem] max2_int min2_int max_two min_two max_three min_three max_four min_four   -- for this text's walks alone
set_option linter.unusedVariables false
set_option linter.unusedSimpArgs false
mutual
def impl_PlacePoints.l0 : Nat → Int → List Int → List (List Int) → Int → Int → Option (List Int)
  | 0, _, _, _, _, _ => none
  | k + 1, x1, x5, x17, x18, x19 => if x19 < x18 then (if 0 ≤ x19 then (if x19 < (x17.length : Int) then (impl_PlacePoints.l1 k x1 x5 x17 x18 x19 (rd_L1 x17 x19) ((rd_L1 x17 x19).length : Int) 0) else (none)) else (none)) else (some x5)
def impl_PlacePoints.l1 : Nat → Int → List Int → List (List Int) → Int → Int → List Int → Int → Int → Option (List Int)
  | 0, _, _, _, _, _, _, _, _ => none
  | k + 1, x1, x5, x17, x18, x19, x23, x24, x25 => if x25 < x24 then (if 0 ≤ x25 then (if x25 < (x23.length : Int) then (if 0 ≤ (rd x23 x25) then (if (rd x23 x25) < (x5.length : Int) then (impl_PlacePoints.l1 k x1 (x5.set ((rd x23 x25) : Int).toNat (wrap64 ((rd x5 (rd x23 x25)) + (wrap64 ((wrap64 (x1 - 1)) - x25))))) x17 x18 x19 x23 x24 (wrap64 (x25 + 1))) else (none)) else (none)) else (none)) else (none)) else (impl_PlacePoints.l0 k x1 x5 x17 x18 (wrap64 (x19 + 1)))
end
def impl_PlacePoints.f (k : Nat) (l0 : List (List Int)) (a1 : Int) : Option (List Int) := (impl_AreRankings.f k l0 a1).bind fun t231 => (if t231 = true then (if 0 ≤ a1 then (if (a1 : Int).toNat ≤ 35184372088832 then (impl_PlacePoints.l0 k a1 (List.replicate (a1 : Int).toNat 0) l0 (l0.length : Int) 0) else (none)) else (none)) else (some (([] : List Int))))
set_option maxHeartbeats 8000000 in
set_option maxRecDepth 100000 in
theorem impl_PlacePoints.calls (k : Nat) (A0 : Option Addr) (c0 : Nat) (l0 : List (List Int)) (a1 : Int) (r : List Int) (w : World) (hr0 : Kd.C (Kd.slice 3 (Kd.int .i64)) w A0 l0.length l0) (hc0 : l0.length ≤ c0) (h : impl_PlacePoints.f k l0 a1 = some r) :
  Calls Try.prog 14 #[.slice A0 l0.length c0, .int .i64 a1] w fun e w' => ∃ v0_ : Value, e = .returned (v0_) ∧ Kd.R (Kd.int .i64) 3 w' w.heap.size (fun _ => True) v0_ r ∧ Below w.heap.size w w' := by
 have HR0 := Aside0.mk hr0
 have HC0 := Aside0.mk hc0
 clear hr0 hc0
 have HB := Aside0.mk (Below.refl w.heap.size w)
 have H : ((impl_AreRankings.f k l0 a1).bind fun t231 => (if t231 = true then (if 0 ≤ a1 then (if (a1 : Int).toNat ≤ 35184372088832 then (impl_PlacePoints.l0 k a1 (List.replicate (a1 : Int).toNat 0) l0 (l0.length : Int) 0) else (none)) else (none)) else (some (([] : List Int))))) = some r := h
 clear h
 replace H := Option.bind_eq_some_iff.mp H
 obtain ⟨t231, A30, H⟩ := H
 replace H : (if t231 = true then (if 0 ≤ a1 then (if (a1 : Int).toNat ≤ 35184372088832 then (impl_PlacePoints.l0 k a1 (List.replicate (a1 : Int).toNat 0) l0 (l0.length : Int) 0) else (none)) else (none)) else (some (([] : List Int)))) = some r := H
 have A3 := Aside0.mk A30
 clear A30
 by_cases c4 : t231 = true
 ·
  subst c4
  have H1 : (if 0 ≤ a1 then (if (a1 : Int).toNat ≤ 35184372088832 then (impl_PlacePoints.l0 k a1 (List.replicate (a1 : Int).toNat 0) l0 (l0.length : Int) 0) else (none)) else (none)) = some r := by rw [if_pos rfl] at H; exact H
  clear H
  have H := H1
  clear H1
  by_cases c5 : 0 ≤ a1
  ·
   rw [if_pos c5] at H
   have c5b0 := eq_true c5
   have c5b1 : decide (0 ≤ a1) = true := decide_eq_true c5
   clear c5
   by_cases c6 : (a1 : Int).toNat ≤ 35184372088832
   ·
    rw [if_pos c6] at H
    have c6b0 := eq_true c6
    have c6b1 : decide ((a1 : Int).toNat ≤ 35184372088832) = true := decide_eq_true c6
    clear c6
    obtain ⟨y235, hy235⟩ : ∃ y_ : List Int, y_ = (List.replicate (a1 : Int).toNat 0) := ⟨_, rfl⟩
    replace H : (impl_PlacePoints.l0 k a1 y235 l0 (l0.length : Int) 0) = some r := by first | (rw [hy235]; with_reducible exact H) | (have H2_ := (Option.bind_some _ _).symm.trans H; rw [hy235]; with_reducible exact H2_) | (have H2_ := (Option.bind_some _ _).symm.trans H; with_reducible exact H2_) | with_reducible exact H | (rw [hy235]; exact H) | exact H
    have Ny235 := Aside0.mk hy235
    clear hy235
    have H' := Aside0.mk H
    clear H
    go_enter Try.func14, Try.ntmps14
    go_wp2_with (first | ((with_reducible refine gate_callee (f := 23) rfl ?_); refine goesL_ (some 12) rfl rfl Try.func23 (by kernel_rfl) rfl #[.slice A0 l0.length c0, .int .i64 a1] rfl (by (try simp only [List.map_toArray, List.map_cons, List.map_nil]); first | done | rfl | (simp only [List.length_drop, List.length_take]; rfl)) ?_; (with_reducible refine (impl_AreRankings.calls k _ _ l0 a1 true _ ?side1 ?side2 A3.out).mono ?_); (case side1 => repeat (first | exact HR0.out | (with_reducible refine Kd.C_alloc ?_ _) | (with_reducible refine Kd.C_drewN ?_ _) | (with_reducible refine Kd.C_drew ?_))); (case side2 => exact HC0.out); rintro e w' ⟨rfl, ⟨nd, rfl⟩⟩; refine ⟨_, rfl, ?_⟩) | ((with_reducible refine gate_dst (N := 16) rfl ?_); refine Kd.R_make (Kd.int .i64) _ 3 rfl (N := 16) rfl 22 _ _ rfl a1 rfl rfl Try.underlying22 (.int .i64 0) 8 info3 rfl (by decide) (by omega) 0 (ok := fun _ => True) (okp := fun _ => True) rfl (fun _ hk => hk) trivial (of_decide_eq_true (by first | (with_reducible assumption) | assumption)) (Nat.le_trans (Nat.mul_le_mul_right _ (of_decide_eq_true (by first | (with_reducible assumption) | assumption) : a1.toNat ≤ 35184372088832)) (by omega)) (Below.refl _ _) (Nat.le_refl _) ?_; intro v236 w7 ho8 hb hg_ hnew_; clear hg_ hnew_; (first | rw [← Ny235.out] at ho8 | (simp only [Int.reduceToNat] at ho8; rw [← Ny235.out] at ho8)); have n0_ := Aside0.mk (Kd.R_lower ho8 (below_size (by repeat (first | (with_reducible first | exact HB.out | apply below_alloc | apply pw_below_drewN | apply below_drew1) | exact HB.out)))); have n1_ := Aside0.mk (below_step (by repeat (first | (with_reducible first | exact HB.out | apply below_alloc | apply pw_below_drewN | apply below_drew1) | exact HB.out)) hb); clear HB; have HO237 := n0_; have HB := n1_; clear n0_ n1_; clear hb ho8))
    go_loopg [19] k (fun kq v19 w' => ∃ (x5_1 : List Int) (x19_1 : Int), v19 = .int .i64 x19_1 ∧ Aside0 (impl_PlacePoints.l0 kq a1 x5_1 l0 (l0.length : Int) x19_1 = some r) ∧ Aside0 (kq ≤ k) ∧ Aside0 (Kd.R (Kd.int .i64) 3 w' w.heap.size (fun _ => True) v236 x5_1) ∧ Aside0 (Below w.heap.size w w'))
    case atStart => exact ⟨(y235), (0), (by first | rfl | (simp; done) | (simp [*]; done)), H', ⟨Nat.le_refl _⟩, ⟨by (with_reducible repeat (first | apply Kd.R_alloc | apply Kd.R_drewN | apply Kd.R_drew)); exact HO237.out⟩, ⟨by repeat (first | (with_reducible first | exact HB.out | apply below_alloc | apply pw_below_drewN | apply below_drew1) | exact HB.out)⟩⟩
    case round =>
     clear H'
     try clear c1
     try clear c2
     try clear p2
     try clear c4
     try clear c5
     try clear c5b0
     try clear c5b1
     try clear c6
     try clear c6b0
     try clear c6b1
     obtain ⟨x5_1, x19_1, rfl, HA, HK1, HO_5, HB⟩ := hrel
     cases gk with
     | zero => exact absurd HA.out (by simp [impl_PlacePoints.l0])
     | succ k1 =>
      have H := HA.out
      clear HA
      simp only [impl_PlacePoints.l0] at H
      by_cases c9 : x19_1 < (l0.length : Int)
      ·
       rw [if_pos c9] at H
       have c9b0 : decide (x19_1 < (l0.length : Int)) = true := decide_eq_true c9
       clear c9
       by_cases c10 : 0 ≤ x19_1
       ·
        rw [if_pos c10] at H
        have c10b0 : decide (0 ≤ x19_1) = true := decide_eq_true c10
        clear c10
        by_cases c11 : x19_1 < (l0.length : Int)
        ·
         rw [if_pos c11] at H
         have c11b0 : decide (x19_1 < (l0.length : Int)) = true := decide_eq_true c11
         clear c11
         have H' := Aside0.mk H
         clear H
         have p238 : 0 ≤ (x19_1 : Int) := of_decide_eq_true (by first | (with_reducible assumption) | assumption)
         have q238 : x19_1 < (l0.length : Int) := of_decide_eq_true (by first | (with_reducible assumption) | assumption)
         obtain ⟨ad238, A238_0, c238_0, e238, hx238_0, hl238_0, hi238_0⟩ := at_L1 HR0.out x19_1 p238 q238
         cases e238
         replace hx238_0 := (HB.out.cell (World.block_lt_of_cell? w _ hx238_0)).trans hx238_0
         have HR238_0 := Aside0.mk hi238_0
         have HC238_0 := Aside0.mk hl238_0
         clear hi238_0 hl238_0
         replace p238 := eq_true p238
         replace q238 := eq_true q238
         go_wp2
         go_loopg [25] k1 (fun kq v25 w' => ∃ (x5_2 : List Int) (x25_2 : Int), v25 = .int .i64 x25_2 ∧ Aside0 (impl_PlacePoints.l1 kq a1 x5_2 l0 (l0.length : Int) x19_1 (rd_L1 l0 x19_1) ((rd_L1 l0 x19_1).length : Int) x25_2 = some r) ∧ Aside0 (kq ≤ k1) ∧ Aside0 (Kd.R (Kd.int .i64) 3 w' w.heap.size (fun _ => True) v236 x5_2) ∧ Aside0 (Below w.heap.size w w'))
         case atStart => exact ⟨(x5_1), (0), (by first | rfl | (simp; done) | (simp [*]; done)), H', ⟨Nat.le_refl _⟩, ⟨by (with_reducible repeat (first | apply Kd.R_alloc | apply Kd.R_drewN | apply Kd.R_drew)); exact HO_5.out⟩, ⟨by repeat (first | (with_reducible first | exact HB.out | apply below_alloc | apply pw_below_drewN | apply below_drew1) | exact HB.out)⟩⟩
         case round =>
          clear H'
          try clear c1
          try clear c2
          try clear p2
          try clear q2
          try clear hx2
          try clear c4
          try clear c5
          try clear c5b0
          try clear c5b1
          try clear c6
          try clear c6b0
          try clear c6b1
          try clear c9
          try clear c9b0
          try clear c10
          try clear c10b0
          try clear c11
          try clear c11b0
          try clear hx238_0
          try clear p2
          try clear p238
          try clear q238
          obtain ⟨x5_2, x25_2, rfl, HA, HK2, HO_5, HB⟩ := hrel
          cases gk with
          | zero => exact absurd HA.out (by simp [impl_PlacePoints.l1])
          | succ k2 =>
           have H := HA.out
           clear HA
           simp only [impl_PlacePoints.l1] at H
           by_cases c12 : x25_2 < ((rd_L1 l0 x19_1).length : Int)
           ·
            rw [if_pos c12] at H
            have c12b0 : decide (x25_2 < ((rd_L1 l0 x19_1).length : Int)) = true := decide_eq_true c12
            clear c12
            by_cases c13 : 0 ≤ x25_2
            ·
             rw [if_pos c13] at H
             have c13b0 : decide (0 ≤ x25_2) = true := decide_eq_true c13
             clear c13
             by_cases c14 : x25_2 < ((rd_L1 l0 x19_1).length : Int)
             ·
              rw [if_pos c14] at H
              have c14b0 : decide (x25_2 < ((rd_L1 l0 x19_1).length : Int)) = true := decide_eq_true c14
              clear c14
              by_cases c15 : 0 ≤ (rd (rd_L1 l0 x19_1) x25_2)
              ·
               rw [if_pos c15] at H
               have c15b0 : decide (0 ≤ (rd (rd_L1 l0 x19_1) x25_2)) = true := decide_eq_true c15
               clear c15
               by_cases c16 : (rd (rd_L1 l0 x19_1) x25_2) < (x5_2.length : Int)
               ·
                rw [if_pos c16] at H
                have c16b0 : decide ((rd (rd_L1 l0 x19_1) x25_2) < (x5_2.length : Int)) = true := decide_eq_true c16
                clear c16
                obtain ⟨y241, hy241⟩ : ∃ y_ : List Int, y_ = (x5_2.set ((rd (rd_L1 l0 x19_1) x25_2) : Int).toNat (wrap64 ((rd x5_2 (rd (rd_L1 l0 x19_1) x25_2)) + (wrap64 ((wrap64 (a1 - 1)) - x25_2))))) := ⟨_, rfl⟩
                replace H : (impl_PlacePoints.l1 k2 a1 y241 l0 (l0.length : Int) x19_1 (rd_L1 l0 x19_1) ((rd_L1 l0 x19_1).length : Int) (wrap64 (x25_2 + 1))) = some r := by first | (rw [hy241]; with_reducible exact H) | (have H2_ := (Option.bind_some _ _).symm.trans H; rw [hy241]; with_reducible exact H2_) | (have H2_ := (Option.bind_some _ _).symm.trans H; with_reducible exact H2_) | with_reducible exact H | (rw [hy241]; exact H) | exact H
                have Ny241 := Aside0.mk hy241
                clear hy241
                have H' := Aside0.mk H
                clear H
                have p239 : 0 ≤ (x25_2 : Int) := of_decide_eq_true (by first | (with_reducible assumption) | assumption)
                have q239 : x25_2 < ((rd_L1 l0 x19_1).length : Int) := of_decide_eq_true (by first | (with_reducible assumption) | assumption)
                obtain ⟨ad239, e239, hx239_0⟩ := Kd.at_int HR238_0.out x25_2 p239 q239
                cases e239
                replace hx239_0 := (HB.out.cell (World.block_lt_of_cell? w _ hx239_0)).trans hx239_0
                replace p239 := eq_true p239
                replace q239 := eq_true q239
                obtain ⟨Ao18, co18, eo18⟩ := Kd.R_slice HO_5.out
                subst eo18
                have p240 : 0 ≤ ((rd (rd_L1 l0 x19_1) x25_2) : Int) := of_decide_eq_true (by first | (with_reducible assumption) | assumption)
                have q240 : (rd (rd_L1 l0 x19_1) x25_2) < (x5_2.length : Int) := of_decide_eq_true (by first | (with_reducible assumption) | assumption)
                obtain ⟨ad240, e240, hx240_0⟩ := Kd.at_int (Kd.R_reads' HO_5.out).2.2 (rd (rd_L1 l0 x19_1) x25_2) p240 q240
                cases e240
                replace p240 := eq_true p240
                replace q240 := eq_true q240
                have p17 : 0 ≤ ((rd (rd_L1 l0 x19_1) x25_2) : Int) := of_decide_eq_true (by first | (with_reducible assumption) | assumption)
                have q17 : ((rd (rd_L1 l0 x19_1) x25_2) : Int) < ((x5_2.length : Int) : Int) := of_decide_eq_true (by first | (with_reducible assumption) | assumption)
                obtain ⟨go17, co17, eo17, gb17, gl17, cl17, HG17⟩ := Kd.R_form HO_5.out (by omega)
                (first | cases eo17 | (injection eo17 with ea_ en_ ec_; (first | subst ea_ | (injection ea_ with ea_; subst ea_)); subst ec_; clear en_))
                have GB17 := Aside0.mk gb17
                have GG17 := Aside0.mk HG17
                clear gb17 gl17 HG17
                (first | simp only [add_plain] at hx240_0 | skip)
                obtain ⟨hx17_0, hf17_0⟩ := Kd.R_celln 0 HO_5.out ((rd (rd_L1 l0 x19_1) x25_2) : Int) p17 q17
                replace p17 := eq_true p17
                replace q17 := eq_true q17
                have HP19 := Kd.R_putg HO_5.out ((rd (rd_L1 l0 x19_1) x25_2) : Int) (wrap64 ((rd x5_2 (rd (rd_L1 l0 x19_1) x25_2)) + (wrap64 ((wrap64 (a1 - 1)) - x25_2))))
                go_wp2_with (first | ((with_reducible refine gate_store (t := 3) (p := 39) rfl ?_); refine store_event (t := 3) (p := 39) (v := ?vo_w20) (w1 := (wr.setCell ⟨go17, ((rd (rd_L1 l0 x19_1) x25_2) : Int).toNat, none⟩ (.int .i64 (wrap64 ((rd x5_2 (rd (rd_L1 l0 x19_1) x25_2)) + (wrap64 ((wrap64 (a1 - 1)) - x25_2))))))) ?hg ?ho ?hn ?hr ?_; (case ho => rfl); (case hg => rfl); (case hn => rfl); (case hr => first | (go_simp; done) | (go_simp; rfl)); intro w20 hw; have hg : wr.grownBy w20 (some go17) := (by rw [hw]; exact HP19.2); have hp_ : Kd.R (Kd.int .i64) 3 w20 w.heap.size (fun _ => True) (.slice (some ⟨go17, 0, none⟩) x5_2.length co18) y241 := (by rw [hw, Ny241.out]; exact HP19.1); clear HP19; have n0_ := Aside0.mk (hp_); have n1_ := Aside0.mk ((by rw [hw]; exact below_set (HB.out) GB17.out : Below w.heap.size w w20)); clear HO_5; clear HB; have HO_5 := n0_; have HB := n1_; clear n0_ n1_; clear hg hw hp_))
                go_roundg k2
                case measure => have := HK1.out; have := HK2.out; omega
                case rel => exact ⟨(y241), (wrap64 (x25_2 + 1)), (by first | rfl | (simp; done) | (simp [*]; done)), H', ⟨by have := HK1.out; have := HK2.out; omega⟩, ⟨by (with_reducible repeat (first | apply Kd.R_alloc | apply Kd.R_drewN | apply Kd.R_drew)); exact HO_5.out⟩, ⟨by repeat (first | (with_reducible first | exact HB.out | apply below_alloc | apply pw_below_drewN | apply below_drew1) | exact HB.out)⟩⟩
               ·
                rw [if_neg c16] at H
                exact absurd H (by simp)
              ·
               rw [if_neg c15] at H
               exact absurd H (by simp)
             ·
              rw [if_neg c14] at H
              exact absurd H (by simp)
            ·
             rw [if_neg c13] at H
             exact absurd H (by simp)
           ·
            rw [if_neg c12] at H
            have c12b0 : decide (x25_2 < ((rd_L1 l0 x19_1).length : Int)) = false := decide_eq_false c12
            clear c12
            have H' := Aside0.mk H
            clear H
            go_wp2
            go_roundg k2
            case measure => have := HK1.out; have := HK2.out; omega
            case rel => exact ⟨(x5_2), (wrap64 (x19_1 + 1)), (by first | rfl | (simp; done) | (simp [*]; done)), H', ⟨by have := HK1.out; have := HK2.out; omega⟩, ⟨by (with_reducible repeat (first | apply Kd.R_alloc | apply Kd.R_drewN | apply Kd.R_drew)); exact HO_5.out⟩, ⟨by repeat (first | (with_reducible first | exact HB.out | apply below_alloc | apply pw_below_drewN | apply below_drew1) | exact HB.out)⟩⟩
        ·
         rw [if_neg c11] at H
         exact absurd H (by simp)
       ·
        rw [if_neg c10] at H
        exact absurd H (by simp)
      ·
       rw [if_neg c9] at H
       have c9b0 : decide (x19_1 < (l0.length : Int)) = false := decide_eq_false c9
       clear c9
       obtain rfl := Option.some.inj H
       go_wp2
       go_ret
       exact ⟨_, by first | rfl | (simp [errW_none, errW_some] <;> rfl) | (simp [*, errW_none, errW_some] <;> rfl), by (with_reducible repeat (first | apply Kd.R_alloc | apply Kd.R_drewN | apply Kd.R_drew)); exact HO_5.out, by repeat (first | (with_reducible first | exact HB.out | apply below_alloc | apply pw_below_drewN | apply below_drew1) | exact HB.out)⟩
   ·
    rw [if_neg c6] at H
    exact absurd H (by simp)
  ·
   rw [if_neg c5] at H
   exact absurd H (by simp)
 ·
  replace c4 := Bool.eq_false_iff.mpr c4
  subst c4
  have H1 : (some (([] : List Int))) = some r := by rw [if_neg (show ¬ (false = true) by decide)] at H; exact H
  clear H
  have H := H1
  clear H1
  obtain ⟨y232, hy232⟩ : ∃ y_ : List Int, y_ = (([] : List Int)) := ⟨_, rfl⟩
  replace H : (some y232) = some r := by first | (rw [hy232]; with_reducible exact H) | (have H2_ := (Option.bind_some _ _).symm.trans H; rw [hy232]; with_reducible exact H2_) | (have H2_ := (Option.bind_some _ _).symm.trans H; with_reducible exact H2_) | with_reducible exact H | (rw [hy232]; exact H) | exact H
  have Ny232 := Aside0.mk hy232
  clear hy232
  obtain rfl := Option.some.inj H
  go_enter Try.func14, Try.ntmps14
  go_wp2_with (first | ((with_reducible refine gate_callee (f := 23) rfl ?_); refine goesL_ (some 12) rfl rfl Try.func23 (by kernel_rfl) rfl #[.slice A0 l0.length c0, .int .i64 a1] rfl (by (try simp only [List.map_toArray, List.map_cons, List.map_nil]); first | done | rfl | (simp only [List.length_drop, List.length_take]; rfl)) ?_; (with_reducible refine (impl_AreRankings.calls k _ _ l0 a1 false _ ?side1 ?side2 A3.out).mono ?_); (case side1 => repeat (first | exact HR0.out | (with_reducible refine Kd.C_alloc ?_ _) | (with_reducible refine Kd.C_drewN ?_ _) | (with_reducible refine Kd.C_drew ?_))); (case side2 => exact HC0.out); rintro e w' ⟨rfl, ⟨nd, rfl⟩⟩; refine ⟨_, rfl, ?_⟩) | ((with_reducible refine gate_dst (N := 14) rfl ?_); refine Kd.R_lit (Kd.int .i64) _ 3 ?hg (N := 14) ?hd (xs := ([] : List Int)) (inner := []) (ok := fun _ => True) (okp := fun _ => True) ?hr ?hp (fun _ hk => hk) trivial (Below.refl _ _) (Nat.le_refl _) (by simp) ?_; (case hd => rfl); (case hg => rfl); (case hr => first | (go_simp; done) | (go_simp; rfl)); (case hp => exact (Reps.none _ _)); intro v233 w21 ho22 hb hg_ hnew_; clear hg_ hnew_; (first | rw [← Ny232.out] at ho22 | (simp only [Int.reduceToNat] at ho22; rw [← Ny232.out] at ho22)); have n0_ := Aside0.mk (Kd.R_lower ho22 (below_size (by repeat (first | (with_reducible first | exact HB.out | apply below_alloc | apply pw_below_drewN | apply below_drew1) | exact HB.out)))); have n1_ := Aside0.mk (below_step (by repeat (first | (with_reducible first | exact HB.out | apply below_alloc | apply pw_below_drewN | apply below_drew1) | exact HB.out)) hb); clear HB; have HO234 := n0_; have HB := n1_; clear n0_ n1_; clear hb ho22))
  go_ret
  exact ⟨_, by first | rfl | (simp [errW_none, errW_some] <;> rfl) | (simp [*, errW_none, errW_some] <;> rfl), by (with_reducible repeat (first | apply Kd.R_alloc | apply Kd.R_drewN | apply Kd.R_drew)); exact HO234.out, by repeat (first | (with_reducible first | exact HB.out | apply below_alloc | apply pw_below_drewN | apply below_drew1) | exact HB.out)⟩
end Go.Proofs.Ytjmgdjelnlambaa.A
end

section
namespace Go.Proofs.Ytjmgdjelnlambaa.A
open Go.RowKit Go.Proofs.YtjmgdjelnlambaaW.PrintWords Go.Proofs.YtjmgdjelnlambaaW.PrintLast Go.Proofs.YtjmgdjelnlambaaW.PrintMore
attribute [local go_sem] max2_int min2_int max_two min_two max_three min_three max_four min_four   -- for this text's walks alone
set_option linter.unusedVariables false
set_option linter.unusedSimpArgs false
def laws_eqIntSS.l0 : Nat → List (List Int) → List (List Int) → Int → Option (Bool)
  | 0, _, _, _ => none
  | k + 1, x0, x1, x5 => if x5 < (x0.length : Int) then (if 0 ≤ x5 then (if x5 < (x1.length : Int) then ((laws_eqIntS.f k (rd_L1 x0 x5) (rd_L1 x1 x5)).bind fun t244 => (if t244 = true then (laws_eqIntSS.l0 k x0 x1 (wrap64 (x5 + 1))) else (some false))) else (none)) else (none)) else (some true)
def laws_eqIntSS.f (k : Nat) (l0 : List (List Int)) (l1 : List (List Int)) : Option (Bool) := if (l0.length : Int) = (l1.length : Int) then (laws_eqIntSS.l0 k l0 l1 0) else (some false)
set_option maxHeartbeats 8000000 in
set_option maxRecDepth 100000 in
theorem laws_eqIntSS.calls (k : Nat) (A0 : Option Addr) (c0 : Nat) (l0 : List (List Int)) (A1 : Option Addr) (c1 : Nat) (l1 : List (List Int)) (r : Bool) (w : World) (hr0 : Kd.C (Kd.slice 3 (Kd.int .i64)) w A0 l0.length l0) (hc0 : l0.length ≤ c0) (hr1 : Kd.C (Kd.slice 3 (Kd.int .i64)) w A1 l1.length l1) (hc1 : l1.length ≤ c1) (h : laws_eqIntSS.f k l0 l1 = some r) :
  Calls Try.prog 15 #[.slice A0 l0.length c0, .slice A1 l1.length c1] w fun e w' => e = .returned (.bool r) ∧ Drawn0 w w' := by
 have HR0 := Aside0.mk hr0
 have HC0 := Aside0.mk hc0
 clear hr0 hc0
 have HR1 := Aside0.mk hr1
 have HC1 := Aside0.mk hc1
 clear hr1 hc1
 have H : (if (l0.length : Int) = (l1.length : Int) then (laws_eqIntSS.l0 k l0 l1 0) else (some false)) = some r := h
 clear h
 by_cases c3 : (l0.length : Int) = (l1.length : Int)
 ·
  rw [if_pos c3] at H
  have c3b0 : ((l0.length : Int) == (l1.length : Int)) = true := beq_iff_eq.mpr c3
  have c3b1 : ((l0.length : Int) != (l1.length : Int)) = false := bne_eq_false_iff_eq.mpr c3
  have c3b2 : (l0.length == l1.length) = true := by first | simpa using c3 | (simp at c3 ⊢; omega)
  clear c3
  have H' := Aside0.mk H
  clear H
  go_enter Try.func15, Try.ntmps15
  go_wp2
  repeat (go_quiet (fail); try go_wp2)
  go_loopg [5] k (fun kq v5 w' => ∃ (x5_1 : Int), v5 = .int .i64 x5_1 ∧ Aside0 (laws_eqIntSS.l0 kq l0 l1 x5_1 = some r) ∧ Aside0 (kq ≤ k) ∧ Drawn0 w w')
  case atStart => exact ⟨(0), (by first | rfl | (simp; done) | (simp [*]; done)), H', ⟨Nat.le_refl _⟩, by repeat (first | exact Drawn0.refl _ | apply Drawn0.step)⟩
  case round =>
   clear H'
   try clear c1
   try clear p2
   try clear c3
   try clear c3b0
   try clear c3b1
   try clear c3b2
   obtain ⟨x5_1, rfl, HA, HK1, ⟨m1, rfl⟩⟩ := hrel
   cases gk with
   | zero => exact absurd HA.out (by simp [laws_eqIntSS.l0])
   | succ k1 =>
    have H := HA.out
    clear HA
    simp only [laws_eqIntSS.l0] at H
    by_cases c4 : x5_1 < (l0.length : Int)
    ·
     rw [if_pos c4] at H
     have c4b0 : decide (x5_1 < (l0.length : Int)) = true := decide_eq_true c4
     clear c4
     by_cases c5 : 0 ≤ x5_1
     ·
      rw [if_pos c5] at H
      have c5b0 : decide (0 ≤ x5_1) = true := decide_eq_true c5
      clear c5
      by_cases c6 : x5_1 < (l1.length : Int)
      ·
       rw [if_pos c6] at H
       have c6b0 : decide (x5_1 < (l1.length : Int)) = true := decide_eq_true c6
       clear c6
       replace H := Option.bind_eq_some_iff.mp H
       obtain ⟨t244, A70, H⟩ := H
       replace H : (if t244 = true then (laws_eqIntSS.l0 k1 l0 l1 (wrap64 (x5_1 + 1))) else (some false)) = some r := H
       have A7 := Aside0.mk A70
       clear A70
       by_cases c8 : t244 = true
       ·
        subst c8
        have H1 : (laws_eqIntSS.l0 k1 l0 l1 (wrap64 (x5_1 + 1))) = some r := by rw [if_pos rfl] at H; exact H
        clear H
        have H := H1
        clear H1
        have H' := Aside0.mk H
        clear H
        have p242 : 0 ≤ (x5_1 : Int) := of_decide_eq_true (by first | (with_reducible assumption) | assumption)
        have q242 : x5_1 < (l0.length : Int) := of_decide_eq_true (by first | (with_reducible assumption) | assumption)
        obtain ⟨ad242, A242_0, c242_0, e242, hx242_0, hl242_0, hi242_0⟩ := at_L1 HR0.out x5_1 p242 q242
        cases e242
        have HR242_0 := Aside0.mk hi242_0
        have HC242_0 := Aside0.mk hl242_0
        clear hi242_0 hl242_0
        replace p242 := eq_true p242
        replace q242 := eq_true q242
        have p243 : 0 ≤ (x5_1 : Int) := of_decide_eq_true (by first | (with_reducible assumption) | assumption)
        have q243 : x5_1 < (l1.length : Int) := of_decide_eq_true (by first | (with_reducible assumption) | assumption)
        obtain ⟨ad243, A243_0, c243_0, e243, hx243_0, hl243_0, hi243_0⟩ := at_L1 HR1.out x5_1 p243 q243
        cases e243
        have HR243_0 := Aside0.mk hi243_0
        have HC243_0 := Aside0.mk hl243_0
        clear hi243_0 hl243_0
        replace p243 := eq_true p243
        replace q243 := eq_true q243
        go_wp2_with (first | (go_at_call 8; (with_reducible refine (laws_eqIntS.calls k1 _ _ (rd_L1 l0 x5_1) _ _ (rd_L1 l1 x5_1) true _ ?side1 ?side2 ?side3 ?side4 A7.out).mono ?_); (case side1 => repeat (first | exact HR242_0.out | (with_reducible refine Kd.C_alloc ?_ _) | (with_reducible refine Kd.C_drewN ?_ _) | (with_reducible refine Kd.C_drew ?_))); (case side2 => exact HC242_0.out); (case side3 => repeat (first | exact HR243_0.out | (with_reducible refine Kd.C_alloc ?_ _) | (with_reducible refine Kd.C_drewN ?_ _) | (with_reducible refine Kd.C_drew ?_))); (case side4 => exact HC243_0.out); rintro e w' ⟨rfl, ⟨nd, rfl⟩⟩; (try first | exact ⟨rfl, _, World.drewN_drewN _ _ _⟩ | exact ⟨rfl, _, Eq.trans (World.drewN_drewN _ _ _) (congrArg (World.drewN _) (Nat.add_assoc _ _ _))⟩)))
        repeat (go_quiet (first | (go_at_call 8; (with_reducible refine (laws_eqIntS.calls k1 _ _ (rd_L1 l0 x5_1) _ _ (rd_L1 l1 x5_1) true _ ?side1 ?side2 ?side3 ?side4 A7.out).mono ?_); (case side1 => repeat (first | exact HR242_0.out | (with_reducible refine Kd.C_alloc ?_ _) | (with_reducible refine Kd.C_drewN ?_ _) | (with_reducible refine Kd.C_drew ?_))); (case side2 => exact HC242_0.out); (case side3 => repeat (first | exact HR243_0.out | (with_reducible refine Kd.C_alloc ?_ _) | (with_reducible refine Kd.C_drewN ?_ _) | (with_reducible refine Kd.C_drew ?_))); (case side4 => exact HC243_0.out); rintro e w' ⟨rfl, ⟨nd, rfl⟩⟩; (try first | exact ⟨rfl, _, World.drewN_drewN _ _ _⟩ | exact ⟨rfl, _, Eq.trans (World.drewN_drewN _ _ _) (congrArg (World.drewN _) (Nat.add_assoc _ _ _))⟩))); try go_wp2_with (first | (go_at_call 8; (with_reducible refine (laws_eqIntS.calls k1 _ _ (rd_L1 l0 x5_1) _ _ (rd_L1 l1 x5_1) true _ ?side1 ?side2 ?side3 ?side4 A7.out).mono ?_); (case side1 => repeat (first | exact HR242_0.out | (with_reducible refine Kd.C_alloc ?_ _) | (with_reducible refine Kd.C_drewN ?_ _) | (with_reducible refine Kd.C_drew ?_))); (case side2 => exact HC242_0.out); (case side3 => repeat (first | exact HR243_0.out | (with_reducible refine Kd.C_alloc ?_ _) | (with_reducible refine Kd.C_drewN ?_ _) | (with_reducible refine Kd.C_drew ?_))); (case side4 => exact HC243_0.out); rintro e w' ⟨rfl, ⟨nd, rfl⟩⟩; (try first | exact ⟨rfl, _, World.drewN_drewN _ _ _⟩ | exact ⟨rfl, _, Eq.trans (World.drewN_drewN _ _ _) (congrArg (World.drewN _) (Nat.add_assoc _ _ _))⟩))))
        go_roundg k1
        case measure => have := HK1.out; omega
        case rel => exact ⟨(wrap64 (x5_1 + 1)), (by first | rfl | (simp; done) | (simp [*]; done)), H', ⟨by have := HK1.out; omega⟩, by repeat (first | exact Drawn0.refl _ | apply Drawn0.step)⟩
       ·
        replace c8 := Bool.eq_false_iff.mpr c8
        subst c8
        have H1 : (some false) = some r := by rw [if_neg (show ¬ (false = true) by decide)] at H; exact H
        clear H
        have H := H1
        clear H1
        obtain rfl := Option.some.inj H
        have p242 : 0 ≤ (x5_1 : Int) := of_decide_eq_true (by first | (with_reducible assumption) | assumption)
        have q242 : x5_1 < (l0.length : Int) := of_decide_eq_true (by first | (with_reducible assumption) | assumption)
        obtain ⟨ad242, A242_0, c242_0, e242, hx242_0, hl242_0, hi242_0⟩ := at_L1 HR0.out x5_1 p242 q242
        cases e242
        have HR242_0 := Aside0.mk hi242_0
        have HC242_0 := Aside0.mk hl242_0
        clear hi242_0 hl242_0
        replace p242 := eq_true p242
        replace q242 := eq_true q242
        have p243 : 0 ≤ (x5_1 : Int) := of_decide_eq_true (by first | (with_reducible assumption) | assumption)
        have q243 : x5_1 < (l1.length : Int) := of_decide_eq_true (by first | (with_reducible assumption) | assumption)
        obtain ⟨ad243, A243_0, c243_0, e243, hx243_0, hl243_0, hi243_0⟩ := at_L1 HR1.out x5_1 p243 q243
        cases e243
        have HR243_0 := Aside0.mk hi243_0
        have HC243_0 := Aside0.mk hl243_0
        clear hi243_0 hl243_0
        replace p243 := eq_true p243
        replace q243 := eq_true q243
        go_wp2_with (first | (go_at_call 8; (with_reducible refine (laws_eqIntS.calls k1 _ _ (rd_L1 l0 x5_1) _ _ (rd_L1 l1 x5_1) false _ ?side1 ?side2 ?side3 ?side4 A7.out).mono ?_); (case side1 => repeat (first | exact HR242_0.out | (with_reducible refine Kd.C_alloc ?_ _) | (with_reducible refine Kd.C_drewN ?_ _) | (with_reducible refine Kd.C_drew ?_))); (case side2 => exact HC242_0.out); (case side3 => repeat (first | exact HR243_0.out | (with_reducible refine Kd.C_alloc ?_ _) | (with_reducible refine Kd.C_drewN ?_ _) | (with_reducible refine Kd.C_drew ?_))); (case side4 => exact HC243_0.out); rintro e w' ⟨rfl, ⟨nd, rfl⟩⟩; (try first | exact ⟨rfl, _, World.drewN_drewN _ _ _⟩ | exact ⟨rfl, _, Eq.trans (World.drewN_drewN _ _ _) (congrArg (World.drewN _) (Nat.add_assoc _ _ _))⟩)))
        repeat (go_quiet (first | (go_at_call 8; (with_reducible refine (laws_eqIntS.calls k1 _ _ (rd_L1 l0 x5_1) _ _ (rd_L1 l1 x5_1) false _ ?side1 ?side2 ?side3 ?side4 A7.out).mono ?_); (case side1 => repeat (first | exact HR242_0.out | (with_reducible refine Kd.C_alloc ?_ _) | (with_reducible refine Kd.C_drewN ?_ _) | (with_reducible refine Kd.C_drew ?_))); (case side2 => exact HC242_0.out); (case side3 => repeat (first | exact HR243_0.out | (with_reducible refine Kd.C_alloc ?_ _) | (with_reducible refine Kd.C_drewN ?_ _) | (with_reducible refine Kd.C_drew ?_))); (case side4 => exact HC243_0.out); rintro e w' ⟨rfl, ⟨nd, rfl⟩⟩; (try first | exact ⟨rfl, _, World.drewN_drewN _ _ _⟩ | exact ⟨rfl, _, Eq.trans (World.drewN_drewN _ _ _) (congrArg (World.drewN _) (Nat.add_assoc _ _ _))⟩))); try go_wp2_with (first | (go_at_call 8; (with_reducible refine (laws_eqIntS.calls k1 _ _ (rd_L1 l0 x5_1) _ _ (rd_L1 l1 x5_1) false _ ?side1 ?side2 ?side3 ?side4 A7.out).mono ?_); (case side1 => repeat (first | exact HR242_0.out | (with_reducible refine Kd.C_alloc ?_ _) | (with_reducible refine Kd.C_drewN ?_ _) | (with_reducible refine Kd.C_drew ?_))); (case side2 => exact HC242_0.out); (case side3 => repeat (first | exact HR243_0.out | (with_reducible refine Kd.C_alloc ?_ _) | (with_reducible refine Kd.C_drewN ?_ _) | (with_reducible refine Kd.C_drew ?_))); (case side4 => exact HC243_0.out); rintro e w' ⟨rfl, ⟨nd, rfl⟩⟩; (try first | exact ⟨rfl, _, World.drewN_drewN _ _ _⟩ | exact ⟨rfl, _, Eq.trans (World.drewN_drewN _ _ _) (congrArg (World.drewN _) (Nat.add_assoc _ _ _))⟩))))
        go_ret
        exact ⟨by first | rfl | (simp; done) | (simp [*]; done), by repeat (first | exact Drawn0.refl _ | apply Drawn0.step)⟩
      ·
       rw [if_neg c6] at H
       exact absurd H (by simp)
     ·
      rw [if_neg c5] at H
      exact absurd H (by simp)
    ·
     rw [if_neg c4] at H
     have c4b0 : decide (x5_1 < (l0.length : Int)) = false := decide_eq_false c4
     clear c4
     obtain rfl := Option.some.inj H
     go_wp2
     repeat (go_quiet (fail); try go_wp2)
     go_ret
     exact ⟨by first | rfl | (simp; done) | (simp [*]; done), by repeat (first | exact Drawn0.refl _ | apply Drawn0.step)⟩
 ·
  rw [if_neg c3] at H
  have c3b0 : ((l0.length : Int) == (l1.length : Int)) = false := beq_eq_false_iff_ne.mpr c3
  have c3b1 : ((l0.length : Int) != (l1.length : Int)) = true := bne_iff_ne.mpr c3
  have c3b2 : (l0.length == l1.length) = false := by first | simpa using c3 | (simp at c3 ⊢; omega)
  obtain rfl := Option.some.inj H
  go_enter Try.func15, Try.ntmps15
  go_wp2
  repeat (go_quiet (fail); try go_wp2)
  go_ret
  exact ⟨by first | rfl | (simp; done) | (simp [*]; done), by repeat (first | exact Drawn0.refl _ | apply Drawn0.step)⟩
end Go.Proofs.Ytjmgdjelnlambaa.A
end

section
set_option linter.unusedVariables false
set_option linter.unusedSimpArgs false
namespace Go.Proofs.Ytjmgdjelnlambaa.M
open Go Go.RowKit Go.Proofs.YtjmgdjelnlambaaW.PrintWords
structure MI (P : Nat → Prop) (w w' : World) : Prop where
  os : w'.os = w.os
  tape : w'.tape = w.tape
  output : w'.output = w.output
  size : w.heap.size ≤ w'.heap.size
  keep : ∀ k, k < w.heap.size → ¬ P k → w'.heap[k]? = w.heap[k]?
  int : ∀ p x, w.cell? p = some (.int .i64 x) → ∃ x', w'.cell? p = some (.int .i64 x')
  oth : ∀ p v, w.cell? p = some v → (∀ x, v ≠ .int .i64 x) → w'.cell? p = some v
  froz : ∀ p, p.block < w.heap.size → w'.frozen? p = w.frozen? p
theorem MI.refl (P : Nat → Prop) (w : World) : MI P w w := ⟨rfl, rfl, rfl, Nat.le_refl _, fun _ _ _ => rfl, fun _ x h => ⟨x, h⟩, fun _ _ h _ => h, fun _ _ => rfl⟩
theorem MI.trans {P : Nat → Prop} {a b c : World} (h : MI P a b) (k : MI P b c) : MI P a c where
  os := k.os.trans h.os
  tape := k.tape.trans h.tape
  output := k.output.trans h.output
  size := Nat.le_trans h.size k.size
  keep := fun i hi hn => (k.keep i (Nat.lt_of_lt_of_le hi h.size) hn).trans (h.keep i hi hn)
  int := fun p x hx => by
    obtain ⟨y, hy⟩ := h.int p x hx
    exact k.int p y hy
  oth := fun p v hv hn => k.oth p v (h.oth p v hv hn) hn
  froz := fun p hp => (k.froz p (Nat.lt_of_lt_of_le hp h.size)).trans (h.froz p hp)
theorem MI.drewN {P : Nat → Prop} {a b : World} (h : MI P a b) (n : Nat) : MI P a (b.drewN n) := ⟨h.os, h.tape, h.output, h.size, h.keep, h.int, h.oth, h.froz⟩
theorem MI.drew {P : Nat → Prop} {a b : World} (h : MI P a b) : MI P a b.drew := ⟨h.os, h.tape, h.output, h.size, h.keep, h.int, h.oth, h.froz⟩
theorem heap_set_ne {w : World} {g o k : Nat} {u : Value} (h : k ≠ g) : (w.setCell ⟨g, o, none⟩ u).heap[k]? = w.heap[k]? := by
  simp [World.setCell, Array.getElem?_modify, Ne.symm h]
theorem heap_set_size (w : World) (p : Addr) (u : Value) : (w.setCell p u).heap.size = w.heap.size := by simp [World.setCell]
theorem cell_set_ne {w : World} {g o : Nat} {q : Addr} {u : Value} (h : q.block = g → q.off ≠ o) : (w.setCell ⟨g, o, none⟩ u).cell? q = w.cell? q := by
  unfold World.cell? World.setCell
  simp only [Array.getElem?_modify]
  by_cases e : g = q.block
  · subst e
    simp only [if_true]
    cases w.heap[q.block]? with
    | none => rfl
    | some ob =>
      cases ob with
      | cells c t f =>
        simp only [Option.map_some]
        simp [Array.getElem?_setIfInBounds_ne (h rfl).symm]
      | _ => rfl
  · simp [e]
theorem frozen_set {w : World} {p q : Addr} {u : Value} : (w.setCell p u).frozen? q = w.frozen? q := by
  unfold World.frozen? World.setCell
  simp only [Array.getElem?_modify]
  by_cases e : p.block = q.block
  · simp only [e, if_true]
    cases w.heap[q.block]? with
    | none => rfl
    | some ob => cases ob <;> rfl
  · simp [e]
theorem cell_set_same {w : World} {g o : Nat} {v u : Value} (h : w.cell? ⟨g, o, none⟩ = some v) : (w.setCell ⟨g, o, none⟩ u).cell? ⟨g, o, none⟩ = some u := by
  unfold World.cell? World.setCell at *
  simp only [Array.getElem?_modify, if_true]
  cases e : w.heap[g]? with
  | none => simp [e] at h
  | some ob =>
    cases ob with
    | cells c t f =>
      simp [e] at h
      have := (Array.getElem?_eq_some_iff.1 h).1
      simp [this]
    | _ => simp [e] at h
theorem cell_spot {w : World} {p : Addr} {v : Value} (h : w.cell? p = some v) : p.spot = none := by
  unfold World.cell? at h
  split at h
  · split at h
    · cases h
    · rename_i hs
      simpa using hs
  · cases h
theorem MI.set {P : Nat → Prop} {a b : World} (h : MI P a b) {g o : Nat} {x : Int} (hg : P g) (hc : b.cell? ⟨g, o, none⟩ = some (.int .i64 x)) (y : Int) : MI P a (b.setCell ⟨g, o, none⟩ (.int .i64 y)) := by
  refine h.trans ⟨rfl, rfl, rfl, Nat.le_of_eq (heap_set_size _ _ _).symm, fun k _ hn => heap_set_ne (fun e => hn (e ▸ hg)), fun p x' hx => ?_, fun p v hv hn => ?_, fun p _ => frozen_set⟩
  · by_cases e : p.block = g ∧ p.off = o
    · have hs := cell_spot hx
      obtain ⟨pb, po, ps⟩ := p
      obtain ⟨rfl, rfl⟩ := e
      cases hs
      exact ⟨y, cell_set_same hx⟩
    · exact ⟨x', by rw [cell_set_ne (fun h1 h2 => e ⟨h1, h2⟩)]; exact hx⟩
  · refine (cell_set_ne (fun h1 h2 => ?_)).trans hv
    have hs := cell_spot hv
    obtain ⟨pb, po, ps⟩ := p
    cases h1
    cases h2
    cases hs
    rw [hv] at hc
    exact hn x (Option.some.inj hc)
theorem MI.kept {P : Nat → Prop} {a b : World} (h : MI P a b) : Kept a b P := ⟨h.size, h.keep⟩
theorem MI.below {P : Nat → Prop} {a b : World} (h : MI P a b) {w0 : World} (hb : Below w0.heap.size w0 a) (hp : ∀ k, P k → w0.heap.size ≤ k) : Below w0.heap.size w0 b :=
  hb.trans ⟨h.os, h.tape, h.output, h.size, fun k hk => h.keep k (Nat.lt_of_lt_of_le hk hb.size) (fun hq => by have := hp k hq; omega)⟩
def RowI (P : Nat → Prop) (w : World) (A : Option Addr) (n : Nat) : Prop := n ≤ 4611686018427387904 ∧ (0 < n → ∃ g, A = some ⟨g, 0, none⟩ ∧ P g ∧ g < w.heap.size ∧ ∀ j, j < n → (∃ x, w.cell? ⟨g, j, none⟩ = some (.int .i64 x)) ∧ w.frozen? ⟨g, j, none⟩ = false)
theorem RowI.mi {P Q : Nat → Prop} {w w' : World} {A : Option Addr} {n : Nat} (h : RowI P w A n) (k : MI Q w w') : RowI P w' A n :=
  ⟨h.1, fun hn => by
    obtain ⟨g, e, hp, hlt, hc⟩ := h.2 hn
    exact ⟨g, e, hp, Nat.lt_of_lt_of_le hlt k.size, fun j hj => by
      obtain ⟨⟨x, hx⟩, hf⟩ := hc j hj
      exact ⟨k.int _ x hx, by rw [k.froz _ hlt]; exact hf⟩⟩⟩
theorem RowI.of_R {P : Nat → Prop} {w : World} {base : Nat} {A : Option Addr} {n c : Nat} {xs : List Int} (h : Kd.R (Kd.int .i64) 3 w base P (.slice A n c) xs) (hl : xs.length ≤ 4611686018427387904) : RowI P w A n := by
  obtain ⟨hn, _, _⟩ := Kd.R_reads' h
  subst hn
  refine ⟨hl, fun hp => ?_⟩
  obtain ⟨g, cap, e, _, hlt, _⟩ := Kd.R_form h hp
  injection e with e1 e2 e3
  subst e1 e3
  refine ⟨g, rfl, h.1 g rfl, hlt, fun j hj => ?_⟩
  obtain ⟨h1, h2⟩ := Kd.R_celln 0 h (j : Int) (by omega) (by omega)
  exact ⟨⟨_, by simpa using h1⟩, by simpa using h2⟩
def RowS (m : Nat) (P : Nat → Prop) (w : World) (A : Option Addr) (ns : List Nat) : Prop :=
  ns.length ≤ 4611686018427387904 ∧ (0 < ns.length → ∃ g, A = some ⟨g, 0, none⟩ ∧ P g ∧ g < w.heap.size ∧ ∀ (i : Nat) (hi : i < ns.length), (∀ j, j < m → (∃ x, w.cell? ⟨g, i * (m + 1) + j, none⟩ = some (.int .i64 x)) ∧ w.frozen? ⟨g, i * (m + 1) + j, none⟩ = false) ∧ ∃ B c, w.cell? ⟨g, i * (m + 1) + m, none⟩ = some (.slice B ns[i] c) ∧ RowI P w B ns[i])
theorem RowS.mi {m : Nat} {P Q : Nat → Prop} {w w' : World} {A : Option Addr} {ns : List Nat} (h : RowS m P w A ns) (k : MI Q w w') : RowS m P w' A ns :=
  ⟨h.1, fun hn => by
    obtain ⟨g, e, hp, hlt, hc⟩ := h.2 hn
    refine ⟨g, e, hp, Nat.lt_of_lt_of_le hlt k.size, fun i hi => ?_⟩
    obtain ⟨h1, B, c, h2, h3⟩ := hc i hi
    refine ⟨fun j hj => ?_, B, c, k.oth _ _ h2 (fun x hx => by cases hx), h3.mi k⟩
    obtain ⟨⟨x, hx⟩, hf⟩ := h1 j hj
    exact ⟨k.int _ x hx, by rw [k.froz _ hlt]; exact hf⟩⟩
theorem RowI.mono {P Q : Nat → Prop} {w : World} {A : Option Addr} {n : Nat} (h : RowI P w A n) (hq : ∀ k, P k → Q k) : RowI Q w A n :=
  ⟨h.1, fun hn => by
    obtain ⟨g, e, hp, r⟩ := h.2 hn
    exact ⟨g, e, hq _ hp, r⟩⟩
theorem RowS.of_R {α : Type} {d : Kd α} (m : Nat) (hsz : d.sz = m + 1) (len : α → Nat) {P : Nat → Prop} {w : World} {e base : Nat} {A : Option Addr} {n c : Nat} {l : List α}
    (hM : ∀ {ok : Nat → Prop} {x : α} {cs : List Value}, d.M w base ok x cs → ∃ (zs : List Int) (v : Value) (xs : List Int), cs = zs.map (Value.int .i64) ++ [v] ∧ zs.length = m ∧ xs.length = len x ∧ Kd.R (Kd.int .i64) 3 w base ok v xs)
    (h : Kd.R d e w base P (.slice A n c) l) (hl : l.length ≤ 4611686018427387904) (hx : ∀ x ∈ l, len x ≤ 4611686018427387904) : RowS m P w A (l.map len) := by
  obtain ⟨hn, _, _⟩ := Kd.R_reads' h
  subst hn
  refine ⟨by simpa using hl, fun hp => ?_⟩
  rw [List.length_map] at hp
  obtain ⟨g, cap, e1, _, hlt, _⟩ := Kd.R_form h hp
  obtain ⟨h0, inner, hown, hreps⟩ := h
  injection e1 with e1 e2 e3
  subst e1 e3
  have hfz : ∀ o, w.frozen? ⟨g, o, none⟩ = false := fun o => by
    rcases hown.2 with ⟨e', _⟩ | ⟨g', cap', cur, e', _, hh, _⟩
    · cases e'
    · injection e' with e1 e2 e3
      injection e1 with e1
      injection e1 with e1
      subst e1
      simp [World.frozen?, hh]
  refine ⟨g, rfl, h0 g rfl, hlt, fun i hi => ?_⟩
  rw [List.length_map] at hi
  obtain ⟨zs, v, xs, hcs, hz, hlen, hr⟩ := hM (hreps.2 i l[i] (List.getElem?_eq_getElem hi))
  rw [hsz] at hcs
  have hcell : ∀ (j : Nat) (u : Value), (zs.map (Value.int .i64) ++ [v])[j]? = some u → w.cell? ⟨g, i * (m + 1) + j, none⟩ = some u := fun j u hu => by
    have h1 : inner[i * (m + 1) + j]? = some u := by
      rw [← hcs, List.getElem?_take] at hu
      split at hu
      · rw [List.getElem?_drop] at hu
        exact hu
      · cases hu
    have := hown.cells (g := g) rfl _ u h1
    unfold Addr.add at this
    split at this
    · rename_i h0
      simpa [h0] using this
    · simpa using this
  obtain ⟨B, cB, rfl, _, _⟩ := Kd.R_reads hr
  refine ⟨fun j hj => ⟨⟨zs[j]'(by omega), hcell j _ ?_⟩, hfz _⟩, B, cB, ?_, ?_⟩
  · rw [List.getElem?_append_left (by simp; omega), List.getElem?_map, List.getElem?_eq_getElem (by omega)]
    rfl
  · have := hcell m (.slice B xs.length cB) (by rw [List.getElem?_append_right (by simp [hz])]; simp [hz])
    simpa [hlen] using this
  · have := RowI.mono (RowI.of_R hr (by rw [hlen]; exact hx _ (List.getElem_mem _))) (fun k hk => hk.1)
    simpa [hlen] using this
def tot (m : Nat) : List Nat → Nat
  | [] => 0
  | k :: r => m + k + tot m r
theorem tot_snoc (m : Nat) : ∀ (a : List Nat) (k : Nat), tot m (a ++ [k]) = tot m a + (m + k)
  | [], k => by simp [tot]
  | x :: a, k => by simp only [List.cons_append, tot, tot_snoc m a k]; omega
theorem tot_take (m : Nat) (ns : List Nat) (i : Nat) (hi : i < ns.length) : tot m (ns.take (i + 1)) = tot m (ns.take i) + (m + ns[i]) := by
  rw [List.take_succ_eq_append_getElem hi, tot_snoc]
theorem tot_take_le (m : Nat) : ∀ (ns : List Nat) (i : Nat), tot m (ns.take i) ≤ tot m ns
  | [], i => by simp [tot]
  | k :: r, 0 => by simp [tot]
  | k :: r, i + 1 => by simp only [List.take_succ_cons, tot]; have := tot_take_le m r i; omega
end Go.Proofs.Ytjmgdjelnlambaa.M
end

section
set_option linter.unusedVariables false
set_option linter.unusedSimpArgs false
namespace Go.Proofs.Ytjmgdjelnlambaa.M
open Go.RowKit Go.Proofs.YtjmgdjelnlambaaW.PrintWords Go.Proofs.YtjmgdjelnlambaaW.PrintLast Go.Proofs.YtjmgdjelnlambaaW.PrintMore
set_option maxHeartbeats 4000000 in
set_option maxRecDepth 100000 in
theorem markI_calls (P : Nat → Prop) (A : Option Addr) (n c : Nat) (a1 : Int) (w : World) (h : RowI P w A n) (h0 : 0 ≤ a1) (h1 : a1 + n ≤ 4611686018427387904) :
    Calls Try.prog 9 #[.slice A n c, .int .i64 a1] w fun e w' => e = .returned (.int .i64 (a1 + n)) ∧ MI P w w' := by
  have HR := Aside0.mk h
  have H0 := Aside0.mk h0
  have H1 := Aside0.mk h1
  clear h h0 h1
  go_enter Try.func9, Try.ntmps9
  go_wp2
  go_loopg [1, 5] n (fun gg v1 v5 wr => ∃ (kk : Nat) (x1 : Int), v1 = .int .i64 x1 ∧ v5 = .int .i64 kk ∧ Aside0 (x1 = a1 + kk) ∧ Aside0 (kk ≤ n ∧ n - kk ≤ gg) ∧ Aside0 (MI P w wr))
  case atStart => exact ⟨0, a1, rfl, rfl, ⟨by simp⟩, ⟨by omega⟩, ⟨MI.refl P w⟩⟩
  case round =>
    obtain ⟨kk, x1, rfl, rfl, HX, HI, HM⟩ := hrel
    by_cases hlt : kk < n
    · have hltb : ((kk : Int) < (n : Int)) = True := eq_true (by omega)
      obtain ⟨g, rfl, hP, hgl, hc⟩ := (HR.out.mi HM.out).2 (by omega)
      obtain ⟨⟨x, hx⟩, hf⟩ := hc kk hlt
      have HP := Aside0.mk hP
      have HC : Aside0 (wr.cell? ⟨g, kk, none⟩ = some (.int .i64 x)) := ⟨hx⟩
      have HLT := Aside0.mk hlt
      have HW1 : Aside0 (wrap64 (x1 + 1) = a1 + ((kk + 1 : Nat) : Int)) := ⟨by have := H1.out; have := HX.out; have := H0.out; unfold wrap64; omega⟩
      have HW5 : Aside0 (wrap64 ((kk : Int) + 1) = ((kk + 1 : Nat) : Int)) := ⟨by have := H1.out; have := H0.out; unfold wrap64; omega⟩
      clear hc hP hgl hlt
      go_wp2
      go_roundg (n - (kk + 1))
      case measure => have := HI.out; have := HLT.out; omega
      case rel => exact ⟨kk + 1, wrap64 (x1 + 1), rfl, by rw [HW5.out], HW1, ⟨by have := HLT.out; omega⟩, ⟨HM.out.set HP.out HC.out _⟩⟩
    · have hltb : ((kk : Int) < (n : Int)) = False := eq_false (by omega)
      have HLT := Aside0.mk hlt
      clear hlt
      go_wp2
      go_ret
      refine ⟨?_, HM.out⟩
      have e : x1 = a1 + (n : Int) := by have := HI.out; have := HLT.out; have := HX.out; omega
      rw [← e]
      rfl
theorem drawn_below {w w' : World} (h : Drawn0 w w') : Below w.heap.size w w' := by
  obtain ⟨n, rfl⟩ := h.out
  exact pw_below_drewN (Below.refl _ _) n
theorem own_interval {α : Type} {d : Kd α} {e : Nat} {w w' : World} {v : Value} {xs : List α} (h : Kd.R d e w' w.heap.size (fun _ => True) v xs) : Kd.R d e w' w.heap.size (fun k => w.heap.size ≤ k ∧ k < w'.heap.size) v xs :=
  Kd.R_mono (Kd.R_bound h) (fun k hk => ⟨hk.2.1, hk.2.2.1⟩)
end Go.Proofs.Ytjmgdjelnlambaa.M
end

section
set_option linter.unusedVariables false
set_option linter.unusedSimpArgs false
namespace Go.Proofs.Ytjmgdjelnlambaa.M
open Go.RowKit Go.Proofs.Ytjmgdjelnlambaa.A Go.Proofs.YtjmgdjelnlambaaW.PrintWords Go.Proofs.YtjmgdjelnlambaaW.PrintLast Go.Proofs.YtjmgdjelnlambaaW.PrintMore
set_option maxHeartbeats 8000000 in
set_option maxRecDepth 100000 in
theorem markIntSS_calls (P : Nat → Prop) (A : Option Addr) (ns : List Nat) (c : Nat) (a1 : Int) (w : World) (h : RowS 0 P w A ns) (h0 : 0 ≤ a1) (h1 : a1 + tot 0 ns ≤ 4611686018427387904) :
    Calls Try.prog 16 #[.slice A ns.length c, .int .i64 a1] w fun e w' => e = .returned (.int .i64 (a1 + tot 0 ns)) ∧ MI P w w' := by
  have HR := Aside0.mk h
  have H0 := Aside0.mk h0
  have H1 := Aside0.mk h1
  have HN := Aside0.mk h.1
  clear h h0 h1
  go_enter Try.func16, Try.ntmps16
  go_wp2
  go_loopg [1, 5] ns.length (fun gg v1 v5 wr => ∃ (kk : Nat) (x1 : Int), v1 = .int .i64 x1 ∧ v5 = .int .i64 kk ∧ Aside0 (x1 = a1 + tot 0 (ns.take kk)) ∧ Aside0 (kk ≤ ns.length ∧ ns.length - kk ≤ gg) ∧ Aside0 (MI P w wr))
  case atStart => exact ⟨0, a1, rfl, rfl, ⟨by simp [tot]⟩, ⟨by omega⟩, ⟨MI.refl P w⟩⟩
  case round =>
    obtain ⟨kk, x1, rfl, rfl, HX, HI, HM⟩ := hrel
    by_cases hlt : kk < ns.length
    · have hltb : ((kk : Int) < (ns.length : Int)) = True := eq_true (by omega)
      obtain ⟨g, rfl, hP, hgl, hc⟩ := (HR.out.mi HM.out).2 (by omega)
      have HP := Aside0.mk hP
      have HLT := Aside0.mk hlt
      have htk := tot_take 0 ns kk hlt
      have htl := tot_take_le 0 ns (kk + 1)
      obtain ⟨nk, hnk⟩ : ∃ nk, ns[kk] = nk := ⟨_, rfl⟩
      rw [hnk] at htk
      have HB : Aside0 (0 ≤ x1 ∧ x1 + 0 + nk ≤ 4611686018427387904) := ⟨by have := H1.out; have := HX.out; have := H0.out; omega⟩
      have HT : Aside0 (x1 + 0 + nk = a1 + tot 0 (ns.take (kk + 1))) := ⟨by have := HX.out; omega⟩
      have HKK : Aside0 (wrap64 ((kk : Int) + 1) = ((kk + 1 : Nat) : Int)) := ⟨by have := HN.out; unfold wrap64; omega⟩
      obtain ⟨hi_, B, cB, hs0, hrB⟩ := hc kk hlt
      rw [hnk] at hs0 hrB
      have hs : wr.cell? ⟨g, kk, none⟩ = some (.slice B nk cB) := (by simpa using hs0)
      have HMM : Aside0 (MI P w wr) := ⟨HM.out⟩
      have HRB : Aside0 (RowI P wr B nk) := ⟨hrB.mi (MI.refl P wr)⟩
      clear hi_ hrB hc hP htk htl hlt hgl hs0 hnk 
      have HV : Aside0 (x1 = x1 + 0) := ⟨by omega⟩
      go_wp2_with (go_at_call 9; refine (markI_calls P B nk cB _ _ ?q1 ?q2 ?q3).mono ?_; (case q1 => exact HRB.out ); (case q2 => have := HB.out; omega); (case q3 => have := HB.out; omega); rintro e w9 ⟨rfl, hm9⟩; have HM9 := Aside0.mk ((HMM.out ).trans hm9); clear hm9)
      go_roundg (ns.length - (kk + 1))
      case measure => have := HI.out; have := HLT.out; omega
      case rel => exact ⟨kk + 1, _, rfl, by rw [HKK.out], ⟨by rw [← HT.out]; omega⟩, ⟨by have := HLT.out; omega⟩, HM9⟩
    · have hltb : ((kk : Int) < (ns.length : Int)) = False := eq_false (by omega)
      have HLT := Aside0.mk hlt
      clear hlt
      go_wp2
      go_ret
      refine ⟨?_, HM.out⟩
      have e : x1 = a1 + (tot 0 ns : Int) := by
        have h1 := HX.out
        rw [List.take_of_length_le (by have := HI.out; have := HLT.out; omega)] at h1
        exact h1
      rw [← e]
      rfl
theorem markRows (P : Nat → Prop) (A : Option Addr) (c : Nat) (l : List (List Int)) (a1 : Int) (w : World) {e base : Nat} (h : Kd.R (Kd.slice 3 (Kd.int .i64)) e w base P (.slice A l.length c) l) (hl : l.length ≤ 4611686018427387904) (hi : ∀ x ∈ l, x.length ≤ 4611686018427387904) (h0 : 0 ≤ a1) (h1 : a1 + tot 0 (l.map (fun x => x.length)) ≤ 4611686018427387904) :
    Calls Try.prog 16 #[.slice A l.length c, .int .i64 a1] w fun e w' => e = .returned (.int .i64 (a1 + tot 0 (l.map (fun x => x.length)))) ∧ MI P w w' := by
  have hm : ∀ {ok : Nat → Prop} {x : (List Int)} {cs : List Value}, ((Kd.slice 3 (Kd.int .i64))).M w base ok x cs → ∃ (zs : List Int) (v : Value) (xs : List Int), cs = zs.map (Value.int .i64) ++ [v] ∧ zs.length = 0 ∧ xs.length = x.length ∧ Kd.R (Kd.int .i64) 3 w base ok v xs := by
    intro ok x cs h
    obtain ⟨v, rfl, hr⟩ := h
    exact ⟨[], v, x, rfl, rfl, rfl, hr⟩
  have := markIntSS_calls P A (l.map (fun x => x.length)) c a1 w (RowS.of_R 0 rfl (fun x => x.length) hm h hl hi) h0 h1
  rw [List.length_map] at this
  exact this
end Go.Proofs.Ytjmgdjelnlambaa.M
end

section
set_option linter.unusedVariables false
set_option linter.unusedSimpArgs false
namespace Go.Proofs.Ytjmgdjelnlambaa.A
open Go.RowKit Go.Proofs.YtjmgdjelnlambaaW.PrintWords Go.Proofs.YtjmgdjelnlambaaW.PrintLast Go.Proofs.YtjmgdjelnlambaaW.PrintMore
def laws_FnExactPlacePoints.f (k : Nat) (l0 : List (List Int)) (a1 : Int) : Option Bool := (laws_szIntSS.f k l0 1048576).bind (fun n1 => if n1 < 0 then some true else ((laws_toIntSS.f k l0).bind (fun x2 => (spec_PlacePoints.f k x2 a1).bind (fun x3 => (laws_toIntSS.f k l0).bind (fun x4 => (impl_PlacePoints.f k x4 a1).bind (fun x5 => (laws_eqIntS.f k x5 x3).bind (fun b6 => if b6 = true then ((laws_toIntSS.f k l0).bind (fun x7 => (laws_eqIntSS.f k x4 x7).bind (fun b8 => if b8 = true then (if (x4.length ≤ 4611686018427387904 ∧ ∀ x ∈ x4, x.length ≤ 4611686018427387904) ∧ (M.tot 0 (x4.map (fun x => x.length)) : Int) ≤ 1152921504606846976 then ((laws_eqIntS.f k x5 x3).bind (fun b10 => if b10 = true then ((laws_markIntS.f k x5 1).bind (fun t_ => (fun m11  y11 => (laws_heldIntS.f k y11 1).bind (fun n12 => if ¬ (n12 < 0) then (if n12 = m11 then ((laws_toIntSS.f k l0).bind (fun x13 => (impl_PlacePoints.f k x13 a1).bind (fun x14 => (laws_eqIntS.f k x14 x3).bind (fun b15 => if b15 = true then ((laws_heldIntS.f k y11 1).bind (fun n16 => if ¬ (n16 < 0) then (if n16 = m11 then (some true) else none) else none)) else none)))) else none) else none)) t_.1 t_.2)) else none)) else none) else none))) else none)))))))
set_option maxHeartbeats 16000000 in
set_option maxRecDepth 100000 in
theorem laws_FnExactPlacePoints.calls (k : Nat) (A0 : Option Addr) (c0 : Nat) (l0 : List (List Int)) (a1 : Int) (r : Bool) (w : World) (hr0 : Kd.C (Kd.slice 3 (Kd.int .i64)) w A0 l0.length l0) (hc0 : l0.length ≤ c0) (h : laws_FnExactPlacePoints.f k l0 a1 = some r) :
  Calls Try.prog 4 #[.slice A0 l0.length c0, .int .i64 a1] w fun e w' => e = .returned (.bool r) ∧ Below w.heap.size w w' := by
  have HR0 := Aside0.mk hr0
  have HC0 := Aside0.mk hc0
  clear hr0 hc0
  unfold laws_FnExactPlacePoints.f at h
  have HB := Aside0.mk (Below.refl w.heap.size w)
  have TK0 : Aside0 True := ⟨trivial⟩
  replace h := Option.bind_eq_some_iff.mp h
  obtain ⟨n1, hx10, h⟩ := h
  have hx1 := Aside0.mk hx10
  clear hx10
  by_cases ce : n1 < 0
  · rw [if_pos ce] at h
    obtain rfl := Option.some.inj h
    have cx0 : (n1 < 0) = True := eq_true (by omega)
    clear ce h
    go_enter Try.func4, Try.ntmps4
    go_wp2_with (first | (have tok_ := TK0; clear TK0 tok_; go_at_call 11; refine (laws_szIntSS.calls (k := k) (A0 := A0) (c0 := c0) (l0 := l0) (a1 := 1048576) (r := n1) (h := hx1.out) (hr0 := ?hr0) (hc0 := ?hc0)).mono ?_; (case hr0 => exact Kd.C_below HR0.out (by repeat (first | (with_reducible first | exact HB.out | apply below_alloc | apply pw_below_drewN | apply below_drew1) | exact HB.out))); (case hc0 => exact HC0.out); rintro e w1 ⟨rfl, hd_⟩; have hb := M.drawn_below hd_; clear hd_; have HSZ1 : Aside0 (w.heap.size ≤ w1.heap.size) := ⟨hb.size⟩; have nB_ := Aside0.mk (below_step (by repeat (first | (with_reducible first | exact HB.out | apply below_alloc | apply pw_below_drewN | apply below_drew1) | exact HB.out)) hb); clear HB; have HB := nB_; clear nB_; clear hb; have TK1 : Aside0 True := ⟨trivial⟩))
    go_ret
    exact ⟨rfl, (by repeat (first | (with_reducible first | exact HB.out | apply below_alloc | apply pw_below_drewN | apply below_drew1) | exact HB.out))⟩
  rw [if_neg ce] at h
  have cf1 : (n1 < 0) = False := eq_false (by omega)
  clear ce
  replace h := Option.bind_eq_some_iff.mp h
  obtain ⟨x2, hx20, h⟩ := h
  have hx2 := Aside0.mk hx20
  clear hx20
  replace h := Option.bind_eq_some_iff.mp h
  obtain ⟨x3, hx30, h⟩ := h
  have hx3 := Aside0.mk hx30
  clear hx30
  replace h := Option.bind_eq_some_iff.mp h
  obtain ⟨x4, hx40, h⟩ := h
  have hx4 := Aside0.mk hx40
  clear hx40
  replace h := Option.bind_eq_some_iff.mp h
  obtain ⟨x5, hx50, h⟩ := h
  have hx5 := Aside0.mk hx50
  clear hx50
  replace h := Option.bind_eq_some_iff.mp h
  obtain ⟨b6, hx60, h⟩ := h
  have hx6 := Aside0.mk hx60
  clear hx60
  by_cases ct : b6 = true
  rotate_left
  · rw [if_neg ct] at h; cases h
  rw [if_pos ct] at h
  subst ct
  replace h := Option.bind_eq_some_iff.mp h
  obtain ⟨x7, hx70, h⟩ := h
  have hx7 := Aside0.mk hx70
  clear hx70
  replace h := Option.bind_eq_some_iff.mp h
  obtain ⟨b8, hx80, h⟩ := h
  have hx8 := Aside0.mk hx80
  clear hx80
  by_cases ct : b8 = true
  rotate_left
  · rw [if_neg ct] at h; cases h
  rw [if_pos ct] at h
  subst ct
  by_cases ct : (x4.length ≤ 4611686018427387904 ∧ ∀ x ∈ x4, x.length ≤ 4611686018427387904) ∧ (M.tot 0 (x4.map (fun x => x.length)) : Int) ≤ 1152921504606846976
  rotate_left
  · rw [if_neg ct] at h; cases h
  rw [if_pos ct] at h
  obtain ⟨K9, hkK9⟩ : ∃ K_ : Int, K_ = 1 + (M.tot 0 (x4.map (fun x => x.length)) : Int) := ⟨_, rfl⟩
  have HKK9 := Aside0.mk hkK9
  have HTK9 := Aside0.mk ct
  have HQK9 : Aside0 (0 ≤ K9 ∧ K9 ≤ 1152921504606846976 * 1 + 1) := ⟨by have := HTK9.out.2; omega⟩
  clear ct hkK9
  have cqK9 : (K9 < 0) = False := eq_false (by have := HQK9.out; omega)
  replace h := Option.bind_eq_some_iff.mp h
  obtain ⟨b10, hx100, h⟩ := h
  have hx10 := Aside0.mk hx100
  clear hx100
  by_cases ct : b10 = true
  rotate_left
  · rw [if_neg ct] at h; cases h
  rw [if_pos ct] at h
  subst ct
  replace h := Option.bind_eq_some_iff.mp h
  obtain ⟨⟨m11, y11⟩, hx110, h⟩ := h
  have hx11 := Aside0.mk hx110
  clear hx110
  dsimp only at h
  replace h := Option.bind_eq_some_iff.mp h
  obtain ⟨n12, hx120, h⟩ := h
  have hx12 := Aside0.mk hx120
  clear hx120
  by_cases ct : ¬ (n12 < 0)
  rotate_left
  · rw [if_neg ct] at h; cases h
  rw [if_pos ct] at h
  have cf2 : (n12 < 0) = False := eq_false ct
  clear ct
  by_cases ct : n12 = m11
  rotate_left
  · rw [if_neg ct] at h; cases h
  rw [if_pos ct] at h
  have ct2 : m11 = n12 := ct.symm
  clear ct
  subst ct2
  replace h := Option.bind_eq_some_iff.mp h
  obtain ⟨x13, hx130, h⟩ := h
  have hx13 := Aside0.mk hx130
  clear hx130
  replace h := Option.bind_eq_some_iff.mp h
  obtain ⟨x14, hx140, h⟩ := h
  have hx14 := Aside0.mk hx140
  clear hx140
  replace h := Option.bind_eq_some_iff.mp h
  obtain ⟨b15, hx150, h⟩ := h
  have hx15 := Aside0.mk hx150
  clear hx150
  by_cases ct : b15 = true
  rotate_left
  · rw [if_neg ct] at h; cases h
  rw [if_pos ct] at h
  subst ct
  replace h := Option.bind_eq_some_iff.mp h
  obtain ⟨n16, hx160, h⟩ := h
  have hx16 := Aside0.mk hx160
  clear hx160
  by_cases ct : ¬ (n16 < 0)
  rotate_left
  · rw [if_neg ct] at h; cases h
  rw [if_pos ct] at h
  have cf3 : (n16 < 0) = False := eq_false ct
  clear ct
  by_cases ct : n16 = m11
  rotate_left
  · rw [if_neg ct] at h; cases h
  rw [if_pos ct] at h
  have ct2 : m11 = n16 := ct.symm
  clear ct
  subst ct2
  obtain rfl := Option.some.inj h
  clear h
  go_enter Try.func4, Try.ntmps4
  go_wp2_with (first | (have tok_ := TK0; clear TK0 tok_; go_at_call 11; refine (laws_szIntSS.calls (k := k) (A0 := A0) (c0 := c0) (l0 := l0) (a1 := 1048576) (r := n1) (h := hx1.out) (hr0 := ?hr0) (hc0 := ?hc0)).mono ?_; (case hr0 => exact Kd.C_below HR0.out (by repeat (first | (with_reducible first | exact HB.out | apply below_alloc | apply pw_below_drewN | apply below_drew1) | exact HB.out))); (case hc0 => exact HC0.out); rintro e w1 ⟨rfl, hd_⟩; have hb := M.drawn_below hd_; clear hd_; have HSZ1 : Aside0 (w.heap.size ≤ w1.heap.size) := ⟨hb.size⟩; have nB_ := Aside0.mk (below_step (by repeat (first | (with_reducible first | exact HB.out | apply below_alloc | apply pw_below_drewN | apply below_drew1) | exact HB.out)) hb); clear HB; have HB := nB_; clear nB_; clear hb; have TK1 : Aside0 True := ⟨trivial⟩) | (have tok_ := TK1; clear TK1 tok_; go_at_call 13; refine (laws_toIntSS.calls (k := k) (A0 := A0) (c0 := c0) (l0 := l0) (r := x2) (h := hx2.out) (hr0 := ?hr0) (hc0 := ?hc0)).mono ?_; (case hr0 => exact Kd.C_below HR0.out (by repeat (first | (with_reducible first | exact HB.out | apply below_alloc | apply pw_below_drewN | apply below_drew1) | exact HB.out))); (case hc0 => exact HC0.out); rintro e w2 ⟨v_, rfl, ho_, hb⟩; have hOI_ : Kd.R (Kd.slice 3 (Kd.int .i64)) 22 w2 w1.heap.size (fun k => w1.heap.size ≤ k ∧ k < w2.heap.size) _ _ := M.own_interval (Kd.S_R ho_); have HO2 := Aside0.mk (Kd.R_lower hOI_ (below_size (by repeat (first | (with_reducible first | exact HB.out | apply below_alloc | apply pw_below_drewN | apply below_drew1) | exact HB.out)))); have HSZ2 : Aside0 (w1.heap.size ≤ w2.heap.size) := ⟨hb.size⟩; have nB_ := Aside0.mk (below_step (by repeat (first | (with_reducible first | exact HB.out | apply below_alloc | apply pw_below_drewN | apply below_drew1) | exact HB.out)) hb); clear HB; have HB := nB_; clear nB_; clear hOI_ ho_ hb; obtain ⟨B2, d2, ev_⟩ := Kd.R_slice HO2.out; subst ev_; have TK2 : Aside0 True := ⟨trivial⟩) | (have tok_ := TK2; clear TK2 tok_; go_at_call 12; refine (spec_PlacePoints.calls (k := k) (A0 := B2) (c0 := d2) (l0 := x2) (a1 := a1) (r := x3) (h := hx3.out) (hr0 := ?hr0) (hc0 := ?hc0)).mono ?_; (case hr0 => (with_reducible repeat (first | apply Kd.C_alloc | apply Kd.C_drewN | apply Kd.C_drew)); exact (Kd.R_reads' HO2.out).2.2); (case hc0 => exact (Kd.R_reads' HO2.out).2.1); rintro e w3 ⟨v_, rfl, ho_, hb⟩; have hOI_ : Kd.R (Kd.int .i64) 3 w3 w2.heap.size (fun k => w2.heap.size ≤ k ∧ k < w3.heap.size) _ _ := M.own_interval ho_; have HO3 := Aside0.mk (Kd.R_lower hOI_ (below_size (by repeat (first | (with_reducible first | exact HB.out | apply below_alloc | apply pw_below_drewN | apply below_drew1) | exact HB.out)))); have HSZ3 : Aside0 (w2.heap.size ≤ w3.heap.size) := ⟨hb.size⟩; have n_ := Aside0.mk (Kd.R_below (by (with_reducible repeat (first | apply Kd.R_alloc | apply Kd.R_drewN | apply Kd.R_drew)); exact HO2.out) hb); clear HO2; have HO2 := n_; clear n_; have nB_ := Aside0.mk (below_step (by repeat (first | (with_reducible first | exact HB.out | apply below_alloc | apply pw_below_drewN | apply below_drew1) | exact HB.out)) hb); clear HB; have HB := nB_; clear nB_; clear hOI_ ho_ hb; obtain ⟨B3, d3, ev_⟩ := Kd.R_slice HO3.out; subst ev_; clear HO2; have TK3 : Aside0 True := ⟨trivial⟩) | (have tok_ := TK3; clear TK3 tok_; go_at_call 13; refine (laws_toIntSS.calls (k := k) (A0 := A0) (c0 := c0) (l0 := l0) (r := x4) (h := hx4.out) (hr0 := ?hr0) (hc0 := ?hc0)).mono ?_; (case hr0 => exact Kd.C_below HR0.out (by repeat (first | (with_reducible first | exact HB.out | apply below_alloc | apply pw_below_drewN | apply below_drew1) | exact HB.out))); (case hc0 => exact HC0.out); rintro e w4 ⟨v_, rfl, ho_, hb⟩; have hOI_ : Kd.R (Kd.slice 3 (Kd.int .i64)) 22 w4 w3.heap.size (fun k => w3.heap.size ≤ k ∧ k < w4.heap.size) _ _ := M.own_interval (Kd.S_R ho_); have HO4 := Aside0.mk (Kd.R_lower hOI_ (below_size (by repeat (first | (with_reducible first | exact HB.out | apply below_alloc | apply pw_below_drewN | apply below_drew1) | exact HB.out)))); have HSZ4 : Aside0 (w3.heap.size ≤ w4.heap.size) := ⟨hb.size⟩; have n_ := Aside0.mk (Kd.R_below (by (with_reducible repeat (first | apply Kd.R_alloc | apply Kd.R_drewN | apply Kd.R_drew)); exact HO3.out) hb); clear HO3; have HO3 := n_; clear n_; have nB_ := Aside0.mk (below_step (by repeat (first | (with_reducible first | exact HB.out | apply below_alloc | apply pw_below_drewN | apply below_drew1) | exact HB.out)) hb); clear HB; have HB := nB_; clear nB_; clear hOI_ ho_ hb; obtain ⟨B4, d4, ev_⟩ := Kd.R_slice HO4.out; subst ev_; have TK4 : Aside0 True := ⟨trivial⟩) | (have tok_ := TK4; clear TK4 tok_; go_at_call 14; refine (impl_PlacePoints.calls (k := k) (A0 := B4) (c0 := d4) (l0 := x4) (a1 := a1) (r := x5) (h := hx5.out) (hr0 := ?hr0) (hc0 := ?hc0)).mono ?_; (case hr0 => (with_reducible repeat (first | apply Kd.C_alloc | apply Kd.C_drewN | apply Kd.C_drew)); exact (Kd.R_reads' HO4.out).2.2); (case hc0 => exact (Kd.R_reads' HO4.out).2.1); rintro e w5 ⟨v_, rfl, ho_, hb⟩; have hOI_ : Kd.R (Kd.int .i64) 3 w5 w4.heap.size (fun k => w4.heap.size ≤ k ∧ k < w5.heap.size) _ _ := M.own_interval ho_; have HO5 := Aside0.mk (Kd.R_lower hOI_ (below_size (by repeat (first | (with_reducible first | exact HB.out | apply below_alloc | apply pw_below_drewN | apply below_drew1) | exact HB.out)))); have HSZ5 : Aside0 (w4.heap.size ≤ w5.heap.size) := ⟨hb.size⟩; have n_ := Aside0.mk (Kd.R_below (by (with_reducible repeat (first | apply Kd.R_alloc | apply Kd.R_drewN | apply Kd.R_drew)); exact HO3.out) hb); clear HO3; have HO3 := n_; clear n_; have n_ := Aside0.mk (Kd.R_below (by (with_reducible repeat (first | apply Kd.R_alloc | apply Kd.R_drewN | apply Kd.R_drew)); exact HO4.out) hb); clear HO4; have HO4 := n_; clear n_; have nB_ := Aside0.mk (below_step (by repeat (first | (with_reducible first | exact HB.out | apply below_alloc | apply pw_below_drewN | apply below_drew1) | exact HB.out)) hb); clear HB; have HB := nB_; clear nB_; clear hOI_ ho_ hb; obtain ⟨B5, d5, ev_⟩ := Kd.R_slice HO5.out; subst ev_; have TK5 : Aside0 True := ⟨trivial⟩) | (have tok_ := TK5; clear TK5 tok_; go_at_call 8; refine (laws_eqIntS.calls (k := k) (A0 := B5) (c0 := d5) (l0 := x5) (A1 := B3) (c1 := d3) (l1 := x3) (r := true) (h := hx6.out) (hr0 := ?hr0) (hc0 := ?hc0) (hr1 := ?hr1) (hc1 := ?hc1)).mono ?_; (case hr0 => (with_reducible repeat (first | apply Kd.C_alloc | apply Kd.C_drewN | apply Kd.C_drew)); exact (Kd.R_reads' HO5.out).2.2); (case hc0 => exact (Kd.R_reads' HO5.out).2.1); (case hr1 => (with_reducible repeat (first | apply Kd.C_alloc | apply Kd.C_drewN | apply Kd.C_drew)); exact (Kd.R_reads' HO3.out).2.2); (case hc1 => exact (Kd.R_reads' HO3.out).2.1); rintro e w6 ⟨rfl, hd_⟩; have hb := M.drawn_below hd_; clear hd_; have HSZ6 : Aside0 (w5.heap.size ≤ w6.heap.size) := ⟨hb.size⟩; have n_ := Aside0.mk (Kd.R_below (by (with_reducible repeat (first | apply Kd.R_alloc | apply Kd.R_drewN | apply Kd.R_drew)); exact HO3.out) hb); clear HO3; have HO3 := n_; clear n_; have n_ := Aside0.mk (Kd.R_below (by (with_reducible repeat (first | apply Kd.R_alloc | apply Kd.R_drewN | apply Kd.R_drew)); exact HO4.out) hb); clear HO4; have HO4 := n_; clear n_; have n_ := Aside0.mk (Kd.R_below (by (with_reducible repeat (first | apply Kd.R_alloc | apply Kd.R_drewN | apply Kd.R_drew)); exact HO5.out) hb); clear HO5; have HO5 := n_; clear n_; have nB_ := Aside0.mk (below_step (by repeat (first | (with_reducible first | exact HB.out | apply below_alloc | apply pw_below_drewN | apply below_drew1) | exact HB.out)) hb); clear HB; have HB := nB_; clear nB_; clear hb; have TK6 : Aside0 True := ⟨trivial⟩) | (have tok_ := TK6; clear TK6 tok_; go_at_call 13; refine (laws_toIntSS.calls (k := k) (A0 := A0) (c0 := c0) (l0 := l0) (r := x7) (h := hx7.out) (hr0 := ?hr0) (hc0 := ?hc0)).mono ?_; (case hr0 => exact Kd.C_below HR0.out (by repeat (first | (with_reducible first | exact HB.out | apply below_alloc | apply pw_below_drewN | apply below_drew1) | exact HB.out))); (case hc0 => exact HC0.out); rintro e w7 ⟨v_, rfl, ho_, hb⟩; have hOI_ : Kd.R (Kd.slice 3 (Kd.int .i64)) 22 w7 w6.heap.size (fun k => w6.heap.size ≤ k ∧ k < w7.heap.size) _ _ := M.own_interval (Kd.S_R ho_); have HO7 := Aside0.mk (Kd.R_lower hOI_ (below_size (by repeat (first | (with_reducible first | exact HB.out | apply below_alloc | apply pw_below_drewN | apply below_drew1) | exact HB.out)))); have HSZ7 : Aside0 (w6.heap.size ≤ w7.heap.size) := ⟨hb.size⟩; have n_ := Aside0.mk (Kd.R_below (by (with_reducible repeat (first | apply Kd.R_alloc | apply Kd.R_drewN | apply Kd.R_drew)); exact HO3.out) hb); clear HO3; have HO3 := n_; clear n_; have n_ := Aside0.mk (Kd.R_below (by (with_reducible repeat (first | apply Kd.R_alloc | apply Kd.R_drewN | apply Kd.R_drew)); exact HO4.out) hb); clear HO4; have HO4 := n_; clear n_; have n_ := Aside0.mk (Kd.R_below (by (with_reducible repeat (first | apply Kd.R_alloc | apply Kd.R_drewN | apply Kd.R_drew)); exact HO5.out) hb); clear HO5; have HO5 := n_; clear n_; have nB_ := Aside0.mk (below_step (by repeat (first | (with_reducible first | exact HB.out | apply below_alloc | apply pw_below_drewN | apply below_drew1) | exact HB.out)) hb); clear HB; have HB := nB_; clear nB_; clear hOI_ ho_ hb; obtain ⟨B7, d7, ev_⟩ := Kd.R_slice HO7.out; subst ev_; have TK7 : Aside0 True := ⟨trivial⟩) | (have tok_ := TK7; clear TK7 tok_; go_at_call 15; refine (laws_eqIntSS.calls (k := k) (A0 := B4) (c0 := d4) (l0 := x4) (A1 := B7) (c1 := d7) (l1 := x7) (r := true) (h := hx8.out) (hr0 := ?hr0) (hc0 := ?hc0) (hr1 := ?hr1) (hc1 := ?hc1)).mono ?_; (case hr0 => (with_reducible repeat (first | apply Kd.C_alloc | apply Kd.C_drewN | apply Kd.C_drew)); exact (Kd.R_reads' HO4.out).2.2); (case hc0 => exact (Kd.R_reads' HO4.out).2.1); (case hr1 => (with_reducible repeat (first | apply Kd.C_alloc | apply Kd.C_drewN | apply Kd.C_drew)); exact (Kd.R_reads' HO7.out).2.2); (case hc1 => exact (Kd.R_reads' HO7.out).2.1); rintro e w8 ⟨rfl, hd_⟩; have hb := M.drawn_below hd_; clear hd_; have HSZ8 : Aside0 (w7.heap.size ≤ w8.heap.size) := ⟨hb.size⟩; have n_ := Aside0.mk (Kd.R_below (by (with_reducible repeat (first | apply Kd.R_alloc | apply Kd.R_drewN | apply Kd.R_drew)); exact HO3.out) hb); clear HO3; have HO3 := n_; clear n_; have n_ := Aside0.mk (Kd.R_below (by (with_reducible repeat (first | apply Kd.R_alloc | apply Kd.R_drewN | apply Kd.R_drew)); exact HO4.out) hb); clear HO4; have HO4 := n_; clear n_; have n_ := Aside0.mk (Kd.R_below (by (with_reducible repeat (first | apply Kd.R_alloc | apply Kd.R_drewN | apply Kd.R_drew)); exact HO5.out) hb); clear HO5; have HO5 := n_; clear n_; have n_ := Aside0.mk (Kd.R_below (by (with_reducible repeat (first | apply Kd.R_alloc | apply Kd.R_drewN | apply Kd.R_drew)); exact HO7.out) hb); clear HO7; have HO7 := n_; clear n_; have nB_ := Aside0.mk (below_step (by repeat (first | (with_reducible first | exact HB.out | apply below_alloc | apply pw_below_drewN | apply below_drew1) | exact HB.out)) hb); clear HB; have HB := nB_; clear nB_; clear hb; clear HO7; have TK8 : Aside0 True := ⟨trivial⟩) | (have tok_ := TK8; clear TK8 tok_; go_at_call 16; refine (M.markRows (e := 22) (base := w.heap.size) (fun k => w3.heap.size ≤ k ∧ k < w4.heap.size) B4 d4 x4 1 _ ?q1 ?q1b ?q1c ?q2 ?q3).mono ?_; (case q1 => exact (by (with_reducible repeat (first | apply Kd.R_alloc | apply Kd.R_drewN | apply Kd.R_drew)); exact HO4.out)); (case q1b => exact HTK9.out.1.1); (case q1c => exact HTK9.out.1.2); (case q2 => omega); (case q3 => have := HTK9.out.2; omega); rintro e w9 ⟨he_, hm_⟩; rw [← HKK9.out] at he_; subst he_; have n_ := Aside0.mk (Kd.R_kept (by (with_reducible repeat (first | apply Kd.R_alloc | apply Kd.R_drewN | apply Kd.R_drew)); exact HO3.out) hm_.kept (fun k h1 h2 => by obtain ⟨h1a, h1b⟩ := h1; obtain ⟨h2a, h2b⟩ := h2; have := HSZ1.out; have := HSZ2.out; have := HSZ3.out; have := HSZ4.out; have := HSZ5.out; have := HSZ6.out; have := HSZ7.out; have := HSZ8.out; omega)); clear HO3; have HO3 := n_; clear n_; have n_ := Aside0.mk (Kd.R_kept (by (with_reducible repeat (first | apply Kd.R_alloc | apply Kd.R_drewN | apply Kd.R_drew)); exact HO5.out) hm_.kept (fun k h1 h2 => by obtain ⟨h1a, h1b⟩ := h1; obtain ⟨h2a, h2b⟩ := h2; have := HSZ1.out; have := HSZ2.out; have := HSZ3.out; have := HSZ4.out; have := HSZ5.out; have := HSZ6.out; have := HSZ7.out; have := HSZ8.out; omega)); clear HO5; have HO5 := n_; clear n_; have nB_ := Aside0.mk (M.MI.below hm_ (by repeat (first | (with_reducible first | exact HB.out | apply below_alloc | apply pw_below_drewN | apply below_drew1) | exact HB.out)) (fun k hk => by have := hk.1; have := HSZ1.out; have := HSZ2.out; have := HSZ3.out; have := HSZ4.out; have := HSZ5.out; have := HSZ6.out; have := HSZ7.out; have := HSZ8.out; omega)); clear HB; have HB := nB_; clear nB_ HO4; have HSZ9 : Aside0 (w8.heap.size ≤ w9.heap.size) := ⟨hm_.size⟩; clear hm_; have TK9 : Aside0 True := ⟨trivial⟩) | (have tok_ := TK9; clear TK9 tok_; go_at_call 8; refine (laws_eqIntS.calls (k := k) (A0 := B5) (c0 := d5) (l0 := x5) (A1 := B3) (c1 := d3) (l1 := x3) (r := true) (h := hx10.out) (hr0 := ?hr0) (hc0 := ?hc0) (hr1 := ?hr1) (hc1 := ?hc1)).mono ?_; (case hr0 => (with_reducible repeat (first | apply Kd.C_alloc | apply Kd.C_drewN | apply Kd.C_drew)); exact (Kd.R_reads' HO5.out).2.2); (case hc0 => exact (Kd.R_reads' HO5.out).2.1); (case hr1 => (with_reducible repeat (first | apply Kd.C_alloc | apply Kd.C_drewN | apply Kd.C_drew)); exact (Kd.R_reads' HO3.out).2.2); (case hc1 => exact (Kd.R_reads' HO3.out).2.1); rintro e w10 ⟨rfl, hd_⟩; have hb := M.drawn_below hd_; clear hd_; have HSZ10 : Aside0 (w9.heap.size ≤ w10.heap.size) := ⟨hb.size⟩; have n_ := Aside0.mk (Kd.R_below (by (with_reducible repeat (first | apply Kd.R_alloc | apply Kd.R_drewN | apply Kd.R_drew)); exact HO3.out) hb); clear HO3; have HO3 := n_; clear n_; have n_ := Aside0.mk (Kd.R_below (by (with_reducible repeat (first | apply Kd.R_alloc | apply Kd.R_drewN | apply Kd.R_drew)); exact HO5.out) hb); clear HO5; have HO5 := n_; clear n_; have nB_ := Aside0.mk (below_step (by repeat (first | (with_reducible first | exact HB.out | apply below_alloc | apply pw_below_drewN | apply below_drew1) | exact HB.out)) hb); clear HB; have HB := nB_; clear nB_; clear hb; have TK10 : Aside0 True := ⟨trivial⟩) | (have tok_ := TK10; clear TK10 tok_; go_at_call 9; refine (laws_markIntS.calls (k := k) (P0_ := fun k => w4.heap.size ≤ k ∧ k < w5.heap.size) (u9000_ := .slice B5 x5.length d5) (l0 := x5) (a1 := 1) (r1 := m11) (r2 := y11) (w0 := w) (h := hx11.out) (hB := ?q1) (ho0 := ?q2)).mono ?_; (case q1 => exact (by repeat (first | (with_reducible first | exact HB.out | apply below_alloc | apply pw_below_drewN | apply below_drew1) | exact HB.out))); (case q2 => (with_reducible repeat (first | apply Kd.R_alloc | apply Kd.R_drewN | apply Kd.R_drew)); exact HO5.out); rintro e w11 ⟨rfl, ho_, hb_, hk_⟩; have n_ := Aside0.mk (Kd.R_kept (by (with_reducible repeat (first | apply Kd.R_alloc | apply Kd.R_drewN | apply Kd.R_drew)); exact HO3.out) hk_ (fun k h1 h2 => by obtain ⟨h1a, h1b⟩ := h1; obtain ⟨h2a, h2b⟩ := h2; have := HSZ1.out; have := HSZ2.out; have := HSZ3.out; have := HSZ4.out; have := HSZ5.out; have := HSZ6.out; have := HSZ7.out; have := HSZ8.out; have := HSZ9.out; have := HSZ10.out; omega)); clear HO3; have HO3 := n_; clear n_; clear HO5; have HO5 := Aside0.mk ho_; have el_ : x5.length = y11.length := (Kd.R_reads' ho_).1; clear HB; have HB := Aside0.mk hb_; have HSZ11 : Aside0 (w10.heap.size ≤ w11.heap.size) := ⟨hk_.1⟩; clear ho_ hb_ hk_; rw [el_]; rw [el_] at HO5; clear el_; have TK11 : Aside0 True := ⟨trivial⟩) | (have tok_ := TK11; clear TK11 tok_; go_at_call 10; refine (laws_heldIntS.calls (k := k) (A0 := B5) (c0 := d5) (l0 := y11) (a1 := 1) (r := m11) (h := hx12.out) (hr0 := ?hr0) (hc0 := ?hc0)).mono ?_; (case hr0 => (with_reducible repeat (first | apply Kd.C_alloc | apply Kd.C_drewN | apply Kd.C_drew)); exact (Kd.R_reads' HO5.out).2.2); (case hc0 => exact (Kd.R_reads' HO5.out).2.1); rintro e w12 ⟨rfl, hd_⟩; have hb := M.drawn_below hd_; clear hd_; have HSZ12 : Aside0 (w11.heap.size ≤ w12.heap.size) := ⟨hb.size⟩; have n_ := Aside0.mk (Kd.R_below (by (with_reducible repeat (first | apply Kd.R_alloc | apply Kd.R_drewN | apply Kd.R_drew)); exact HO3.out) hb); clear HO3; have HO3 := n_; clear n_; have n_ := Aside0.mk (Kd.R_below (by (with_reducible repeat (first | apply Kd.R_alloc | apply Kd.R_drewN | apply Kd.R_drew)); exact HO5.out) hb); clear HO5; have HO5 := n_; clear n_; have nB_ := Aside0.mk (below_step (by repeat (first | (with_reducible first | exact HB.out | apply below_alloc | apply pw_below_drewN | apply below_drew1) | exact HB.out)) hb); clear HB; have HB := nB_; clear nB_; clear hb; have TK12 : Aside0 True := ⟨trivial⟩) | (have tok_ := TK12; clear TK12 tok_; go_at_call 13; refine (laws_toIntSS.calls (k := k) (A0 := A0) (c0 := c0) (l0 := l0) (r := x13) (h := hx13.out) (hr0 := ?hr0) (hc0 := ?hc0)).mono ?_; (case hr0 => exact Kd.C_below HR0.out (by repeat (first | (with_reducible first | exact HB.out | apply below_alloc | apply pw_below_drewN | apply below_drew1) | exact HB.out))); (case hc0 => exact HC0.out); rintro e w13 ⟨v_, rfl, ho_, hb⟩; have hOI_ : Kd.R (Kd.slice 3 (Kd.int .i64)) 22 w13 w12.heap.size (fun k => w12.heap.size ≤ k ∧ k < w13.heap.size) _ _ := M.own_interval (Kd.S_R ho_); have HO13 := Aside0.mk (Kd.R_lower hOI_ (below_size (by repeat (first | (with_reducible first | exact HB.out | apply below_alloc | apply pw_below_drewN | apply below_drew1) | exact HB.out)))); have HSZ13 : Aside0 (w12.heap.size ≤ w13.heap.size) := ⟨hb.size⟩; have n_ := Aside0.mk (Kd.R_below (by (with_reducible repeat (first | apply Kd.R_alloc | apply Kd.R_drewN | apply Kd.R_drew)); exact HO3.out) hb); clear HO3; have HO3 := n_; clear n_; have n_ := Aside0.mk (Kd.R_below (by (with_reducible repeat (first | apply Kd.R_alloc | apply Kd.R_drewN | apply Kd.R_drew)); exact HO5.out) hb); clear HO5; have HO5 := n_; clear n_; have nB_ := Aside0.mk (below_step (by repeat (first | (with_reducible first | exact HB.out | apply below_alloc | apply pw_below_drewN | apply below_drew1) | exact HB.out)) hb); clear HB; have HB := nB_; clear nB_; clear hOI_ ho_ hb; obtain ⟨B13, d13, ev_⟩ := Kd.R_slice HO13.out; subst ev_; have TK13 : Aside0 True := ⟨trivial⟩) | (have tok_ := TK13; clear TK13 tok_; go_at_call 14; refine (impl_PlacePoints.calls (k := k) (A0 := B13) (c0 := d13) (l0 := x13) (a1 := a1) (r := x14) (h := hx14.out) (hr0 := ?hr0) (hc0 := ?hc0)).mono ?_; (case hr0 => (with_reducible repeat (first | apply Kd.C_alloc | apply Kd.C_drewN | apply Kd.C_drew)); exact (Kd.R_reads' HO13.out).2.2); (case hc0 => exact (Kd.R_reads' HO13.out).2.1); rintro e w14 ⟨v_, rfl, ho_, hb⟩; have hOI_ : Kd.R (Kd.int .i64) 3 w14 w13.heap.size (fun k => w13.heap.size ≤ k ∧ k < w14.heap.size) _ _ := M.own_interval ho_; have HO14 := Aside0.mk (Kd.R_lower hOI_ (below_size (by repeat (first | (with_reducible first | exact HB.out | apply below_alloc | apply pw_below_drewN | apply below_drew1) | exact HB.out)))); have HSZ14 : Aside0 (w13.heap.size ≤ w14.heap.size) := ⟨hb.size⟩; have n_ := Aside0.mk (Kd.R_below (by (with_reducible repeat (first | apply Kd.R_alloc | apply Kd.R_drewN | apply Kd.R_drew)); exact HO3.out) hb); clear HO3; have HO3 := n_; clear n_; have n_ := Aside0.mk (Kd.R_below (by (with_reducible repeat (first | apply Kd.R_alloc | apply Kd.R_drewN | apply Kd.R_drew)); exact HO5.out) hb); clear HO5; have HO5 := n_; clear n_; have n_ := Aside0.mk (Kd.R_below (by (with_reducible repeat (first | apply Kd.R_alloc | apply Kd.R_drewN | apply Kd.R_drew)); exact HO13.out) hb); clear HO13; have HO13 := n_; clear n_; have nB_ := Aside0.mk (below_step (by repeat (first | (with_reducible first | exact HB.out | apply below_alloc | apply pw_below_drewN | apply below_drew1) | exact HB.out)) hb); clear HB; have HB := nB_; clear nB_; clear hOI_ ho_ hb; obtain ⟨B14, d14, ev_⟩ := Kd.R_slice HO14.out; subst ev_; clear HO13; have TK14 : Aside0 True := ⟨trivial⟩) | (have tok_ := TK14; clear TK14 tok_; go_at_call 8; refine (laws_eqIntS.calls (k := k) (A0 := B14) (c0 := d14) (l0 := x14) (A1 := B3) (c1 := d3) (l1 := x3) (r := true) (h := hx15.out) (hr0 := ?hr0) (hc0 := ?hc0) (hr1 := ?hr1) (hc1 := ?hc1)).mono ?_; (case hr0 => (with_reducible repeat (first | apply Kd.C_alloc | apply Kd.C_drewN | apply Kd.C_drew)); exact (Kd.R_reads' HO14.out).2.2); (case hc0 => exact (Kd.R_reads' HO14.out).2.1); (case hr1 => (with_reducible repeat (first | apply Kd.C_alloc | apply Kd.C_drewN | apply Kd.C_drew)); exact (Kd.R_reads' HO3.out).2.2); (case hc1 => exact (Kd.R_reads' HO3.out).2.1); rintro e w15 ⟨rfl, hd_⟩; have hb := M.drawn_below hd_; clear hd_; have HSZ15 : Aside0 (w14.heap.size ≤ w15.heap.size) := ⟨hb.size⟩; have n_ := Aside0.mk (Kd.R_below (by (with_reducible repeat (first | apply Kd.R_alloc | apply Kd.R_drewN | apply Kd.R_drew)); exact HO3.out) hb); clear HO3; have HO3 := n_; clear n_; have n_ := Aside0.mk (Kd.R_below (by (with_reducible repeat (first | apply Kd.R_alloc | apply Kd.R_drewN | apply Kd.R_drew)); exact HO5.out) hb); clear HO5; have HO5 := n_; clear n_; have n_ := Aside0.mk (Kd.R_below (by (with_reducible repeat (first | apply Kd.R_alloc | apply Kd.R_drewN | apply Kd.R_drew)); exact HO14.out) hb); clear HO14; have HO14 := n_; clear n_; have nB_ := Aside0.mk (below_step (by repeat (first | (with_reducible first | exact HB.out | apply below_alloc | apply pw_below_drewN | apply below_drew1) | exact HB.out)) hb); clear HB; have HB := nB_; clear nB_; clear hb; clear HO3 HO14; have TK15 : Aside0 True := ⟨trivial⟩) | (have tok_ := TK15; clear TK15 tok_; go_at_call 10; refine (laws_heldIntS.calls (k := k) (A0 := B5) (c0 := d5) (l0 := y11) (a1 := 1) (r := m11) (h := hx16.out) (hr0 := ?hr0) (hc0 := ?hc0)).mono ?_; (case hr0 => (with_reducible repeat (first | apply Kd.C_alloc | apply Kd.C_drewN | apply Kd.C_drew)); exact (Kd.R_reads' HO5.out).2.2); (case hc0 => exact (Kd.R_reads' HO5.out).2.1); rintro e w16 ⟨rfl, hd_⟩; have hb := M.drawn_below hd_; clear hd_; have HSZ16 : Aside0 (w15.heap.size ≤ w16.heap.size) := ⟨hb.size⟩; have n_ := Aside0.mk (Kd.R_below (by (with_reducible repeat (first | apply Kd.R_alloc | apply Kd.R_drewN | apply Kd.R_drew)); exact HO5.out) hb); clear HO5; have HO5 := n_; clear n_; have nB_ := Aside0.mk (below_step (by repeat (first | (with_reducible first | exact HB.out | apply below_alloc | apply pw_below_drewN | apply below_drew1) | exact HB.out)) hb); clear HB; have HB := nB_; clear nB_; clear hb; clear HO5; have TK16 : Aside0 True := ⟨trivial⟩))
  go_ret
  exact ⟨rfl, (by repeat (first | (with_reducible first | exact HB.out | apply below_alloc | apply pw_below_drewN | apply below_drew1) | exact HB.out))⟩
end Go.Proofs.Ytjmgdjelnlambaa.A
end

section
set_option linter.unusedVariables false
namespace Go.Proofs.Ytjmgdjelnlambaa.Open
open Go.ChangeShapes Go.WideShapes Go.Deep Go.RowKit Go.Proofs.YtjmgdjelnlambaaW.PrintWords
def Opn (P : Program) (t : TypeId) {α : Type} (d : Kd α) : Prop :=
  ∀ (H : Type) (enc : TypeId × Value → H) (w : World) (base : Nat) (spare : Nat → Bool) (held : Bool) (fuel : Nat) (cs : List Value) (y : DataW H × List MemPlace),
    DataW.trod enc P w base spare held fuel t cs = some y → ∃ x : α, d.K w x cs
def OpnL (P : Program) (fs : List Field) {α : Type} (d : Kd α) : Prop :=
  ∀ (H : Type) (enc : TypeId × Value → H) (w : World) (base : Nat) (spare : Nat → Bool) (held : Bool) (cs : List Value), cs.length = fs.length →
    (∀ (j : Nat) (f : Field) (c : Value), fs[j]? = some f → cs[j]? = some c → ∃ (n : Nat) (y : DataW H × List MemPlace), DataW.trod enc P w base spare held n f.type [c] = some y) → ∃ x : α, d.K w x cs
theorem opn_int {P : Program} {t : TypeId} {k : IntKind} (ht : P.underlying t = some (.int k)) : Opn P t (Kd.int k) := by
  intro H enc w base spare held fuel cs y h
  obtain ⟨n, rfl, _⟩ := DataW.trod_int ht h
  exact ⟨n, rfl⟩
theorem list_of {α : Type} {p : Nat → α → Prop} : ∀ n, (∀ i, i < n → ∃ x, p i x) → ∃ l : List α, l.length = n ∧ ∀ i x, l[i]? = some x → p i x
  | 0, _ => ⟨[], rfl, fun i x h => by simp at h⟩
  | n + 1, h => by
    obtain ⟨l, hl, hp⟩ := list_of n (fun i hi => h i (by omega))
    obtain ⟨x, hx⟩ := h n (by omega)
    refine ⟨l ++ [x], by simp [hl], fun i y hy => ?_⟩
    rcases Nat.lt_or_ge i l.length with hi | hi
    · rw [List.getElem?_append_left hi] at hy
      exact hp i y hy
    · have hi' : i = l.length := by
        have := (List.getElem?_eq_some_iff.1 hy).1
        rw [List.length_append, List.length_singleton] at this
        omega
      subst hi'
      have : x = y := by simpa using hy
      subst this
      rw [hl]
      exact hx
theorem opn_slice {P : Program} {t e : TypeId} {α : Type} {d : Kd α} (ht : P.underlying t = some (.slice e)) (hC : P.cellsOf e = d.sz) (he : Opn P e d) : Opn P t (Kd.slice e d) := by
  intro H enc w base spare held fuel cs y h
  rcases open_slice ht h with ⟨rfl, _⟩ | ⟨a, len, cap, m, n, D, Pl, rfl, hb, hl, hm, hmm, hx, hi⟩
  · exact ⟨[], none, 0, rfl, Nat.le_refl _, rfl, by simp, fun h => absurd h (by simp)⟩
  · have hlm : len ≤ m := by rw [hmm]; split <;> omega
    obtain ⟨xs, hxl, hp⟩ := list_of (p := fun i x => ∃ cs', w.cells? base (a.add (i * P.cellsOf e)) (P.cellsOf e) = some cs' ∧ d.K w x cs') len (fun i hil => by
      obtain ⟨cs', h1, h2⟩ := hi i (by omega)
      obtain ⟨x, hx⟩ := he H enc w base spare held n cs' _ h2
      exact ⟨x, cs', h1, hx⟩)
    refine ⟨xs, some a, cap, by rw [hxl], by omega, rfl, by unfold maxLen at hm; omega, fun _ => ⟨a, rfl, fun j p hj => ?_⟩⟩
    obtain ⟨cs', hc, hk⟩ := hp j p hj
    obtain ⟨_, hcl, hat⟩ := World.cells?_some hc
    refine ⟨cs', d.K_len hk, hk, fun i u hu => ?_⟩
    have hil : i < cs'.length := (List.getElem?_eq_some_iff.1 hu).1
    have := hat i (by omega)
    rw [Go.Deep.add_add, hC] at this
    rw [this]
    exact hu
theorem opened {H : Type} {enc : TypeId × Value → H} {P : Program} {W : World} {base : Nat} {spare : Nat → Bool} {held : Bool} {t e : TypeId} {α : Type} {d : Kd α} (h : Opn P t (Kd.slice e d)) {a : Option Addr} {len cap : Nat} {dd : DataW H} {ps : List MemPlace}
    (ht : DataW.Trod enc P W base spare held t (.slice a len cap) dd ps) : ∃ l : List α, l.length = len ∧ l.length ≤ cap ∧ d.C W a l.length l := by
  obtain ⟨fuel, hf⟩ := ht
  obtain ⟨l, A, c, he, hl, hc⟩ := h H enc W base spare held fuel _ _ hf
  simp [Value.cells] at he
  obtain ⟨rfl, rfl, rfl⟩ := he
  exact ⟨l, rfl, hl, hc⟩
theorem C_mem {α : Type} {d : Kd α} {w : World} {A : Option Addr} {n : Nat} {xs : List α} (h : d.C w A n xs) (x : α) (hx : x ∈ xs) : ∃ c, d.K w x c := by
  obtain ⟨j, hj, rfl⟩ := List.mem_iff_getElem.1 hx
  have h0 : 0 < n := by have := h.1; omega
  obtain ⟨ad, _, hc⟩ := h.2.2 h0
  obtain ⟨c, _, hk, _⟩ := hc j _ (List.getElem?_eq_getElem hj)
  exact ⟨c, hk⟩
end Go.Proofs.Ytjmgdjelnlambaa.Open
end

section
set_option linter.unusedVariables false
set_option linter.unusedSimpArgs false
namespace Go.Proofs.Ytjmgdjelnlambaa.L
open Go Go.RowKit Go.Proofs.YtjmgdjelnlambaaW.PrintWords
theorem Ev.pos {α : Type} {c : Prop} [Decidable c] {A B : Nat → Option α} {r : α} (h : c) (k : Ev A r) : Ev (fun k => if c then A k else B k) r := by
  obtain ⟨K, k⟩ := k
  exact ⟨K, fun n hn => by show (if c then A n else B n) = some r; rw [if_pos h]; exact k n hn⟩
theorem Ev.neg {α : Type} {c : Prop} [Decidable c] {A B : Nat → Option α} {r : α} (h : ¬ c) (k : Ev B r) : Ev (fun k => if c then A k else B k) r := by
  obtain ⟨K, k⟩ := k
  exact ⟨K, fun n hn => by show (if c then A n else B n) = some r; rw [if_neg h]; exact k n hn⟩
theorem Ev.ite {α : Type} {c : Prop} [Decidable c] {A B : Nat → Option α} {r : α} (h : c → Ev A r) (k : ¬ c → Ev B r) : Ev (fun k => if c then A k else B k) r := by
  by_cases e : c
  · exact Ev.pos e (h e)
  · exact Ev.neg e (k e)
theorem Ev.cast {α : Type} {g : Nat → Option α} {r r' : α} (h : Ev g r) (e : r = r') : Ev g r' := e ▸ h
theorem Ev.bnd {α β : Type} {o : Option α} {a : α} {f : Nat → α → Option β} {r : β} (h : o = some a) (k : Ev (fun n => f n a) r) : Ev (fun n => o.bind (f n)) r := by
  obtain ⟨K, k⟩ := k
  exact ⟨K, fun n hn => by show o.bind (f n) = some r; rw [h]; exact k n hn⟩
theorem Ev.some_ {α : Type} {r r' : α} (h : r = r') : Ev (fun _ => some r) r' := h ▸ Ev.now r
theorem w64 {x : Int} (h0 : -9223372036854775808 ≤ x) (h1 : x ≤ 9223372036854775807) : wrap64 x = x := by
  unfold wrap64
  omega
theorem w64s {n : Nat} (h : n < 4611686018427387904) : wrap64 ((n : Int) + 1) = ((n + 1 : Nat) : Int) := by
  unfold wrap64
  omega
theorem rd_at {l : List Int} {n : Nat} (h : n < l.length) : rd l (n : Int) = l[n] := by
  simp [rd, h]
def inR (a b c : Int) : Bool := decide (b ≤ a ∧ a ≤ c)
theorem inR_iff {a b c : Int} : inR a b c = true ↔ b ≤ a ∧ a ≤ c := by simp [inR]
theorem take_snoc {α : Type} (l : List α) (n : Nat) (h : n < l.length) : l.take (n + 1) = l.take n ++ [l[n]] := by
  rw [List.take_succ_eq_append_getElem h]
end Go.Proofs.Ytjmgdjelnlambaa.L
end

section
set_option linter.unusedVariables false
set_option linter.unusedSimpArgs false
namespace Go.Proofs.Ytjmgdjelnlambaa.L
open Go Go.RowKit Go.Proofs.Ytjmgdjelnlambaa.A Go.Proofs.YtjmgdjelnlambaaW.PrintWords
theorem l1In_eq (a b c : Int) : spec_l1In.f a b c = some (inR a b c) := by
  unfold spec_l1In.f inR
  by_cases h : a ≥ b
  · rw [if_pos h]; congr 1; simp; omega
  · rw [if_neg h]; congr 1; simp; omega
end Go.Proofs.Ytjmgdjelnlambaa.L
end

section
set_option linter.unusedVariables false
set_option linter.unusedSimpArgs false
namespace Go.Proofs.Ytjmgdjelnlambaa.L
open Go Go.RowKit Go.Proofs.Ytjmgdjelnlambaa.A Go.Proofs.YtjmgdjelnlambaaW.PrintWords
theorem InRange_eq (a b c : Int) : impl_InRange.f a b c = some (inR a b c) := by
  unfold impl_InRange.f inR
  by_cases h : b ≤ a
  · rw [if_pos h]; congr 1; simp; omega
  · rw [if_neg h]; congr 1; simp; omega
end Go.Proofs.Ytjmgdjelnlambaa.L
end

section
set_option linter.unusedVariables false
set_option linter.unusedSimpArgs false
namespace Go.Proofs.Ytjmgdjelnlambaa.L
open Go Go.RowKit Go.Proofs.Ytjmgdjelnlambaa.A Go.Proofs.YtjmgdjelnlambaaW.PrintWords
theorem l4Has_l0 (l : List Int) (x : Int) (hl : l.length ≤ 1099511627776) : ∀ (d n : Nat), n + d = l.length → Ev (fun k => spec_l4Has.l0 k l x (n : Int)) (decide (x ∈ l.drop n)) := by
  intro d
  induction d with
  | zero =>
    intro n hd
    refine Ev.step (fun k => spec_l4Has.l0.eq_2 ..) ?_
    refine Ev.neg (by omega) (Ev.some_ ?_)
    rw [List.drop_eq_nil_of_le (by omega)]
    simp
  | succ d ih =>
    intro n hd
    refine Ev.step (fun k => spec_l4Has.l0.eq_2 ..) ?_
    refine Ev.pos (by omega) (Ev.pos (by omega) ?_)
    simp only [w64s (show n < 4611686018427387904 by omega), rd_at (show n < l.length by omega)]
    have h1 := ih (n + 1) (by omega)
    rw [List.drop_eq_getElem_cons (show n < l.length by omega)]
    generalize l.drop (n + 1) = u at h1 ⊢
    refine Ev.ite (fun h => Ev.some_ ?_) (fun h => Ev.cast h1 ?_)
    · simp [h]
    · have h' : ¬ x = l[n] := fun e => h e.symm
      simp [h']
theorem l4Has_ev (l : List Int) (x : Int) (hl : l.length ≤ 1099511627776) : Ev (fun k => spec_l4Has.f k l x) (decide (x ∈ l)) := by
  unfold spec_l4Has.f
  exact Ev.cast (l4Has_l0 l x hl l.length 0 (by omega)) (by simp)
end Go.Proofs.Ytjmgdjelnlambaa.L
end

section
set_option linter.unusedVariables false
set_option linter.unusedSimpArgs false
namespace Go.Proofs.Ytjmgdjelnlambaa.L
open Go Go.RowKit Go.Proofs.Ytjmgdjelnlambaa.A Go.Proofs.YtjmgdjelnlambaaW.PrintWords
theorem Index_l0 (l : List Int) (x : Int) (hl : l.length ≤ 1099511627776) : ∀ (d n : Nat), n + d = l.length → Ev (fun k => slices_Index_int_int.l0 k l x (l.length : Int) (n : Int)) (if x ∈ l.drop n then ((n + (l.drop n).idxOf x : Nat) : Int) else -1) := by
  intro d
  induction d with
  | zero =>
    intro n hd
    refine Ev.step (fun k => slices_Index_int_int.l0.eq_2 ..) ?_
    refine Ev.neg (by omega) (Ev.some_ ?_)
    rw [List.drop_eq_nil_of_le (by omega)]
    simp
  | succ d ih =>
    intro n hd
    refine Ev.step (fun k => slices_Index_int_int.l0.eq_2 ..) ?_
    refine Ev.pos (by omega) (Ev.pos (by omega) (Ev.pos (by omega) ?_))
    simp only [w64s (show n < 4611686018427387904 by omega), rd_at (show n < l.length by omega)]
    have h1 := ih (n + 1) (by omega)
    rw [List.drop_eq_getElem_cons (show n < l.length by omega)]
    generalize l.drop (n + 1) = u at h1 ⊢
    refine Ev.ite (fun h => Ev.some_ ?_) (fun h => Ev.cast h1 ?_)
    · simp [h]
    · have h' : ¬ l[n] = x := fun e => h e.symm
      simp only [List.mem_cons, h, false_or, List.idxOf_cons, beq_eq_false_iff_ne.2 h']
      split
      · simp; omega
      · rfl
def idx (l : List Int) (x : Int) : Int := if x ∈ l then (l.idxOf x : Int) else -1
theorem Index_ev (l : List Int) (x : Int) (hl : l.length ≤ 1099511627776) : Ev (fun k => slices_Index_int_int.f k l x) (idx l x) := by
  unfold slices_Index_int_int.f
  refine Ev.cast (Index_l0 l x hl l.length 0 (by omega)) ?_
  simp [idx]
theorem Contains_ev (l : List Int) (x : Int) (hl : l.length ≤ 1099511627776) : Ev (fun k => slices_Contains_int_int.f k l x) (decide (x ∈ l)) := by
  unfold slices_Contains_int_int.f
  refine Ev.bind (Index_ev l x hl) (Ev.some_ ?_)
  unfold idx
  by_cases h : x ∈ l
  · simp [h]
  · simp [h]
end Go.Proofs.Ytjmgdjelnlambaa.L
end

section
set_option linter.unusedVariables false
set_option linter.unusedSimpArgs false
namespace Go.Proofs.Ytjmgdjelnlambaa.L
open Go Go.RowKit Go.Proofs.Ytjmgdjelnlambaa.A Go.Proofs.YtjmgdjelnlambaaW.PrintWords
theorem perm_of_sub : ∀ (r l : List Int), r.Nodup → (∀ x ∈ r, x ∈ l) → l.length ≤ r.length → r.Perm l
  | [], l, _, _, h => by
    obtain rfl : l = [] := List.eq_nil_of_length_eq_zero (by simpa using h)
    exact List.Perm.refl _
  | x :: r, l, hn, hs, h => by
    have hx : x ∈ l := hs x (by simp)
    have hp := List.perm_cons_erase hx
    have hn' := List.nodup_cons.1 hn
    have h1 : (l.erase x).length = l.length - 1 := List.length_erase_of_mem hx
    refine (List.Perm.cons x (perm_of_sub r (l.erase x) hn'.2 (fun y hy => ?_) ?_)).trans hp.symm
    · have : y ≠ x := fun e => hn'.1 (e ▸ hy)
      exact (List.mem_erase_of_ne this).2 (hs y (by simp [hy]))
    · simp only [List.length_cons] at h
      omega
def upto (n : Nat) : List Int := (List.range n).map fun (i : Nat) => (i : Int)
theorem upto_length (n : Nat) : (upto n).length = n := by simp [upto]
theorem mem_upto {n : Nat} {x : Int} : x ∈ upto n ↔ 0 ≤ x ∧ x < n := by
  simp only [upto, List.mem_map, List.mem_range]
  constructor
  · rintro ⟨i, hi, rfl⟩
    omega
  · rintro ⟨h0, h1⟩
    exact ⟨x.toNat, by omega, by omega⟩
theorem upto_nodup (n : Nat) : (upto n).Nodup := by
  unfold upto
  refine List.Pairwise.map _ (fun a b h => ?_) List.nodup_range
  intro e
  exact h (by omega)
def isRank (l : List Int) (n : Int) : Bool := inR n 1 8 && decide ((l.length : Int) = n) && (upto n.toNat).all fun c => decide (c ∈ l)
theorem isRank_iff {l : List Int} {n : Int} : isRank l n = true ↔ (1 ≤ n ∧ n ≤ 8) ∧ (l.length : Int) = n ∧ l.Perm (upto n.toNat) := by
  simp only [isRank, Bool.and_eq_true, decide_eq_true_eq, inR_iff, List.all_eq_true]
  constructor
  · rintro ⟨⟨h, h1⟩, h2⟩
    exact ⟨h, h1, (perm_of_sub _ l (upto_nodup _) h2 (by rw [upto_length]; omega)).symm⟩
  · rintro ⟨h, h1, h2⟩
    exact ⟨⟨h, h1⟩, fun c hc => h2.symm.subset hc⟩
def rankF (n : Int) (p : List Int) : List Int → Bool
  | [] => true
  | x :: t => inR x 0 (n - 1) && !(decide (x ∈ p)) && rankF n (p ++ [x]) t
theorem rankF_iff (n : Int) : ∀ (t p : List Int), rankF n p t = true ↔ (∀ x ∈ t, 0 ≤ x ∧ x ≤ n - 1) ∧ t.Nodup ∧ ∀ x ∈ t, x ∉ p
  | [], p => by simp [rankF]
  | x :: t, p => by
    simp only [rankF, Bool.and_eq_true, inR_iff, Bool.not_eq_true', decide_eq_false_iff_not, rankF_iff n t, List.nodup_cons, List.mem_cons, List.mem_append, List.not_mem_nil, or_false, forall_eq_or_imp, not_or]
    constructor
    · rintro ⟨⟨h0, h1⟩, h2, h3, h4⟩
      exact ⟨⟨h0, h2⟩, ⟨fun hx => (h4 x hx).2 rfl, h3⟩, h1, fun y hy => (h4 y hy).1⟩
    · rintro ⟨⟨h0, h2⟩, ⟨h3, h4⟩, h1, h5⟩
      exact ⟨⟨h0, h1⟩, h2, h4, fun y hy => ⟨h5 y hy, fun e => h3 (e ▸ hy)⟩⟩
theorem rankF_rank {l : List Int} {n : Int} (hn : 1 ≤ n ∧ n ≤ 8) (hl : (l.length : Int) = n) : rankF n [] l = isRank l n := by
  rw [Bool.eq_iff_iff, rankF_iff, isRank_iff]
  constructor
  · rintro ⟨h0, h1, _⟩
    refine ⟨hn, hl, perm_of_sub l _ h1 (fun x hx => mem_upto.2 ?_) (by rw [upto_length]; omega)⟩
    have := h0 x hx
    omega
  · rintro ⟨_, _, h⟩
    refine ⟨fun x hx => ?_, h.symm.nodup (upto_nodup _), by simp⟩
    have := mem_upto.1 (h.subset hx)
    omega
theorem sIsRanking_l0 (l : List Int) (a : Int) (ha : 1 ≤ a ∧ a ≤ 8) (hl : l.length ≤ 1099511627776) : ∀ (d n : Nat), n + d = l.length → Ev (fun k => spec_IsRanking.l0 k l a (n : Int)) (rankF a (l.take n) (l.drop n)) := by
  intro d
  induction d with
  | zero =>
    intro n hd
    refine Ev.step (fun k => spec_IsRanking.l0.eq_2 ..) ?_
    refine Ev.neg (by omega) (Ev.some_ ?_)
    rw [List.drop_eq_nil_of_le (by omega)]
    simp [rankF]
  | succ d ih =>
    intro n hd
    refine Ev.step (fun k => spec_IsRanking.l0.eq_2 ..) ?_
    refine Ev.pos (by omega) (Ev.pos (by omega) ?_)
    simp only [w64s (show n < 4611686018427387904 by omega), rd_at (show n < l.length by omega), l1In_eq, Option.bind_some, w64 (show -9223372036854775808 ≤ a - 1 by omega) (show a - 1 ≤ 9223372036854775807 by omega), Int.toNat_natCast]
    have h1 := ih (n + 1) (by omega)
    rw [take_snoc l n (by omega)] at h1
    rw [List.drop_eq_getElem_cons (show n < l.length by omega)]
    generalize l.drop (n + 1) = u at h1 ⊢
    refine Ev.ite (fun h => Ev.pos (by omega) (Ev.bind (l4Has_ev (l.take n) l[n] (by rw [List.length_take]; omega)) (Ev.ite (fun h2 => Ev.some_ ?_) (fun h2 => Ev.cast h1 ?_)))) (fun h => Ev.some_ ?_)
    · simp [rankF, h2]
    · simp [rankF, h, h2]
    · simp [rankF, h]
theorem sIsRanking_ev (l : List Int) (a : Int) (hl : l.length ≤ 1099511627776) : Ev (fun k => spec_IsRanking.f k l a) (isRank l a) := by
  unfold spec_IsRanking.f
  simp only [l1In_eq, Option.bind_some]
  refine Ev.ite (fun h => ?_) (fun h => ?_)
  · refine Ev.step (fun k => spec_IsRanking.j0.eq_2 ..) ?_
    have ha := inR_iff.1 h
    refine Ev.ite (fun h2 => Ev.some_ ?_) (fun h2 => Ev.cast (sIsRanking_l0 l a ha hl l.length 0 (by omega)) ?_)
    · have : ¬ (l.length : Int) = a := by simpa using h2
      simp [isRank, this]
    · have : (l.length : Int) = a := by simpa using h2
      simpa using rankF_rank ha this
  · refine Ev.step (fun k => spec_IsRanking.j0.eq_2 ..) ?_
    refine Ev.pos rfl (Ev.some_ ?_)
    simp [isRank, h]
theorem iIsRanking_l0 (l : List Int) (N : Nat) (hN : N ≤ 8) (hl : l.length ≤ 1099511627776) : ∀ (d n : Nat), n + d = N → Ev (fun k => impl_IsRanking.l0 k l (N : Int) (n : Int)) (((upto N).drop n).all fun c => decide (c ∈ l)) := by
  intro d
  induction d with
  | zero =>
    intro n hd
    refine Ev.step (fun k => impl_IsRanking.l0.eq_2 ..) ?_
    refine Ev.neg (by omega) (Ev.some_ ?_)
    rw [List.drop_eq_nil_of_le (by rw [upto_length]; omega)]
    rfl
  | succ d ih =>
    intro n hd
    refine Ev.step (fun k => impl_IsRanking.l0.eq_2 ..) ?_
    refine Ev.pos (by omega) (Ev.bind (Contains_ev l n hl) ?_)
    simp only [w64s (show n < 4611686018427387904 by omega)]
    have h1 := ih (n + 1) (by omega)
    have hu : (upto N)[n]'(by rw [upto_length]; omega) = (n : Int) := by simp [upto]
    rw [List.drop_eq_getElem_cons (show n < (upto N).length by rw [upto_length]; omega), hu]
    generalize (upto N).drop (n + 1) = u at h1 ⊢
    refine Ev.ite (fun h => Ev.cast h1 ?_) (fun h => Ev.some_ ?_)
    · have : (n : Int) ∈ l := by simpa using h
      simp [this]
    · have : ¬ (n : Int) ∈ l := by simpa using h
      simp [this]
theorem iIsRanking_ev (l : List Int) (a : Int) (hl : l.length ≤ 1099511627776) : Ev (fun k => impl_IsRanking.f k l a) (isRank l a) := by
  unfold impl_IsRanking.f
  simp only [InRange_eq, Option.bind_some]
  refine Ev.ite (fun h => ?_) (fun h => ?_)
  · refine Ev.step (fun k => impl_IsRanking.j0.eq_2 ..) ?_
    have ha := inR_iff.1 h
    obtain ⟨N, rfl⟩ : ∃ N : Nat, a = (N : Int) := ⟨a.toNat, by omega⟩
    refine Ev.ite (fun h2 => Ev.some_ ?_) (fun h2 => Ev.cast (iIsRanking_l0 l N (by omega) hl N 0 (by omega)) ?_)
    · have : ¬ (l.length : Int) = N := by simpa using h2
      simp only [isRank, decide_eq_false this, Bool.and_false, Bool.false_and]
    · have : (l.length : Int) = N := by simpa using h2
      simp only [isRank, decide_eq_true this, h, Bool.and_true, Bool.true_and, Int.toNat_natCast, List.drop_zero]
  · refine Ev.step (fun k => impl_IsRanking.j0.eq_2 ..) ?_
    refine Ev.pos rfl (Ev.some_ ?_)
    simp [isRank, h]
end Go.Proofs.Ytjmgdjelnlambaa.L
end

section
set_option linter.unusedVariables false
set_option linter.unusedSimpArgs false
namespace Go.Proofs.Ytjmgdjelnlambaa.L
open Go Go.RowKit Go.Proofs.Ytjmgdjelnlambaa.A Go.Proofs.YtjmgdjelnlambaaW.PrintWords
theorem toIntS_l0 (l : List Int) (hl : l.length ≤ 1099511627776) : ∀ (d n : Nat) (xs : List Int), n + d = l.length → xs.length = l.length → xs.take n = l.take n → Ev (fun k => laws_toIntS.l0 k l xs (n : Int)) l := by
  intro d
  induction d with
  | zero =>
    intro n xs hd hx ht
    refine Ev.step (fun k => laws_toIntS.l0.eq_2 ..) ?_
    refine Ev.neg (by omega) (Ev.some_ ?_)
    rw [List.take_of_length_le (by omega), List.take_of_length_le (by omega)] at ht
    exact ht
  | succ d ih =>
    intro n xs hd hx ht
    refine Ev.step (fun k => laws_toIntS.l0.eq_2 ..) ?_
    refine Ev.pos (by omega) (Ev.pos (by omega) (Ev.pos (by omega) ?_))
    simp only [w64s (show n < 4611686018427387904 by omega), rd_at (show n < l.length by omega), Int.toNat_natCast]
    refine ih (n + 1) _ (by omega) (by simp [hx]) ?_
    rw [List.take_succ_eq_append_getElem (by simp; omega), List.take_succ_eq_append_getElem (by omega), List.take_set_of_le (by omega), ht]
    simp
theorem toIntS_ev (l : List Int) (hl : l.length ≤ 1099511627776) : Ev (fun k => laws_toIntS.f k l) l := by
  unfold laws_toIntS.f
  refine Ev.pos (by omega) (Ev.pos (by simp; omega) ?_)
  exact toIntS_l0 l hl l.length 0 _ (by omega) (by simp) (by simp)
theorem eqIntS_l0 (l m : List Int) (hl : l.length ≤ 1099511627776) (hm : l.length = m.length) : ∀ (d n : Nat), n + d = l.length → Ev (fun k => laws_eqIntS.l0 k l m (n : Int)) (decide (l.drop n = m.drop n)) := by
  intro d
  induction d with
  | zero =>
    intro n hd
    refine Ev.step (fun k => laws_eqIntS.l0.eq_2 ..) ?_
    refine Ev.neg (by omega) (Ev.some_ ?_)
    rw [List.drop_eq_nil_of_le (by omega), List.drop_eq_nil_of_le (by omega)]
    simp
  | succ d ih =>
    intro n hd
    refine Ev.step (fun k => laws_eqIntS.l0.eq_2 ..) ?_
    refine Ev.pos (by omega) (Ev.pos (by omega) (Ev.pos (by omega) ?_))
    simp only [w64s (show n < 4611686018427387904 by omega), rd_at (show n < l.length by omega), rd_at (show n < m.length by omega)]
    have h1 := ih (n + 1) (by omega)
    rw [List.drop_eq_getElem_cons (show n < l.length by omega), List.drop_eq_getElem_cons (show n < m.length by omega)]
    generalize l.drop (n + 1) = u at h1 ⊢
    generalize m.drop (n + 1) = v at h1 ⊢
    refine Ev.ite (fun h => Ev.cast h1 ?_) (fun h => Ev.some_ ?_)
    · simp [h]
    · simp [h]
theorem eqIntS_ev (l m : List Int) (hl : l.length ≤ 1099511627776) : Ev (fun k => laws_eqIntS.f k l m) (decide (l = m)) := by
  unfold laws_eqIntS.f
  refine Ev.ite (fun h => Ev.cast (eqIntS_l0 l m hl (by omega) l.length 0 (by omega)) (by simp)) (fun h => Ev.some_ ?_)
  have : l ≠ m := fun e => h (by rw [e])
  simp [this]
end Go.Proofs.Ytjmgdjelnlambaa.L
end

section
set_option linter.unusedVariables false
set_option linter.unusedSimpArgs false
namespace Go.Proofs.Ytjmgdjelnlambaa.L
open Go Go.RowKit Go.Proofs.Ytjmgdjelnlambaa.A Go.Proofs.YtjmgdjelnlambaaW.PrintWords
theorem rdL1_at {l : List (List Int)} {n : Nat} (h : n < l.length) : rd_L1 l (n : Int) = l[n] := by
  simp [rd_L1, h]
theorem toIntSS_l0 (l : List (List Int)) (hl : l.length ≤ 1099511627776) (hi : ∀ x ∈ l, x.length ≤ 1099511627776) : ∀ (d n : Nat) (xs : List (List Int)), n + d = l.length → xs.length = l.length → xs.take n = l.take n → Ev (fun k => laws_toIntSS.l0 k l xs (n : Int)) l := by
  intro d
  induction d with
  | zero =>
    intro n xs hd hx ht
    refine Ev.step (fun k => laws_toIntSS.l0.eq_2 ..) ?_
    refine Ev.neg (by omega) (Ev.some_ ?_)
    rw [List.take_of_length_le (by omega), List.take_of_length_le (by omega)] at ht
    exact ht
  | succ d ih =>
    intro n xs hd hx ht
    refine Ev.step (fun k => laws_toIntSS.l0.eq_2 ..) ?_
    refine Ev.pos (by omega) (Ev.pos (by omega) ?_)
    simp only [w64s (show n < 4611686018427387904 by omega), rdL1_at (show n < l.length by omega), Int.toNat_natCast]
    refine Ev.bind (toIntS_ev l[n] (hi _ (List.getElem_mem _))) (Ev.pos (by omega) ?_)
    refine ih (n + 1) _ (by omega) (by simp [hx]) ?_
    rw [List.take_succ_eq_append_getElem (by simp; omega), List.take_succ_eq_append_getElem (by omega), List.take_set_of_le (by omega), ht]
    simp
theorem toIntSS_ev (l : List (List Int)) (hl : l.length ≤ 1099511627776) (hi : ∀ x ∈ l, x.length ≤ 1099511627776) : Ev (fun k => laws_toIntSS.f k l) l := by
  unfold laws_toIntSS.f
  refine Ev.pos (by omega) (Ev.pos (by simp; omega) ?_)
  exact toIntSS_l0 l hl hi l.length 0 _ (by omega) (by simp) (by simp)
theorem eqIntSS_l0 (l : List (List Int)) (hl : l.length ≤ 1099511627776) (hi : ∀ x ∈ l, x.length ≤ 1099511627776) : ∀ (d n : Nat), n + d = l.length → Ev (fun k => laws_eqIntSS.l0 k l l (n : Int)) true := by
  intro d
  induction d with
  | zero =>
    intro n hd
    refine Ev.step (fun k => laws_eqIntSS.l0.eq_2 ..) ?_
    exact Ev.neg (by omega) (Ev.now _)
  | succ d ih =>
    intro n hd
    refine Ev.step (fun k => laws_eqIntSS.l0.eq_2 ..) ?_
    refine Ev.pos (by omega) (Ev.pos (by omega) (Ev.pos (by omega) ?_))
    simp only [w64s (show n < 4611686018427387904 by omega), rdL1_at (show n < l.length by omega)]
    exact Ev.bind (eqIntS_ev l[n] l[n] (hi _ (List.getElem_mem _))) (Ev.pos (by simp) (ih (n + 1) (by omega)))
theorem eqIntSS_ev (l : List (List Int)) (hl : l.length ≤ 1099511627776) (hi : ∀ x ∈ l, x.length ≤ 1099511627776) : Ev (fun k => laws_eqIntSS.f k l l) true := by
  unfold laws_eqIntSS.f
  exact Ev.pos rfl (eqIntSS_l0 l hl hi l.length 0 (by omega))
theorem szIntS_eq (l : List Int) (left : Int) (h0 : 0 ≤ left) (h1 : left ≤ 1048576) (hl : l.length ≤ 9223372036854775807) : laws_szIntS.f l left = some (if left - l.length < 0 then -1 else left - l.length) := by
  unfold laws_szIntS.f
  rw [w64 (by omega) (by omega)]
  split <;> rfl
theorem szIntSS_l0 (l : List (List Int)) (hl : l.length ≤ 1048576) (hi : ∀ x ∈ l, x.length ≤ 9223372036854775807) : ∀ (d n : Nat) (left : Int), n + d = l.length → 0 ≤ left → left ≤ 1048576 → (∀ (i : Nat) (h : i < n) (h' : i < l.length), (l[i]).length ≤ 1048576) → ∃ v, Ev (fun k => laws_szIntSS.l0 k l left (n : Int)) v ∧ (0 ≤ v → ∀ x ∈ l, x.length ≤ 1048576) := by
  intro d
  induction d with
  | zero =>
    intro n left hd h0 h1 hp
    refine ⟨left, Ev.step (fun k => laws_szIntSS.l0.eq_2 ..) (Ev.neg (by omega) (Ev.now _)), fun _ x hx => ?_⟩
    obtain ⟨j, hj, rfl⟩ := List.mem_iff_getElem.1 hx
    exact hp j (by omega) hj
  | succ d ih =>
    intro n left hd h0 h1 hp
    have hn : n < l.length := by omega
    have hs := szIntS_eq l[n] left h0 h1 (hi _ (List.getElem_mem _))
    by_cases hb : left - (l[n]).length < 0
    · rw [if_pos hb] at hs
      refine ⟨-1, Ev.step (fun k => laws_szIntSS.l0.eq_2 ..) (Ev.pos (by omega) (Ev.pos (by omega) ?_)), fun h => by omega⟩
      simp only [rdL1_at hn]
      exact Ev.bnd hs (Ev.pos (by omega) (Ev.now _))
    · rw [if_neg hb] at hs
      obtain ⟨v, hv, hv2⟩ := ih (n + 1) (left - (l[n]).length) (by omega) (by omega) (by omega) (fun i h h' => by
        by_cases e : i = n
        · subst e
          omega
        · exact hp i (by omega) h')
      refine ⟨v, Ev.step (fun k => laws_szIntSS.l0.eq_2 ..) (Ev.pos (by omega) (Ev.pos (by omega) ?_)), hv2⟩
      simp only [rdL1_at hn, w64s (show n < 4611686018427387904 by omega)]
      exact Ev.bnd hs (Ev.neg (by omega) hv)
theorem szIntSS_ev (l : List (List Int)) (hl : l.length ≤ 9223372036854775807) (hi : ∀ x ∈ l, x.length ≤ 9223372036854775807) : ∃ v, Ev (fun k => laws_szIntSS.f k l 1048576) v ∧ (¬ v < 0 → l.length ≤ 1048576 ∧ ∀ x ∈ l, x.length ≤ 1048576) := by
  unfold laws_szIntSS.f
  rw [w64 (by omega) (by omega)]
  by_cases hb : 1048576 - (l.length : Int) < 0
  · exact ⟨-1, Ev.pos hb (Ev.now _), fun h => by omega⟩
  · obtain ⟨v, hv, hv2⟩ := szIntSS_l0 l (by omega) hi l.length 0 (1048576 - l.length) (by omega) (by omega) (by omega) (fun i h => by omega)
    exact ⟨v, Ev.neg hb hv, fun h => ⟨by omega, hv2 (by omega)⟩⟩
end Go.Proofs.Ytjmgdjelnlambaa.L
end

section
set_option linter.unusedVariables false
set_option linter.unusedSimpArgs false
namespace Go.Proofs.Ytjmgdjelnlambaa.L
open Go Go.RowKit Go.Proofs.Ytjmgdjelnlambaa.A Go.Proofs.YtjmgdjelnlambaaW.PrintWords
theorem l17At_l0 (l : List Int) (x : Int) (hl : l.length ≤ 1099511627776) : ∀ (d n : Nat), n + d = l.length → Ev (fun k => spec_l17At.l0 k l x (n : Int)) (if x ∈ l.drop n then ((n + (l.drop n).idxOf x : Nat) : Int) else -1) := by
  intro d
  induction d with
  | zero =>
    intro n hd
    refine Ev.step (fun k => spec_l17At.l0.eq_2 ..) ?_
    refine Ev.neg (by omega) (Ev.some_ ?_)
    rw [List.drop_eq_nil_of_le (by omega)]
    simp
  | succ d ih =>
    intro n hd
    refine Ev.step (fun k => spec_l17At.l0.eq_2 ..) ?_
    refine Ev.pos (by omega) (Ev.pos (by omega) ?_)
    simp only [w64s (show n < 4611686018427387904 by omega), rd_at (show n < l.length by omega)]
    have h1 := ih (n + 1) (by omega)
    rw [List.drop_eq_getElem_cons (show n < l.length by omega)]
    generalize l.drop (n + 1) = u at h1 ⊢
    refine Ev.ite (fun h => Ev.some_ ?_) (fun h => Ev.cast h1 ?_)
    · simp [h]
    · have h' : ¬ x = l[n] := fun e => h e.symm
      simp only [List.mem_cons, h', false_or, List.idxOf_cons, beq_eq_false_iff_ne.2 h]
      split
      · simp; omega
      · rfl
theorem l17At_ev (l : List Int) (x : Int) (hl : l.length ≤ 1099511627776) : Ev (fun k => spec_l17At.f k l x) (idx l x) := by
  unfold spec_l17At.f
  refine Ev.cast (l17At_l0 l x hl l.length 0 (by omega)) ?_
  simp [idx]
def okRanks (l : List (List Int)) (n : Int) : Bool := (l.all fun r => isRank r n) && inR n 1 8 && decide ((l.length : Int) ≤ 20)
theorem sAreRankings_l0 (l : List (List Int)) (a : Int) (hl : l.length ≤ 1099511627776) (hi : ∀ x ∈ l, x.length ≤ 1099511627776) : ∀ (d n : Nat), n + d = l.length → Ev (fun k => spec_AreRankings.l0 k l a (n : Int)) (((l.drop n).all fun r => isRank r a) && inR a 1 8 && decide ((l.length : Int) ≤ 20)) := by
  intro d
  induction d with
  | zero =>
    intro n hd
    refine Ev.step (fun k => spec_AreRankings.l0.eq_2 ..) ?_
    refine Ev.neg (by omega) ?_
    simp only [l1In_eq, Option.bind_some]
    rw [List.drop_eq_nil_of_le (by omega)]
    refine Ev.ite (fun h => Ev.some_ ?_) (fun h => Ev.some_ ?_)
    · simp [h]
    · simp [h]
  | succ d ih =>
    intro n hd
    have hn := hi l[n] (List.getElem_mem _)
    refine Ev.step (fun k => spec_AreRankings.l0.eq_2 ..) ?_
    refine Ev.pos (by omega) (Ev.pos (by omega) ?_)
    simp only [w64s (show n < 4611686018427387904 by omega), rdL1_at (show n < l.length by omega)]
    have h1 := ih (n + 1) (by omega)
    rw [List.drop_eq_getElem_cons (show n < l.length by omega)]
    generalize l.drop (n + 1) = u at h1 ⊢
    refine Ev.bind (sIsRanking_ev l[n] a hn) (Ev.ite (fun h => Ev.cast h1 ?_) (fun h => Ev.some_ ?_))
    · simp [h]
    · simp [h]
theorem sAreRankings_ev (l : List (List Int)) (a : Int) (hl : l.length ≤ 1099511627776) (hi : ∀ x ∈ l, x.length ≤ 1099511627776) : Ev (fun k => spec_AreRankings.f k l a) (okRanks l a) := by
  unfold spec_AreRankings.f
  exact Ev.cast (sAreRankings_l0 l a hl hi l.length 0 (by omega)) (by simp [okRanks])
theorem iAreRankings_l0 (l : List (List Int)) (a : Int) (hl : l.length ≤ 1099511627776) (hi : ∀ x ∈ l, x.length ≤ 1099511627776) : ∀ (d n : Nat), n + d = l.length → Ev (fun k => impl_AreRankings.l0 k a l (l.length : Int) (n : Int)) ((l.drop n).all fun r => isRank r a) := by
  intro d
  induction d with
  | zero =>
    intro n hd
    refine Ev.step (fun k => impl_AreRankings.l0.eq_2 ..) ?_
    refine Ev.neg (by omega) (Ev.some_ ?_)
    rw [List.drop_eq_nil_of_le (by omega)]
    rfl
  | succ d ih =>
    intro n hd
    have hn := hi l[n] (List.getElem_mem _)
    refine Ev.step (fun k => impl_AreRankings.l0.eq_2 ..) ?_
    refine Ev.pos (by omega) (Ev.pos (by omega) (Ev.pos (by omega) ?_))
    simp only [w64s (show n < 4611686018427387904 by omega), rdL1_at (show n < l.length by omega)]
    have h1 := ih (n + 1) (by omega)
    rw [List.drop_eq_getElem_cons (show n < l.length by omega)]
    generalize l.drop (n + 1) = u at h1 ⊢
    refine Ev.bind (iIsRanking_ev l[n] a hn) (Ev.ite (fun h => Ev.cast h1 ?_) (fun h => Ev.some_ ?_))
    · simp [h]
    · simp [h]
theorem iAreRankings_ev (l : List (List Int)) (a : Int) (hl : l.length ≤ 1099511627776) (hi : ∀ x ∈ l, x.length ≤ 1099511627776) : Ev (fun k => impl_AreRankings.f k l a) (okRanks l a) := by
  unfold impl_AreRankings.f
  simp only [InRange_eq, Option.bind_some]
  refine Ev.ite (fun h => Ev.step (fun k => impl_AreRankings.j0.eq_2 ..) (Ev.pos rfl (Ev.some_ ?_))) (fun h => Ev.step (fun k => impl_AreRankings.j0.eq_2 ..) (Ev.ite (fun h2 => Ev.some_ ?_) (fun h2 => Ev.cast (iAreRankings_l0 l a hl hi l.length 0 (by omega)) ?_)))
  · have : ¬ (l.length : Int) ≤ 20 := by omega
    simp [okRanks, this]
  · have : inR a 1 8 = false := by simpa using h2
    simp [okRanks, this]
  · have h3 : inR a 1 8 = true := by simpa using h2
    have : (l.length : Int) ≤ 20 := by omega
    simp [okRanks, h3, this]
theorem okRanks_iff {l : List (List Int)} {n : Int} : okRanks l n = true ↔ (∀ r ∈ l, isRank r n = true) ∧ (1 ≤ n ∧ n ≤ 8) ∧ l.length ≤ 20 := by
  simp only [okRanks, Bool.and_eq_true, List.all_eq_true, inR_iff, decide_eq_true_eq, and_assoc]
  constructor
  · rintro ⟨a, b, c, d⟩
    exact ⟨a, b, c, by omega⟩
  · rintro ⟨a, b, c, d⟩
    exact ⟨a, b, c, by omega⟩
end Go.Proofs.Ytjmgdjelnlambaa.L
end

section
set_option linter.unusedVariables false
set_option linter.unusedSimpArgs false
namespace Go.Proofs.Ytjmgdjelnlambaa.L
open Go Go.RowKit Go.Proofs.Ytjmgdjelnlambaa.A Go.Proofs.YtjmgdjelnlambaaW.PrintWords
def tab (N : Nat) (f : Int → Int) : List Int := (upto N).map f
theorem tab_length (N : Nat) (f : Int → Int) : (tab N f).length = N := by simp [tab, upto_length]
theorem tab_get (N : Nat) (f : Int → Int) (i : Nat) (h : i < (tab N f).length) : (tab N f)[i] = f i := by simp [tab, upto]
theorem rd_tab {N : Nat} {f : Int → Int} {c : Int} (h0 : 0 ≤ c) (h1 : c < N) : rd (tab N f) c = f c := by
  obtain ⟨m, rfl⟩ : ∃ m : Nat, c = m := ⟨c.toNat, by omega⟩
  rw [rd_at (by rw [tab_length]; omega), tab_get]
def upd (f : Int → Int) (c v : Int) : Int → Int := fun x => if x = c then v else f x
theorem tab_set {N : Nat} {f : Int → Int} {c v : Int} (h0 : 0 ≤ c) (h1 : c < N) : (tab N f).set c.toNat v = tab N (upd f c v) := by
  refine List.ext_getElem (by simp [tab_length]) (fun i h2 h3 => ?_)
  have hi : i < N := by rw [tab_length] at h3; exact h3
  simp only [List.getElem_set, tab_get, upd]
  by_cases e : c.toNat = i
  · rw [if_pos e, if_pos (by omega)]
  · rw [if_neg e, if_neg (by omega)]
theorem tab_congr {N : Nat} {f g : Int → Int} (h : ∀ x : Int, 0 ≤ x → x < N → f x = g x) : tab N f = tab N g := by
  refine List.ext_getElem (by simp [tab_length]) (fun i h2 h3 => ?_)
  rw [tab_length] at h2
  rw [tab_get, tab_get, h i (by omega) (by omega)]
def rowF (n : Int) : Int → List Int → (Int → Int) → Int → Int
  | _, [], f => f
  | i, c :: cs, f => rowF n (i + 1) cs (upd f c (f c + (n - 1 - i)))
theorem rowF_eq (n : Int) : ∀ (r : List Int) (i : Int) (f : Int → Int) (x : Int), r.Nodup → rowF n i r f x = if x ∈ r then f x + (n - 1 - (i + r.idxOf x)) else f x
  | [], i, f, x, _ => by simp [rowF]
  | c :: cs, i, f, x, hn => by
    rw [List.nodup_cons] at hn
    rw [rowF, rowF_eq n cs (i + 1) _ x hn.2]
    by_cases e : x = c
    · subst e
      rw [if_neg hn.1, if_pos List.mem_cons_self, upd, if_pos rfl, List.idxOf_cons_self]
      omega
    · have hne : ¬ c = x := fun h => e h.symm
      by_cases hx : x ∈ cs
      · have hix : (c :: cs).idxOf x = cs.idxOf x + 1 := by rw [List.idxOf_cons, beq_false_of_ne hne]; rfl
        rw [if_pos hx, if_pos (List.mem_cons_of_mem _ hx), upd, if_neg e, hix]
        omega
      · rw [if_neg hx, if_neg (by simp [e, hx]), upd, if_neg e]
def pts (n : Int) : List (List Int) → Int → Int
  | [], _ => 0
  | r :: rs, x => (n - 1 - idx r x) + pts n rs x
theorem isRank_mem {r : List Int} {n : Int} (h : isRank r n = true) : (r.length : Int) = n ∧ r.Nodup ∧ (∀ x ∈ r, 0 ≤ x ∧ x < n) ∧ (∀ x : Int, 0 ≤ x → x < n → x ∈ r) := by
  obtain ⟨h1, h2, h3⟩ := isRank_iff.1 h
  refine ⟨h2, h3.nodup_iff.2 (upto_nodup _), fun x hx => ?_, fun x h4 h5 => h3.mem_iff.2 (mem_upto.2 (by omega))⟩
  have := mem_upto.1 (h3.mem_iff.1 hx)
  omega
theorem idx_rank {r : List Int} {n x : Int} (h : isRank r n = true) (h0 : 0 ≤ x) (h1 : x < n) : idx r x = (r.idxOf x : Int) ∧ 0 ≤ idx r x ∧ idx r x ≤ n - 1 := by
  obtain ⟨h2, h3, h4, h5⟩ := isRank_mem h
  have hm := h5 x h0 h1
  have hl := List.idxOf_lt_length_of_mem hm
  have e : idx r x = (r.idxOf x : Int) := by unfold idx; exact if_pos hm
  exact ⟨e, by omega, by omega⟩
section
variable (l : List (List Int)) (n : Int) (N : Nat) (hN : (N : Int) = n) (h8 : N ≤ 8)
include hN h8
theorem iPts_l1 (out0 : Nat) (hlen : l.length ≤ 20) (r : List Int) (hr : isRank r n = true) (m : Nat) (M : Int) (hM : 0 ≤ M ∧ M ≤ 1000) (R : List Int) : ∀ (d i : Nat) (f : Int → Int), i + d = r.length → (∀ x ∈ r.drop i, 0 ≤ f x ∧ f x ≤ M) → Ev (fun k => impl_PlacePoints.l0 k n (tab N (rowF n i (r.drop i) f)) l (l.length : Int) (wrap64 ((m : Int) + 1))) R → Ev (fun k => impl_PlacePoints.l1 k n (tab N f) l (l.length : Int) (m : Int) r (r.length : Int) (i : Int)) R := by
  obtain ⟨hl, hnd, hmem, _⟩ := isRank_mem hr
  intro d
  induction d with
  | zero =>
    intro i f hd hf hR
    rw [List.drop_eq_nil_of_le (by omega), rowF] at hR
    exact Ev.step (fun k => impl_PlacePoints.l1.eq_2 ..) (Ev.neg (by omega) hR)
  | succ d ih =>
    intro i f hd hf hR
    have hi : i < r.length := by omega
    have hc := hmem r[i] (List.getElem_mem hi)
    refine Ev.step (fun k => impl_PlacePoints.l1.eq_2 ..) (Ev.pos (by omega) (Ev.pos (by omega) (Ev.pos (by omega) ?_)))
    rw [rd_at hi]
    refine Ev.pos (by omega) (Ev.pos (by rw [tab_length]; omega) ?_)
    rw [List.drop_eq_getElem_cons hi] at hR hf
    have hfc := hf r[i] List.mem_cons_self
    rw [rd_tab (by omega) (by omega), tab_set (by omega) (by omega), w64s (show i < 4611686018427387904 by omega), w64 (x := n - 1) (by omega) (by omega), w64 (x := n - 1 - (i : Int)) (by omega) (by omega), w64 (x := f r[i] + (n - 1 - (i : Int))) (by omega) (by omega)]
    rw [rowF] at hR
    have e : ((i : Int) + 1) = ((i + 1 : Nat) : Int) := by omega
    rw [e] at hR
    have hnd2 : r[i] ∉ r.drop (i + 1) := by
      have h2 := hnd.sublist (List.drop_sublist i r)
      rw [List.drop_eq_getElem_cons hi, List.nodup_cons] at h2
      exact h2.1
    refine ih (i + 1) _ (by omega) (fun x hx => ?_) hR
    rw [upd, if_neg (fun h => hnd2 (by rw [← h]; exact hx))]
    exact hf x (List.mem_cons_of_mem _ hx)
theorem iPts_l0 (hlen : l.length ≤ 20) (hok : ∀ r ∈ l, isRank r n = true) : ∀ (d m : Nat) (f : Int → Int), m + d = l.length → (∀ x : Int, 0 ≤ x → x < n → 0 ≤ f x ∧ f x ≤ 8 * m) → Ev (fun k => impl_PlacePoints.l0 k n (tab N f) l (l.length : Int) (m : Int)) (tab N (fun x => f x + pts n (l.drop m) x)) := by
  intro d
  induction d with
  | zero =>
    intro m f hd hf
    refine Ev.step (fun k => impl_PlacePoints.l0.eq_2 ..) (Ev.neg (by omega) (Ev.some_ ?_))
    rw [List.drop_eq_nil_of_le (by omega)]
    simp [pts]
  | succ d ih =>
    intro m f hd hf
    have hm : m < l.length := by omega
    have hr := hok l[m] (List.getElem_mem hm)
    obtain ⟨h2, h3, h4, h5⟩ := isRank_mem hr
    refine Ev.step (fun k => impl_PlacePoints.l0.eq_2 ..) (Ev.pos (by omega) (Ev.pos (by omega) (Ev.pos (by omega) ?_)))
    have e1 : rd_L1 l (m : Int) = l[m] := by simp [rd_L1, hm]
    rw [e1]
    refine iPts_l1 l n N hN h8 0 hlen l[m] hr m (8 * m) ⟨by omega, by omega⟩ _ l[m].length 0 f (by omega) (fun x hx => by have := h4 x (by simpa using hx); exact hf x (by omega) (by omega)) ?_
    rw [w64s (show m < 4611686018427387904 by omega)]
    have hrow : ∀ x : Int, 0 ≤ x → x < n → rowF n ((0 : Nat) : Int) (l[m].drop 0) f x = f x + (n - 1 - idx l[m] x) := by
      intro x h0 h1
      obtain ⟨e2, _, _⟩ := idx_rank hr h0 h1
      rw [List.drop_zero, rowF_eq n _ _ f x h3, if_pos (h5 x h0 h1), e2]
      omega
    have := ih (m + 1) (rowF n ((0 : Nat) : Int) (l[m].drop 0) f) (by omega) (fun x h0 h1 => by
      obtain ⟨_, e3, e4⟩ := idx_rank hr h0 h1
      have := hf x h0 h1
      rw [hrow x h0 h1]
      omega)
    refine Ev.cast this (tab_congr (fun x h0 h1 => ?_))
    rw [hrow x h0 (by omega), List.drop_eq_getElem_cons hm, pts]
    omega
theorem sPts_l1 (hlen : l.length ≤ 20) (hi : ∀ x ∈ l, x.length ≤ 1099511627776) (hok : ∀ r ∈ l, isRank r n = true) (a : Int) (h0 : 0 ≤ a) (h1 : a < n) (out : List Int) (hout : out.length ≤ 100) (R : List Int) : ∀ (d m : Nat) (s : Int), m + d = l.length → 0 ≤ s → s ≤ 8 * m → Ev (fun k => spec_PlacePoints.l0 k l n (out ++ [s + pts n (l.drop m) a]) (wrap64 (a + 1))) R → Ev (fun k => spec_PlacePoints.l1 k l n out a s (m : Int)) R := by
  intro d
  induction d with
  | zero =>
    intro m s hd hs0 hs1 hR
    rw [List.drop_eq_nil_of_le (by omega), pts, Int.add_zero] at hR
    exact Ev.step (fun k => spec_PlacePoints.l1.eq_2 ..) (Ev.neg (by omega) (Ev.pos (by omega) hR))
  | succ d ih =>
    intro m s hd hs0 hs1 hR
    have hm : m < l.length := by omega
    have hr := hok l[m] (List.getElem_mem hm)
    obtain ⟨_, e3, e4⟩ := idx_rank hr h0 h1
    refine Ev.step (fun k => spec_PlacePoints.l1.eq_2 ..) (Ev.pos (by omega) (Ev.pos (by omega) ?_))
    have e1 : rd_L1 l (m : Int) = l[m] := by simp [rd_L1, hm]
    rw [e1]
    refine Ev.bind (l17At_ev _ _ (hi _ (List.getElem_mem hm))) ?_
    rw [w64s (show m < 4611686018427387904 by omega), w64 (x := s + n) (by omega) (by omega), w64 (x := s + n - 1) (by omega) (by omega), w64 (x := s + n - 1 - idx l[m] a) (by omega) (by omega)]
    refine ih (m + 1) _ (by omega) (by omega) (by omega) ?_
    rw [List.drop_eq_getElem_cons hm, pts] at hR
    have e : s + n - 1 - idx l[m] a + pts n (l.drop (m + 1)) a = s + (n - 1 - idx l[m] a + pts n (l.drop (m + 1)) a) := by omega
    rw [e]
    exact hR
theorem sPts_l0 (hlen : l.length ≤ 20) (hi : ∀ x ∈ l, x.length ≤ 1099511627776) (hk : okRanks l n = true) : ∀ (d a : Nat), a + d = N → Ev (fun k => spec_PlacePoints.l0 k l n ((tab N (pts n l)).take a) (a : Int)) (tab N (pts n l)) := by
  have hok := (okRanks_iff.1 hk).1
  intro d
  induction d with
  | zero =>
    intro a hd
    refine Ev.step (fun k => spec_PlacePoints.l0.eq_2 ..) (Ev.neg (by omega) (Ev.step (fun k => spec_PlacePoints.j1.eq_2 ..) (Ev.neg (by simp) (Ev.some_ ?_))))
    exact List.take_of_length_le (by rw [tab_length]; omega)
  | succ d ih =>
    intro a hd
    refine Ev.step (fun k => spec_PlacePoints.l0.eq_2 ..) (Ev.pos (by omega) (Ev.bind (sAreRankings_ev l n (by omega) hi) ?_))
    rw [hk]
    refine Ev.step (fun k => spec_PlacePoints.j1.eq_2 ..) (Ev.pos rfl ?_)
    refine sPts_l1 l n N hN h8 hlen hi hok a (by omega) (by omega) _ (by rw [List.length_take, tab_length]; omega) _ l.length 0 0 (by omega) (by omega) (by omega) ?_
    rw [w64s (show a < 4611686018427387904 by omega)]
    have := ih (a + 1) (by omega)
    rw [List.take_succ_eq_append_getElem (by rw [tab_length]; omega), tab_get] at this
    simpa using this
end
def pointsT (l : List (List Int)) (n : Int) : List Int := if okRanks l n = true then tab n.toNat (pts n l) else []
theorem pointsT_len (l : List (List Int)) (n : Int) : (pointsT l n).length ≤ 8 := by
  unfold pointsT
  split
  · rename_i h
    have := (okRanks_iff.1 h).2.1
    rw [tab_length]
    omega
  · simp
theorem sPoints_ev (l : List (List Int)) (n : Int) (hl : l.length ≤ 1099511627776) (hi : ∀ x ∈ l, x.length ≤ 1099511627776) : Ev (fun k => spec_PlacePoints.f k l n) (pointsT l n) := by
  unfold spec_PlacePoints.f pointsT
  cases hk : okRanks l n with
  | true =>
    obtain ⟨_, h1, h2⟩ := okRanks_iff.1 hk
    have := sPts_l0 l n n.toNat (by omega) (by omega) h2 hi hk n.toNat 0 (by omega)
    rw [if_pos rfl]
    simpa using this
  | false =>
    rw [if_neg (by simp)]
    have hj : Ev (fun k => spec_PlacePoints.j1 k l n ([] : List Int) 0 false) [] := Ev.step (fun k => spec_PlacePoints.j1.eq_2 ..) (Ev.neg (by simp) (Ev.now _))
    refine Ev.step (fun k => spec_PlacePoints.l0.eq_2 ..) (Ev.ite (fun _ => ?_) (fun _ => hj))
    refine Ev.bind (sAreRankings_ev l n hl hi) ?_
    rw [hk]
    exact hj
theorem iPoints_ev (l : List (List Int)) (n : Int) (hl : l.length ≤ 1099511627776) (hi : ∀ x ∈ l, x.length ≤ 1099511627776) : Ev (fun k => impl_PlacePoints.f k l n) (pointsT l n) := by
  unfold impl_PlacePoints.f pointsT
  refine Ev.bind (iAreRankings_ev l n hl hi) ?_
  refine Ev.ite (fun hk => ?_) (fun hk => Ev.some_ (if_neg hk).symm)
  obtain ⟨hok, h1, h2⟩ := okRanks_iff.1 hk
  refine Ev.pos (by omega) (Ev.pos (by omega) ?_)
  have e : List.replicate n.toNat (0 : Int) = tab n.toNat (fun _ => 0) := by
    refine List.ext_getElem (by simp [tab_length]) (fun i h3 h4 => ?_)
    rw [tab_get]
    simp
  rw [e, if_pos hk]
  have := iPts_l0 l n n.toNat (by omega) (by omega) h2 hok l.length 0 (fun _ => 0) (by omega) (fun x _ _ => ⟨by omega, by omega⟩)
  refine Ev.cast this (tab_congr (fun x _ _ => ?_))
  simp
end Go.Proofs.Ytjmgdjelnlambaa.L
end

section
set_option linter.unusedVariables false
set_option linter.unusedSimpArgs false
namespace Go.Proofs.Ytjmgdjelnlambaa.L
open Go Go.RowKit Go.Proofs.Ytjmgdjelnlambaa.A Go.Proofs.YtjmgdjelnlambaaW.PrintWords
def ups : Nat → Int → List Int
  | 0, _ => []
  | n + 1, k => k :: ups n (k + 1)
theorem ups_length : ∀ (n : Nat) (k : Int), (ups n k).length = n
  | 0, _ => rfl
  | n + 1, k => by simp [ups, ups_length n]
theorem ups_get : ∀ (n : Nat) (k : Int) (i : Nat) (h : i < n), (ups n k)[i]'(by rw [ups_length]; exact h) = k + i
  | n + 1, k, 0, _ => by simp [ups]
  | n + 1, k, i + 1, h => by
    simp only [ups, List.getElem_cons_succ]
    rw [ups_get n (k + 1) i (by omega)]
    omega
theorem markIntS_l0 (k0 : Int) (N : Nat) (h0 : 0 ≤ k0) (h1 : k0 ≤ 1099511627776) (hN : N ≤ 1099511627776) : ∀ (d n : Nat) (xs : List Int), n + d = N → xs.length = N → xs.take n = (ups N k0).take n → Ev (fun k => laws_markIntS.l0 k xs (k0 + n) (n : Int)) (k0 + N, ups N k0) := by
  intro d
  induction d with
  | zero =>
    intro n xs hd hx ht
    refine Ev.step (fun k => laws_markIntS.l0.eq_2 ..) ?_
    refine Ev.neg (by omega) (Ev.some_ ?_)
    rw [List.take_of_length_le (by omega), List.take_of_length_le (by rw [ups_length]; omega)] at ht
    rw [ht, show n = N by omega]
  | succ d ih =>
    intro n xs hd hx ht
    refine Ev.step (fun k => laws_markIntS.l0.eq_2 ..) ?_
    refine Ev.pos (by omega) (Ev.pos (by omega) ?_)
    have e : wrap64 (k0 + (n : Int) + 1) = k0 + ((n + 1 : Nat) : Int) := by rw [w64 (by omega) (by omega)]; omega
    simp only [w64s (show n < 4611686018427387904 by omega), e, Int.toNat_natCast]
    refine ih (n + 1) _ (by omega) (by simp [hx]) ?_
    rw [List.take_succ_eq_append_getElem (by simp; omega), List.take_succ_eq_append_getElem (by rw [ups_length]; omega), List.take_set_of_le (by omega), ht, ups_get N k0 n (by omega)]
    simp
theorem markIntS_ev (l : List Int) (k0 : Int) (h0 : 0 ≤ k0) (h1 : k0 ≤ 1099511627776) (hN : l.length ≤ 1099511627776) : Ev (fun k => laws_markIntS.f k l k0) (k0 + l.length, ups l.length k0) := by
  unfold laws_markIntS.f
  have := markIntS_l0 k0 l.length h0 h1 hN l.length 0 l (by omega) rfl (by simp)
  simpa using this
theorem heldIntS_l0 (k0 : Int) (N : Nat) (h0 : 0 ≤ k0) (h1 : k0 ≤ 1099511627776) (hN : N ≤ 1099511627776) : ∀ (d n : Nat), n + d = N → Ev (fun k => laws_heldIntS.l0 k (ups N k0) (k0 + n) (n : Int)) (k0 + N) := by
  intro d
  induction d with
  | zero =>
    intro n hd
    refine Ev.step (fun k => laws_heldIntS.l0.eq_2 ..) ?_
    refine Ev.neg (by rw [ups_length]; omega) (Ev.some_ ?_)
    rw [show n = N by omega]
  | succ d ih =>
    intro n hd
    refine Ev.step (fun k => laws_heldIntS.l0.eq_2 ..) ?_
    refine Ev.pos (by rw [ups_length]; omega) (Ev.pos (by omega) ?_)
    have e : wrap64 (k0 + (n : Int) + 1) = k0 + ((n + 1 : Nat) : Int) := by rw [w64 (by omega) (by omega)]; omega
    simp only [w64s (show n < 4611686018427387904 by omega), e, rd_at (show n < (ups N k0).length by rw [ups_length]; omega), ups_get N k0 n (show n < N by omega)]
    exact Ev.pos trivial (ih (n + 1) (by omega))
theorem heldIntS_ev (N : Nat) (k0 : Int) (h0 : 0 ≤ k0) (h1 : k0 ≤ 1099511627776) (hN : N ≤ 1099511627776) : Ev (fun k => laws_heldIntS.f k (ups N k0) k0) (k0 + N) := by
  unfold laws_heldIntS.f
  have := heldIntS_l0 k0 N h0 h1 hN N 0 (by omega)
  simpa using this
end Go.Proofs.Ytjmgdjelnlambaa.L
end

section
set_option linter.unusedVariables false
namespace Go.Proofs.Ytjmgdjelnlambaa.M
theorem tot_le (m B : Nat) : ∀ ns : List Nat, (∀ n ∈ ns, n ≤ B) → tot m ns ≤ ns.length * (m + B)
  | [], _ => by simp [tot]
  | n :: r, h => by
    have h1 := tot_le m B r (fun x hx => h x (List.mem_cons_of_mem _ hx))
    have h2 := h n List.mem_cons_self
    simp only [tot, List.length_cons, Nat.succ_mul]
    omega
theorem tot_small {α : Type} (m : Nat) (hm : m ≤ 5) (f : α → Nat) (l : List α) (hl : l.length ≤ 1048576) (hf : ∀ x ∈ l, f x ≤ 1048576) : tot m (l.map f) ≤ 1099516870656 := by
  have h := tot_le m 1048576 (l.map f) (by simpa using hf)
  rw [List.length_map] at h
  refine Nat.le_trans h ?_
  refine Nat.le_trans (Nat.mul_le_mul hl (Nat.add_le_add_right hm 1048576)) ?_
  omega
end Go.Proofs.Ytjmgdjelnlambaa.M
end

section
set_option linter.unusedVariables false
set_option linter.unusedSimpArgs false
namespace Go.Proofs.Ytjmgdjelnlambaa.L
open Go Go.RowKit Go.Proofs.Ytjmgdjelnlambaa.A Go.Proofs.YtjmgdjelnlambaaW.PrintWords
theorem FnExactPlacePoints_pure (l0 : List (List Int)) (a1 : Int) (b0 : l0.length ≤ 9223372036854775807) (b1 : ∀ x ∈ l0, x.length ≤ 9223372036854775807) (a1w : (Lit.int .i64 a1).wf = true) : ∃ k, laws_FnExactPlacePoints.f k l0 a1 = some true := by
  refine Ev.rounds (g := fun k => laws_FnExactPlacePoints.f k l0 a1) ?_
  unfold laws_FnExactPlacePoints.f
  obtain ⟨v, hv, hv2⟩ := szIntSS_ev l0 b0 b1
  refine Ev.bind hv (Ev.ite (fun _ => Ev.now _) (fun hs => ?_))
  obtain ⟨hl, hi⟩ := hv2 hs
  have hi' : ∀ x ∈ l0, x.length ≤ 1099511627776 := fun x hx => by have := hi x hx; omega
  have hA := toIntSS_ev l0 (by omega) hi'
  have hT := M.tot_small 0 (by omega) (fun x : List Int => x.length) l0 hl hi
  have hS := sPoints_ev l0 a1 (by omega) hi'
  have hI := iPoints_ev l0 a1 (by omega) hi'
  have hlen := pointsT_len l0 a1
  generalize pointsT l0 a1 = y at hS hI hlen
  have hE : Ev (fun k => laws_eqIntS.f k y y) true := Ev.cast (eqIntS_ev _ _ (by omega)) (by simp)
  have hM := markIntS_ev y 1 (by omega) (by omega) (by omega)
  have hH := heldIntS_ev y.length 1 (by omega) (by omega) (by omega)
  refine Ev.bind hA (Ev.bind hS (Ev.bind hA (Ev.bind hI (Ev.bind hE (Ev.pos rfl ?_)))))
  refine Ev.bind hA (Ev.bind (eqIntSS_ev _ (by omega) hi') (Ev.pos rfl ?_))
  refine Ev.pos ⟨⟨by omega, fun x hx => by have := hi x hx; omega⟩, Int.le_trans (Int.ofNat_le.2 hT) (by omega)⟩ ?_
  refine Ev.bind hE (Ev.pos rfl (Ev.bind hM ?_))
  dsimp only
  refine Ev.bind hH (Ev.pos (by omega) (Ev.pos rfl ?_))
  refine Ev.bind hA (Ev.bind hI (Ev.bind hE (Ev.pos rfl ?_)))
  exact Ev.bind hH (Ev.pos (by omega) (Ev.pos rfl (Ev.now _)))
end Go.Proofs.Ytjmgdjelnlambaa.L
end
