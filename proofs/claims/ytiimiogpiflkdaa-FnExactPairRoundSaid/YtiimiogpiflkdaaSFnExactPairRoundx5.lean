/- What the row FnExactPairRound rests on, put together: A68, A69, A70, LWMark, LHMark, LHMarkT, LHLFnExactPairRound, LOpen, LTeam2, LCont, LHas, LMet, LMay, LOrd, LPerm, LPrD, LRoundP, LStandP, LSide, LPairR, LPairS, LConc, LPairI, LPairE, LMarkPX, LTotLe, LXFnExactPairRound. No condition. -/
import Derived.Test.YtiimiogpiflkdaaSFnExactPairRoundx1
import Derived.Test.YtiimiogpiflkdaaSFnExactPairRoundx4
import Derived.Test.YtiimiogpiflkdaaSFnExactPairRoundx0
import Derived.Test.YtiimiogpiflkdaaSFnExactPairRoundx3
import Derived.Deep.Slices
import Derived.Deep.Fields
import Derived.ChangeSame
import Derived.Lib.SmallJoins
import Derived.Test.YtiimiogpiflkdaaSFnExactPairRoundx2
section
namespace Go.Proofs.Ytiimiogpiflkdaa.A
open Go.RowKit Go.Proofs.YtiimiogpiflkdaaW.PrintWords Go.Proofs.YtiimiogpiflkdaaW.PrintLast Go.Proofs.YtiimiogpiflkdaaW.PrintMore
attribute [local go_sem] max2_int min2_int max_two min_two max_three min_three max_four min_four   -- for this text's walks alone
set_option linter.unusedVariables false
set_option linter.unusedSimpArgs false
def impl_PairRound.j0 : Nat → List (S61) → Bool → Option ((List (S46)) × Bool)
  | 0, _, _ => none
  | k + 1, x0, x12 => if x12 = true then (some ((([] : List (S46))), false)) else ((impl_Standing.f k x0).bind fun t379 => ((impl_paired.f k x0 t379).bind fun bt382 => (some (bt382.1, bt382.2))))
def impl_PairRound.f (k : Nat) (l0 : List (S61)) : Option ((List (S46)) × Bool) := (impl_AreTeams.f k l0).bind fun t375 => (if t375 = true then (impl_PairRound.j0 k l0 (((l0.length : Int) % 2) == 1)) else (impl_PairRound.j0 k l0 true))
set_option maxHeartbeats 8000000 in
set_option maxRecDepth 100000 in
theorem impl_PairRound.calls (k : Nat) (A0 : Option Addr) (c0 : Nat) (l0 : List (S61)) (r1 : List (S46)) (r2 : Bool) (w : World) (hr0 : Kd.C k61 w A0 l0.length l0) (hc0 : l0.length ≤ c0) (h : impl_PairRound.f k l0 = some (r1, r2)) :
  Calls Try.prog 48 #[.slice A0 l0.length c0] w fun e w' => ∃ v0_ : Value, e = .returned (.tuple #[v0_, .bool r2]) ∧ Kd.R k46 46 w' w.heap.size (fun _ => True) v0_ r1 ∧ Below w.heap.size w w' := by
 have HR0 := Aside0.mk hr0
 have HC0 := Aside0.mk hc0
 clear hr0 hc0
 have HB := Aside0.mk (Below.refl w.heap.size w)
 have H : ((impl_AreTeams.f k l0).bind fun t375 => (if t375 = true then (impl_PairRound.j0 k l0 (((l0.length : Int) % 2) == 1)) else (impl_PairRound.j0 k l0 true))) = some (r1, r2) := h
 clear h
 have HC2 := Aside0.mk H
 clear H
 go_enter Try.func48, Try.ntmps48
 go_upto_region 1 with (fail)
 go_cut [12] (fun v12 wc => ∃ (kq : Nat) (x12_1 : Bool), v12 = .bool x12_1 ∧ Aside0 (impl_PairRound.j0 kq l0 x12_1 = some (r1, r2)) ∧ Aside0 (kq ≤ k) ∧ Aside0 (Below w.heap.size w wc))
 case first =>
  have H := HC2.out
  clear HC2
  replace H := Option.bind_eq_some_iff.mp H
  obtain ⟨t375, A30, H⟩ := H
  replace H : (if t375 = true then (impl_PairRound.j0 k l0 (((l0.length : Int) % 2) == 1)) else (impl_PairRound.j0 k l0 true)) = some (r1, r2) := H
  have A3 := Aside0.mk A30
  clear A30
  by_cases c4 : t375 = true
  ·
   subst c4
   have H1 : (impl_PairRound.j0 k l0 (((l0.length : Int) % 2) == 1)) = some (r1, r2) := by rw [if_pos rfl] at H; exact H
   clear H
   have H := H1
   clear H1
   have H' := Aside0.mk H
   clear H
   go_wp2_with (first | ((with_reducible refine gate_callee (f := 21) rfl ?_); refine goesL_ (some 5) rfl rfl Try.func21 (by kernel_rfl) rfl #[.slice A0 l0.length c0] rfl (by (try simp only [List.map_toArray, List.map_cons, List.map_nil]); first | done | rfl | (simp only [List.length_drop, List.length_take]; rfl)) ?_; (with_reducible refine (impl_AreTeams.calls k _ _ l0 true _ ?side1 ?side2 A3.out).mono ?_); (case side1 => repeat (first | exact (Kd.C_below HR0.out HB.out) | (with_reducible refine Kd.C_alloc ?_ _) | (with_reducible refine Kd.C_drewN ?_ _) | (with_reducible refine Kd.C_drew ?_))); (case side2 => exact HC0.out); rintro e w5 ⟨rfl, hb⟩; refine ⟨_, rfl, ?_⟩; have n0_ := Aside0.mk (below_step (by repeat (first | (with_reducible first | exact HB.out | apply below_alloc | apply pw_below_drewN | apply below_drew1) | exact HB.out)) hb); clear HB; have HB := n0_; clear n0_; (try clear hb); (try clear hb2); (try clear hk); (try clear hi)))
   go_meet
   case rel => exact ⟨_, ((((l0.length : Int) % 2) == 1)), (by first | rfl | (simp; done) | (simp [*]; done)), H', ⟨by first | omega | exact Nat.le_refl _⟩, ⟨by repeat (first | (with_reducible first | exact HB.out | apply below_alloc | apply pw_below_drewN | apply below_drew1) | exact HB.out)⟩⟩
  ·
   replace c4 := Bool.eq_false_iff.mpr c4
   subst c4
   have H1 : (impl_PairRound.j0 k l0 true) = some (r1, r2) := by rw [if_neg (show ¬ (false = true) by decide)] at H; exact H
   clear H
   have H := H1
   clear H1
   have H' := Aside0.mk H
   clear H
   go_wp2_with (first | ((with_reducible refine gate_callee (f := 21) rfl ?_); refine goesL_ (some 5) rfl rfl Try.func21 (by kernel_rfl) rfl #[.slice A0 l0.length c0] rfl (by (try simp only [List.map_toArray, List.map_cons, List.map_nil]); first | done | rfl | (simp only [List.length_drop, List.length_take]; rfl)) ?_; (with_reducible refine (impl_AreTeams.calls k _ _ l0 false _ ?side1 ?side2 A3.out).mono ?_); (case side1 => repeat (first | exact (Kd.C_below HR0.out HB.out) | (with_reducible refine Kd.C_alloc ?_ _) | (with_reducible refine Kd.C_drewN ?_ _) | (with_reducible refine Kd.C_drew ?_))); (case side2 => exact HC0.out); rintro e w6 ⟨rfl, hb⟩; refine ⟨_, rfl, ?_⟩; have n0_ := Aside0.mk (below_step (by repeat (first | (with_reducible first | exact HB.out | apply below_alloc | apply pw_below_drewN | apply below_drew1) | exact HB.out)) hb); clear HB; have HB := n0_; clear n0_; (try clear hb); (try clear hb2); (try clear hk); (try clear hi)))
   go_meet
   case rel => exact ⟨_, (true), (by first | rfl | (simp; done) | (simp [*]; done)), H', ⟨by first | omega | exact Nat.le_refl _⟩, ⟨by repeat (first | (with_reducible first | exact HB.out | apply below_alloc | apply pw_below_drewN | apply below_drew1) | exact HB.out)⟩⟩
 case rest =>
  clear HC2
  try clear c2
  try clear p2
  try clear c4
  obtain ⟨kq, x12_1, rfl, HA, HJ1, HB⟩ := hcut
  cases kq with
  | zero => exact absurd HA.out (by simp [impl_PairRound.j0])
  | succ kj1 =>
   have H := HA.out
   clear HA
   simp only [impl_PairRound.j0] at H
   by_cases c7 : x12_1 = true
   ·
    subst c7
    have H1 : (some ((([] : List (S46))), false)) = some (r1, r2) := by rw [if_pos rfl] at H; exact H
    clear H
    have H := H1
    clear H1
    obtain ⟨y376, hy376⟩ : ∃ y_ : List (S46), y_ = (([] : List (S46))) := ⟨_, rfl⟩
    replace H : (some (y376, false)) = some (r1, r2) := by first | (rw [hy376]; with_reducible exact H) | (have H2_ := (Option.bind_some _ _).symm.trans H; rw [hy376]; with_reducible exact H2_) | (have H2_ := (Option.bind_some _ _).symm.trans H; with_reducible exact H2_) | with_reducible exact H | (rw [hy376]; exact H) | exact H
    have Ny376 := Aside0.mk hy376
    clear hy376
    simp only [Option.some.injEq, Prod.mk.injEq] at H
    obtain ⟨rfl, rfl⟩ := H
    go_wp2_with (first | ((with_reducible refine gate_dst (N := 13) rfl ?_); (try (refine gate_guard (by rfl) ?_; dsimp only)); refine Kd.R_lit k46 _ 46 ?hg (N := 13) ?hd (xs := ([] : List (S46))) (inner := []) (ok := fun _ => True) (okp := fun _ => True) ?hr ?hp (fun _ hk => hk) trivial (Below.refl _ _) (Nat.le_refl _) (by simp) ?_; (case hd => rfl); (case hg => rfl); (case hr => first | (go_simp; done) | (go_simp; rfl)); (case hp => exact (Reps.none _ _)); intro v377 w8 ho9 hb hg_ hnew_; clear hg_ hnew_; (first | rw [← Ny376.out] at ho9 | (simp only [Int.reduceToNat] at ho9; rw [← Ny376.out] at ho9)); have n0_ := Aside0.mk (Kd.R_lower ho9 (below_size (by repeat (first | (with_reducible first | exact HB.out | apply below_alloc | apply pw_below_drewN | apply below_drew1) | exact HB.out)))); have n1_ := Aside0.mk (below_step (by repeat (first | (with_reducible first | exact HB.out | apply below_alloc | apply pw_below_drewN | apply below_drew1) | exact HB.out)) hb); clear HB; have HO378 := n0_; have HB := n1_; clear n0_ n1_; clear hb ho9))
    go_ret2
    exact ⟨_, by first | rfl | (simp [errW_none, errW_some] <;> rfl) | (simp [*, errW_none, errW_some] <;> rfl), by (with_reducible repeat (first | apply Kd.R_alloc | apply Kd.R_drewN | apply Kd.R_drew)); exact HO378.out, by repeat (first | (with_reducible first | exact HB.out | apply below_alloc | apply pw_below_drewN | apply below_drew1) | exact HB.out)⟩
   ·
    replace c7 := Bool.eq_false_iff.mpr c7
    subst c7
    have H1 : ((impl_Standing.f kj1 l0).bind fun t379 => ((impl_paired.f kj1 l0 t379).bind fun bt382 => (some (bt382.1, bt382.2)))) = some (r1, r2) := by rw [if_neg (show ¬ (false = true) by decide)] at H; exact H
    clear H
    have H := H1
    clear H1
    replace H := Option.bind_eq_some_iff.mp H
    obtain ⟨t379, A100, H⟩ := H
    replace H : ((impl_paired.f kj1 l0 t379).bind fun bt382 => (some (bt382.1, bt382.2))) = some (r1, r2) := H
    have A10 := Aside0.mk A100
    clear A100
    replace H := Option.bind_eq_some_iff.mp H
    obtain ⟨⟨t382, t385⟩, A110, H⟩ := H
    replace H : (some (t382, t385)) = some (r1, r2) := H
    have A11 := Aside0.mk A110
    clear A110
    simp only [Option.some.injEq, Prod.mk.injEq] at H
    obtain ⟨rfl, rfl⟩ := H
    go_wp2_with (first | ((with_reducible refine gate_callee (f := 34) rfl ?_); refine goesL_ (some 16) rfl rfl Try.func34 (by kernel_rfl) rfl #[.slice A0 l0.length c0] rfl (by (try simp only [List.map_toArray, List.map_cons, List.map_nil]); first | done | rfl | (simp only [List.length_drop, List.length_take]; rfl)) ?_; (with_reducible refine (impl_Standing.calls kj1 _ _ l0 t379 _ ?side1 ?side2 A10.out).mono ?_); (case side1 => repeat (first | exact (Kd.C_below HR0.out HB.out) | (with_reducible refine Kd.C_alloc ?_ _) | (with_reducible refine Kd.C_drewN ?_ _) | (with_reducible refine Kd.C_drew ?_))); (case side2 => exact HC0.out); rintro e w12 ⟨v380, rfl, ho0, hb⟩; refine ⟨_, rfl, ?_⟩; have n0_ := Aside0.mk (Kd.R_lower ho0 (below_size (by repeat (first | (with_reducible first | exact HB.out | apply below_alloc | apply pw_below_drewN | apply below_drew1) | exact HB.out)))); have n1_ := Aside0.mk (below_step (by repeat (first | (with_reducible first | exact HB.out | apply below_alloc | apply pw_below_drewN | apply below_drew1) | exact HB.out)) hb); clear HB; have HO381 := n0_; have HB := n1_; clear n0_ n1_; (try clear hb); (try clear hb2); (try clear hk); (try clear hi); (try clear ho0); obtain ⟨Ao13, co13, eo13⟩ := Kd.R_slice HO381.out; subst eo13) | ((with_reducible refine gate_callee (f := 77) rfl ?_); refine goesL_ (some 17) rfl rfl Try.func77 (by kernel_rfl) rfl #[.slice A0 l0.length c0, .slice Ao13 t379.length co13] rfl (by (try simp only [List.map_toArray, List.map_cons, List.map_nil]); first | done | rfl | (simp only [List.length_drop, List.length_take]; rfl)) ?_; (with_reducible refine (impl_paired.calls kj1 _ _ l0 (fun k_ => some k_ = (.slice Ao13 t379.length co13 : Value).ownBlock) _ _ t379 t382 t385 _ ?side1 ?side2 ?side3 A11.out).mono ?_); (case side1 => repeat (first | exact (Kd.C_below HR0.out HB.out) | (with_reducible refine Kd.C_alloc ?_ _) | (with_reducible refine Kd.C_drewN ?_ _) | (with_reducible refine Kd.C_drew ?_))); (case side2 => exact HC0.out); (case side3 => exact Kd.R_V (Kd.R_tight rfl (HO381.out))); rintro e w14 ⟨v383, rfl, ho0, hb⟩; refine ⟨_, rfl, ?_⟩; have n0_ := Aside0.mk (Kd.R_below (by (with_reducible repeat (first | apply Kd.R_alloc | apply Kd.R_drewN | apply Kd.R_drew)); exact HO381.out) hb); have n1_ := Aside0.mk (Kd.R_lower (Kd.R_mono (ok' := fun k_ => True) ho0 (fun _ hk_ => trivial)) (below_size (by repeat (first | (with_reducible first | exact HB.out | apply below_alloc | apply pw_below_drewN | apply below_drew1) | exact HB.out)))); have n2_ := Aside0.mk (below_step (by repeat (first | (with_reducible first | exact HB.out | apply below_alloc | apply pw_below_drewN | apply below_drew1) | exact HB.out)) hb); clear HO381; clear HB; have HO381 := n0_; have HO384 := n1_; have HB := n2_; clear n0_ n1_ n2_; (try clear hb); (try clear hb2); (try clear hk); (try clear hi); (try clear ho0)))
    go_ret2
    exact ⟨_, by first | rfl | (simp [errW_none, errW_some] <;> rfl) | (simp [*, errW_none, errW_some] <;> rfl), by (with_reducible repeat (first | apply Kd.R_alloc | apply Kd.R_drewN | apply Kd.R_drew)); exact HO384.out, by repeat (first | (with_reducible first | exact HB.out | apply below_alloc | apply pw_below_drewN | apply below_drew1) | exact HB.out)⟩
end Go.Proofs.Ytiimiogpiflkdaa.A
end

section
namespace Go.Proofs.Ytiimiogpiflkdaa.A
open Go.RowKit Go.Proofs.YtiimiogpiflkdaaW.PrintWords Go.Proofs.YtiimiogpiflkdaaW.PrintLast Go.Proofs.YtiimiogpiflkdaaW.PrintMore
attribute [local go_sem] max2_int min2_int max_two min_two max_three min_three max_four min_four   -- for this text's walks alone
set_option linter.unusedVariables false
set_option linter.unusedSimpArgs false
def laws_markPairS.l0 : Nat → List (S46) → Int → Int → Option (Int × (List (S46)))
  | 0, _, _, _ => none
  | k + 1, x0, x1, x5 => if x5 < (x0.length : Int) then (if 0 ≤ x5 then ((some (x0.set (x5 : Int).toNat (⟨x1, (rd_T46 x0 x5).f1⟩ : S46) : List (S46))).bind fun y386 => (laws_markPairS.l0 k (y386.set (x5 : Int).toNat (⟨(rd_T46 y386 x5).f0, wrap64 (x1 + 1)⟩ : S46)) (wrap64 ((wrap64 (x1 + 1)) + 1)) (wrap64 (x5 + 1)))) else (none)) else (some (x1, x0))
def laws_markPairS.f (k : Nat) (l0 : List (S46)) (a1 : Int) : Option (Int × (List (S46))) := laws_markPairS.l0 k l0 a1 0
set_option maxHeartbeats 8000000 in
set_option maxRecDepth 100000 in
theorem laws_markPairS.calls (k : Nat) (P0_ : Nat → Prop) (u9000_ : Value) (l0 : List (S46)) (a1 : Int) (r1 : Int) (r2 : List (S46)) (w0 w : World) (hB : Below w0.heap.size w0 w) (ho0 : Kd.R k46 46 w w0.heap.size P0_ u9000_ l0) (h : laws_markPairS.f k l0 a1 = some (r1, r2)) :
  Calls Try.prog 49 #[u9000_, .int .i64 a1] w fun e w' => e = .returned (.int .i64 r1) ∧ Kd.R k46 46 w' w0.heap.size (fun k_ => (P0_ k_ ∨ w.heap.size ≤ k_)) u9000_ r2 ∧ Below w0.heap.size w0 w' ∧ Kept w w' (fun k_ => P0_ k_) := by
 have HO0 := Aside0.mk (show Kd.R k46 46 w w0.heap.size (fun k_ => (P0_ k_ ∨ w.heap.size ≤ k_)) u9000_ l0 from Kd.R_mono ho0 (fun k_ hk => (.inl hk)))
 have HK := Aside0.mk (Kept.refl w (fun k_ => P0_ k_))
 have HW0 := Aside0.mk hB.size
 have HB := Aside0.mk hB
 clear hB
 have H : (laws_markPairS.l0 k l0 a1 0) = some (r1, r2) := h
 clear h
 have H' := Aside0.mk H
 clear H
 go_enter Try.func49, Try.ntmps49
 go_wp2
 go_loopg [1, 5] k (fun kq v1 v5 w' => ∃ (x0_1 : List (S46)) (x1_1 : Int) (x5_1 : Int), v1 = .int .i64 x1_1 ∧ v5 = .int .i64 x5_1 ∧ Aside0 (laws_markPairS.l0 kq x0_1 x1_1 x5_1 = some (r1, r2)) ∧ Aside0 (kq ≤ k) ∧ Aside0 (Kd.R k46 46 w' w0.heap.size (fun k_ => (P0_ k_ ∨ w.heap.size ≤ k_)) u9000_ x0_1) ∧ Aside0 (Kept w w' (fun k_ => P0_ k_)) ∧ Aside0 (Below w0.heap.size w0 w'))
 case atStart => exact ⟨(l0), (a1), (0), (by first | rfl | (simp; done) | (simp [*]; done)), (by first | rfl | (simp; done) | (simp [*]; done)), H', ⟨Nat.le_refl _⟩, ⟨by (with_reducible repeat (first | apply Kd.R_alloc | apply Kd.R_drewN | apply Kd.R_drew)); exact HO0.out⟩, ⟨by repeat (first | (with_reducible first | exact HK.out | apply Kept.alloc | apply Kept.drewN | apply Kept.drew) | exact HK.out)⟩, ⟨by repeat (first | (with_reducible first | exact HB.out | apply below_alloc | apply pw_below_drewN | apply below_drew1) | exact HB.out)⟩⟩
 case round =>
  clear H'
  try clear p2
  obtain ⟨x0_1, x1_1, x5_1, rfl, rfl, HA, HK1, HO_0, HK, HB⟩ := hrel
  cases gk with
  | zero => exact absurd HA.out (by simp [laws_markPairS.l0])
  | succ k1 =>
   have H := HA.out
   clear HA
   simp only [laws_markPairS.l0] at H
   by_cases c3 : x5_1 < (x0_1.length : Int)
   ·
    rw [if_pos c3] at H
    have c3b0 : decide (x5_1 < (x0_1.length : Int)) = true := decide_eq_true c3
    clear c3
    by_cases c4 : 0 ≤ x5_1
    ·
     rw [if_pos c4] at H
     have c4b0 : decide (0 ≤ x5_1) = true := decide_eq_true c4
     clear c4
     obtain ⟨y386, hy386⟩ : ∃ y_ : List (S46), y_ = (x0_1.set (x5_1 : Int).toNat (⟨x1_1, (rd_T46 x0_1 x5_1).f1⟩ : S46)) := ⟨_, rfl⟩
     replace H : (laws_markPairS.l0 k1 (y386.set (x5_1 : Int).toNat (⟨(rd_T46 y386 x5_1).f0, wrap64 (x1_1 + 1)⟩ : S46)) (wrap64 ((wrap64 (x1_1 + 1)) + 1)) (wrap64 (x5_1 + 1))) = some (r1, r2) := by first | (rw [hy386]; with_reducible exact H) | (have H2_ := (Option.bind_some _ _).symm.trans H; rw [hy386]; with_reducible exact H2_) | (have H2_ := (Option.bind_some _ _).symm.trans H; with_reducible exact H2_) | with_reducible exact H | (rw [hy386]; exact H) | exact H
     have Ny386 := Aside0.mk hy386
     clear hy386
     obtain ⟨y387, hy387⟩ : ∃ y_ : List (S46), y_ = (y386.set (x5_1 : Int).toNat (⟨(rd_T46 y386 x5_1).f0, wrap64 (x1_1 + 1)⟩ : S46)) := ⟨_, rfl⟩
     replace H : (laws_markPairS.l0 k1 y387 (wrap64 ((wrap64 (x1_1 + 1)) + 1)) (wrap64 (x5_1 + 1))) = some (r1, r2) := by first | (rw [hy387]; with_reducible exact H) | (have H2_ := (Option.bind_some _ _).symm.trans H; rw [hy387]; with_reducible exact H2_) | (have H2_ := (Option.bind_some _ _).symm.trans H; with_reducible exact H2_) | with_reducible exact H | (rw [hy387]; exact H) | exact H
     have Ny387 := Aside0.mk hy387
     clear hy387
     have H' := Aside0.mk H
     clear H
     obtain ⟨Ao7, co7, eo7⟩ := Kd.R_slice HO_0.out
     subst eo7
     have p5 : 0 ≤ (x5_1 : Int) := of_decide_eq_true (by first | (with_reducible assumption) | assumption)
     have q5 : (x5_1 : Int) < ((x0_1.length : Int) : Int) := of_decide_eq_true (by first | (with_reducible assumption) | assumption)
     obtain ⟨go5, co5, eo5, gb5, gl5, cl5, HG5⟩ := Kd.R_form HO_0.out (by omega)
     (first | cases eo5 | (injection eo5 with ea_ en_ ec_; (first | subst ea_ | (injection ea_ with ea_; subst ea_)); subst ec_; clear en_))
     have GB5 := Aside0.mk gb5
     have GG5 := Aside0.mk HG5
     clear gb5 gl5 HG5
     have HMgo5 := Aside0.mk (show (P0_ go5 ∨ w.heap.size ≤ go5) from (HO_0.out.1 _ rfl))
     obtain ⟨ce5, hcl5, hM5, hcc5, hfr5⟩ := Kd.R_elem HO_0.out z46 (x5_1 : Int) p5 q5
     obtain rfl := k46_openM hM5
     have hx5_0 : wr.cell? ⟨go5, (x5_1 : Int).toNat * 2, none⟩ = some (.int .i64 ((rd_T46 x0_1 x5_1).f0)) := hcc5 0 _ rfl
     have hx5_1 : wr.cell? ⟨go5, (x5_1 : Int).toNat * 2 + 1, none⟩ = some (.int .i64 ((rd_T46 x0_1 x5_1).f1)) := hcc5 1 _ rfl
     have hf5_0 : wr.frozen? ⟨go5, (x5_1 : Int).toNat * 2, none⟩ = false := hfr5 0
     have hf5_1 : wr.frozen? ⟨go5, (x5_1 : Int).toNat * 2 + 1, none⟩ = false := hfr5 1
     clear hcl5 hcc5 hfr5 hM5
     replace p5 := eq_true p5
     replace q5 := eq_true q5
     have HX8 := Aside0.mk (show Kd.R k46 46 wr w0.heap.size (fun k_ => (P0_ k_ ∨ w.heap.size ≤ k_)) (.slice (some ⟨go5, 0, none⟩) x0_1.length co7) x0_1 from (by (with_reducible repeat (first | apply Kd.R_alloc | apply Kd.R_drewN | apply Kd.R_drew)); exact HO_0.out))
     obtain ⟨ce8, hcl8, hM8, hcc8, hfr8⟩ := Kd.R_elem HX8.out z46 (x5_1 : Int) (of_decide_eq_true (by first | (with_reducible assumption) | assumption)) (by have h_ : (x5_1 : Int) < ((x0_1.length : Int) : Int) := of_decide_eq_true (by first | (with_reducible assumption) | assumption); first | exact h_ | (have e_ := (Kd.R_reads' HO_0.out).1; omega) | simpa using h_)
     obtain rfl := k46_openM hM8
     have HP8 := Kd.R_seg HX8.out (x5_1 : Int) (of_decide_eq_true (by first | (with_reducible assumption) | assumption)) (by have h_ : (x5_1 : Int) < ((x0_1.length : Int) : Int) := of_decide_eq_true (by first | (with_reducible assumption) | assumption); first | exact h_ | (have e_ := (Kd.R_reads' HO_0.out).1; omega) | simpa using h_) (seg := [.int .i64 x1_1]) (j := 0) hcl8 hcc8 (show 1 ≤ 2 from by decide) (x' := (⟨x1_1, (rd_T46 x0_1 x5_1).f1⟩ : S46)) (k46_mkM _ _ _ (⟨x1_1, (rd_T46 x0_1 x5_1).f1⟩ : S46) ) (fun _ hk => hk)
     have hx8_0 := hcc8 0 _ rfl
     (try simp only [show (k46).sz = 2 from rfl, Nat.mul_one, Nat.add_zero] at hx8_0)
     have hf8_0 := hfr8 0
     (try simp only [show (k46).sz = 2 from rfl, Nat.mul_one, Nat.add_zero] at hf8_0)
     clear hcl8 hcc8 hfr8 hM8
     go_wp2_with (first | ((with_reducible refine gate_store (t := 3) (p := 16) rfl ?_); refine store_event (t := 3) (p := 16) (v := ?vo_w9) (w1 := (wr.setCell ⟨go5, (x5_1 : Int).toNat * 2, none⟩ (.int .i64 x1_1))) ?hg ?ho ?hn ?hr ?_; (case ho => rfl); (case hg => rfl); (case hn => rfl); (case hr => first | (go_simp; done) | (go_simp; rfl)); intro w9 hw; have hg : wr.grownBy w9 (some go5) := (by rw [hw]; exact HP8.2); have hp_ : Kd.R k46 46 w9 w0.heap.size (fun k_ => (P0_ k_ ∨ w.heap.size ≤ k_)) (.slice (some ⟨go5, 0, none⟩) x0_1.length co7) y386 := (by rw [hw, Ny386.out]; exact HP8.1); clear HP8; have n0_ := Aside0.mk (hp_); have n1_ := Aside0.mk ((by rw [hw]; exact below_set (HB.out) GB5.out : Below w0.heap.size w0 w9)); have n2_ := Aside0.mk (Kept.of_grown (S := (fun k_ => P0_ k_)) hg (by repeat (first | (with_reducible first | exact HK.out | apply Kept.alloc | apply Kept.drewN | apply Kept.drew) | exact HK.out)) (fun k_ e_ => (HO_0.out.1 k_ e_))); clear HO_0; clear HB; clear HK; have HO_0 := n0_; have HB := n1_; have HK := n2_; clear n0_ n1_ n2_; clear hg hw hp_; have p6 : 0 ≤ (x5_1 : Int) := of_decide_eq_true (by first | (with_reducible assumption) | assumption); have q6 : (x5_1 : Int) < ((x0_1.length : Int) : Int) := of_decide_eq_true (by first | (with_reducible assumption) | assumption); obtain ⟨ce6, hcl6, hM6, hcc6, hfr6⟩ := Kd.R_elem HO_0.out z46 (x5_1 : Int) p6 q6; obtain rfl := k46_openM hM6; have hx6_0 : w9.cell? ⟨go5, (x5_1 : Int).toNat * 2, none⟩ = some (.int .i64 ((rd_T46 y386 x5_1).f0)) := hcc6 0 _ rfl; have hx6_1 : w9.cell? ⟨go5, (x5_1 : Int).toNat * 2 + 1, none⟩ = some (.int .i64 ((rd_T46 y386 x5_1).f1)) := hcc6 1 _ rfl; have hf6_0 : w9.frozen? ⟨go5, (x5_1 : Int).toNat * 2, none⟩ = false := hfr6 0; have hf6_1 : w9.frozen? ⟨go5, (x5_1 : Int).toNat * 2 + 1, none⟩ = false := hfr6 1; clear hcl6 hcc6 hfr6 hM6; replace p6 := eq_true p6; replace q6 := eq_true q6; have HX10 := Aside0.mk (show Kd.R k46 46 w9 w0.heap.size (fun k_ => (P0_ k_ ∨ w.heap.size ≤ k_)) (.slice (some ⟨go5, 0, none⟩) x0_1.length co7) y386 from (by (with_reducible repeat (first | apply Kd.R_alloc | apply Kd.R_drewN | apply Kd.R_drew)); exact HO_0.out)); obtain ⟨ce10, hcl10, hM10, hcc10, hfr10⟩ := Kd.R_elem HX10.out z46 (x5_1 : Int) (of_decide_eq_true (by first | (with_reducible assumption) | assumption)) (by have h_ : (x5_1 : Int) < ((x0_1.length : Int) : Int) := of_decide_eq_true (by first | (with_reducible assumption) | assumption); first | exact h_ | (have e_ := (Kd.R_reads' HO_0.out).1; omega) | simpa using h_); obtain rfl := k46_openM hM10; have HP10 := Kd.R_seg HX10.out (x5_1 : Int) (of_decide_eq_true (by first | (with_reducible assumption) | assumption)) (by have h_ : (x5_1 : Int) < ((x0_1.length : Int) : Int) := of_decide_eq_true (by first | (with_reducible assumption) | assumption); first | exact h_ | (have e_ := (Kd.R_reads' HO_0.out).1; omega) | simpa using h_) (seg := [.int .i64 (wrap64 (x1_1 + 1))]) (j := 1) hcl10 hcc10 (show 2 ≤ 2 from by decide) (x' := (⟨(rd_T46 y386 x5_1).f0, wrap64 (x1_1 + 1)⟩ : S46)) (k46_mkM _ _ _ (⟨(rd_T46 y386 x5_1).f0, wrap64 (x1_1 + 1)⟩ : S46) ) (fun _ hk => hk); have hx10_1 := hcc10 1 _ rfl; (try simp only [show (k46).sz = 2 from rfl, Nat.mul_one, Nat.add_zero] at hx10_1); have hf10_1 := hfr10 1; (try simp only [show (k46).sz = 2 from rfl, Nat.mul_one, Nat.add_zero] at hf10_1); clear hcl10 hcc10 hfr10 hM10) | ((with_reducible refine gate_store (t := 3) (p := 23) rfl ?_); refine store_event (t := 3) (p := 23) (v := ?vo_w11) (w1 := (w9.setCell ⟨go5, (x5_1 : Int).toNat * 2 + 1, none⟩ (.int .i64 (wrap64 (x1_1 + 1))))) ?hg ?ho ?hn ?hr ?_; (case ho => rfl); (case hg => rfl); (case hn => rfl); (case hr => first | (go_simp; done) | (go_simp; rfl)); intro w11 hw; have hg : w9.grownBy w11 (some go5) := (by rw [hw]; exact HP10.2); have hp_ : Kd.R k46 46 w11 w0.heap.size (fun k_ => (P0_ k_ ∨ w.heap.size ≤ k_)) (.slice (some ⟨go5, 0, none⟩) x0_1.length co7) y387 := (by rw [hw, Ny387.out]; exact HP10.1); clear HP10; have n0_ := Aside0.mk (hp_); have n1_ := Aside0.mk ((by rw [hw]; exact below_set (HB.out) GB5.out : Below w0.heap.size w0 w11)); have n2_ := Aside0.mk (Kept.of_grown (S := (fun k_ => P0_ k_)) hg (by repeat (first | (with_reducible first | exact HK.out | apply Kept.alloc | apply Kept.drewN | apply Kept.drew) | exact HK.out)) (fun k_ e_ => (HO_0.out.1 k_ e_))); clear HO_0; clear HB; clear HK; have HO_0 := n0_; have HB := n1_; have HK := n2_; clear n0_ n1_ n2_; clear hg hw hp_))
     go_roundg k1
     case measure => have := HK1.out; omega
     case rel => exact ⟨(y387), (wrap64 ((wrap64 (x1_1 + 1)) + 1)), (wrap64 (x5_1 + 1)), (by first | rfl | (simp; done) | (simp [*]; done)), (by first | rfl | (simp; done) | (simp [*]; done)), H', ⟨by have := HK1.out; omega⟩, ⟨by (with_reducible repeat (first | apply Kd.R_alloc | apply Kd.R_drewN | apply Kd.R_drew)); exact HO_0.out⟩, ⟨by repeat (first | (with_reducible first | exact HK.out | apply Kept.alloc | apply Kept.drewN | apply Kept.drew) | exact HK.out)⟩, ⟨by repeat (first | (with_reducible first | exact HB.out | apply below_alloc | apply pw_below_drewN | apply below_drew1) | exact HB.out)⟩⟩
    ·
     rw [if_neg c4] at H
     exact absurd H (by simp)
   ·
    rw [if_neg c3] at H
    have c3b0 : decide (x5_1 < (x0_1.length : Int)) = false := decide_eq_false c3
    clear c3
    simp only [Option.some.injEq, Prod.mk.injEq] at H
    obtain ⟨rfl, rfl⟩ := H
    obtain ⟨Ao12, co12, eo12⟩ := Kd.R_slice HO_0.out
    subst eo12
    go_wp2
    go_ret
    exact ⟨by first | rfl | (simp [errW_none, errW_some] <;> rfl) | (simp [*, errW_none, errW_some] <;> rfl), by (with_reducible repeat (first | apply Kd.R_alloc | apply Kd.R_drewN | apply Kd.R_drew)); exact HO_0.out, by repeat (first | (with_reducible first | exact HB.out | apply below_alloc | apply pw_below_drewN | apply below_drew1) | exact HB.out), by repeat (first | (with_reducible first | exact HK.out | apply Kept.alloc | apply Kept.drewN | apply Kept.drew) | exact HK.out)⟩
end Go.Proofs.Ytiimiogpiflkdaa.A
end

section
namespace Go.Proofs.Ytiimiogpiflkdaa.A
open Go.RowKit Go.Proofs.YtiimiogpiflkdaaW.PrintWords Go.Proofs.YtiimiogpiflkdaaW.PrintLast Go.Proofs.YtiimiogpiflkdaaW.PrintMore
attribute [local go_sem] max2_int min2_int max_two min_two max_three min_three max_four min_four   -- for this text's walks alone
set_option linter.unusedVariables false
set_option linter.unusedSimpArgs false
def laws_heldPairS.l0 : Nat → List (S46) → Int → Int → Option (Int)
  | 0, _, _, _ => none
  | k + 1, x0, x1, x5 => if x5 < (x0.length : Int) then (if 0 ≤ x5 then (if ((rd_T46 x0 x5).f0) = x1 then (if ((rd_T46 x0 x5).f1) = (wrap64 (x1 + 1)) then (laws_heldPairS.l0 k x0 (wrap64 ((wrap64 (x1 + 1)) + 1)) (wrap64 (x5 + 1))) else (some (-1))) else (some (-1))) else (none)) else (some x1)
def laws_heldPairS.f (k : Nat) (l0 : List (S46)) (a1 : Int) : Option (Int) := laws_heldPairS.l0 k l0 a1 0
set_option maxHeartbeats 8000000 in
set_option maxRecDepth 100000 in
theorem laws_heldPairS.calls (k : Nat) (A0 : Option Addr) (c0 : Nat) (l0 : List (S46)) (a1 : Int) (r : Int) (w : World) (hr0 : Kd.C k46 w A0 l0.length l0) (hc0 : l0.length ≤ c0) (h : laws_heldPairS.f k l0 a1 = some r) :
  Calls Try.prog 50 #[.slice A0 l0.length c0, .int .i64 a1] w fun e w' => e = .returned (.int .i64 r) ∧ Drawn0 w w' := by
 have HR0 := Aside0.mk hr0
 have HC0 := Aside0.mk hc0
 clear hr0 hc0
 have H : (laws_heldPairS.l0 k l0 a1 0) = some r := h
 clear h
 have H' := Aside0.mk H
 clear H
 go_enter Try.func50, Try.ntmps50
 go_wp2
 go_loopg [1, 5] k (fun kq v1 v5 w' => ∃ (x1_1 : Int) (x5_1 : Int), v1 = .int .i64 x1_1 ∧ v5 = .int .i64 x5_1 ∧ Aside0 (laws_heldPairS.l0 kq l0 x1_1 x5_1 = some r) ∧ Aside0 (kq ≤ k) ∧ Drawn0 w w')
 case atStart => exact ⟨(a1), (0), (by first | rfl | (simp; done) | (simp [*]; done)), (by first | rfl | (simp; done) | (simp [*]; done)), H', ⟨Nat.le_refl _⟩, by repeat (first | exact Drawn0.refl _ | apply Drawn0.step)⟩
 case round =>
  clear H'
  try clear p2
  obtain ⟨x1_1, x5_1, rfl, rfl, HA, HK1, ⟨m1, rfl⟩⟩ := hrel
  cases gk with
  | zero => exact absurd HA.out (by simp [laws_heldPairS.l0])
  | succ k1 =>
   have H := HA.out
   clear HA
   simp only [laws_heldPairS.l0] at H
   by_cases c3 : x5_1 < (l0.length : Int)
   ·
    rw [if_pos c3] at H
    have c3b0 : decide (x5_1 < (l0.length : Int)) = true := decide_eq_true c3
    clear c3
    by_cases c4 : 0 ≤ x5_1
    ·
     rw [if_pos c4] at H
     have c4b0 : decide (0 ≤ x5_1) = true := decide_eq_true c4
     clear c4
     by_cases c5 : ((rd_T46 l0 x5_1).f0) = x1_1
     ·
      rw [if_pos c5] at H
      have c5b0 : (((rd_T46 l0 x5_1).f0) == x1_1) = true := beq_iff_eq.mpr c5
      have c5b1 : (((rd_T46 l0 x5_1).f0) != x1_1) = false := bne_eq_false_iff_eq.mpr c5
      clear c5
      by_cases c6 : ((rd_T46 l0 x5_1).f1) = (wrap64 (x1_1 + 1))
      ·
       rw [if_pos c6] at H
       have c6b0 : (((rd_T46 l0 x5_1).f1) == (wrap64 (x1_1 + 1))) = true := beq_iff_eq.mpr c6
       have c6b1 : (((rd_T46 l0 x5_1).f1) != (wrap64 (x1_1 + 1))) = false := bne_eq_false_iff_eq.mpr c6
       clear c6
       have H' := Aside0.mk H
       clear H
       have p388 : 0 ≤ (x5_1 : Int) := of_decide_eq_true (by first | (with_reducible assumption) | assumption)
       have q388 : x5_1 < (l0.length : Int) := of_decide_eq_true (by first | (with_reducible assumption) | assumption)
       obtain ⟨ad388, e388, hx388_0, hx388_1⟩ := at_T46 HR0.out x5_1 p388 q388
       cases e388
       replace p388 := eq_true p388
       replace q388 := eq_true q388
       have p389 : 0 ≤ (x5_1 : Int) := of_decide_eq_true (by first | (with_reducible assumption) | assumption)
       have q389 : x5_1 < (l0.length : Int) := of_decide_eq_true (by first | (with_reducible assumption) | assumption)
       obtain ⟨ad389, e389, hx389_0, hx389_1⟩ := at_T46 HR0.out x5_1 p389 q389
       obtain rfl : ad388 = ad389 := (by injection e389)
       replace p389 := eq_true p389
       replace q389 := eq_true q389
       go_wp2
       go_roundg k1
       case measure => have := HK1.out; omega
       case rel => exact ⟨(wrap64 ((wrap64 (x1_1 + 1)) + 1)), (wrap64 (x5_1 + 1)), (by first | rfl | (simp; done) | (simp [*]; done)), (by first | rfl | (simp; done) | (simp [*]; done)), H', ⟨by have := HK1.out; omega⟩, by repeat (first | exact Drawn0.refl _ | apply Drawn0.step)⟩
      ·
       rw [if_neg c6] at H
       have c6b0 : (((rd_T46 l0 x5_1).f1) == (wrap64 (x1_1 + 1))) = false := beq_eq_false_iff_ne.mpr c6
       have c6b1 : (((rd_T46 l0 x5_1).f1) != (wrap64 (x1_1 + 1))) = true := bne_iff_ne.mpr c6
       obtain rfl := Option.some.inj H
       have p388 : 0 ≤ (x5_1 : Int) := of_decide_eq_true (by first | (with_reducible assumption) | assumption)
       have q388 : x5_1 < (l0.length : Int) := of_decide_eq_true (by first | (with_reducible assumption) | assumption)
       obtain ⟨ad388, e388, hx388_0, hx388_1⟩ := at_T46 HR0.out x5_1 p388 q388
       cases e388
       replace p388 := eq_true p388
       replace q388 := eq_true q388
       have p389 : 0 ≤ (x5_1 : Int) := of_decide_eq_true (by first | (with_reducible assumption) | assumption)
       have q389 : x5_1 < (l0.length : Int) := of_decide_eq_true (by first | (with_reducible assumption) | assumption)
       obtain ⟨ad389, e389, hx389_0, hx389_1⟩ := at_T46 HR0.out x5_1 p389 q389
       obtain rfl : ad388 = ad389 := (by injection e389)
       replace p389 := eq_true p389
       replace q389 := eq_true q389
       go_wp2
       go_ret
       exact ⟨by first | rfl | (simp; done) | (simp [*]; done), by repeat (first | exact Drawn0.refl _ | apply Drawn0.step)⟩
     ·
      rw [if_neg c5] at H
      have c5b0 : (((rd_T46 l0 x5_1).f0) == x1_1) = false := beq_eq_false_iff_ne.mpr c5
      have c5b1 : (((rd_T46 l0 x5_1).f0) != x1_1) = true := bne_iff_ne.mpr c5
      obtain rfl := Option.some.inj H
      have p388 : 0 ≤ (x5_1 : Int) := of_decide_eq_true (by first | (with_reducible assumption) | assumption)
      have q388 : x5_1 < (l0.length : Int) := of_decide_eq_true (by first | (with_reducible assumption) | assumption)
      obtain ⟨ad388, e388, hx388_0, hx388_1⟩ := at_T46 HR0.out x5_1 p388 q388
      cases e388
      replace p388 := eq_true p388
      replace q388 := eq_true q388
      go_wp2
      go_ret
      exact ⟨by first | rfl | (simp; done) | (simp [*]; done), by repeat (first | exact Drawn0.refl _ | apply Drawn0.step)⟩
    ·
     rw [if_neg c4] at H
     exact absurd H (by simp)
   ·
    rw [if_neg c3] at H
    have c3b0 : decide (x5_1 < (l0.length : Int)) = false := decide_eq_false c3
    clear c3
    obtain rfl := Option.some.inj H
    go_wp2
    go_ret
    exact ⟨by first | rfl | (simp; done) | (simp [*]; done), by repeat (first | exact Drawn0.refl _ | apply Drawn0.step)⟩
end Go.Proofs.Ytiimiogpiflkdaa.A
end

section
set_option linter.unusedVariables false
set_option linter.unusedSimpArgs false
namespace Go.Proofs.Ytiimiogpiflkdaa.M
open Go Go.RowKit Go.Proofs.YtiimiogpiflkdaaW.PrintWords
structure MI (P : Nat → Prop) (w w' : World) : Prop where
  os : w'.os = w.os
  tape : w'.tape = w.tape
  output : w'.output = w.output
  size : w.heap.size ≤ w'.heap.size
  keep : ∀ k, k < w.heap.size → ¬ P k → w'.heap[k]? = w.heap[k]?
  int : ∀ p x, w.cell? p = some (.int .i64 x) → ∃ x', w'.cell? p = some (.int .i64 x')
  oth : ∀ p v, w.cell? p = some v → (∀ x, v ≠ .int .i64 x) → w'.cell? p = some v
  froz : ∀ p, p.block < w.heap.size → w'.frozen? p = w.frozen? p
theorem MI.refl (P : Nat → Prop) (w : World) : MI P w w := ⟨rfl, rfl, rfl, Nat.le_refl _, fun _ _ _ => rfl, fun _ x h => ⟨x, h⟩, fun _ _ h _ => h, fun _ _ => rfl⟩
theorem MI.trans {P : Nat → Prop} {a b c : World} (h : MI P a b) (k : MI P b c) : MI P a c where
  os := k.os.trans h.os
  tape := k.tape.trans h.tape
  output := k.output.trans h.output
  size := Nat.le_trans h.size k.size
  keep := fun i hi hn => (k.keep i (Nat.lt_of_lt_of_le hi h.size) hn).trans (h.keep i hi hn)
  int := fun p x hx => by
    obtain ⟨y, hy⟩ := h.int p x hx
    exact k.int p y hy
  oth := fun p v hv hn => k.oth p v (h.oth p v hv hn) hn
  froz := fun p hp => (k.froz p (Nat.lt_of_lt_of_le hp h.size)).trans (h.froz p hp)
theorem MI.drewN {P : Nat → Prop} {a b : World} (h : MI P a b) (n : Nat) : MI P a (b.drewN n) := ⟨h.os, h.tape, h.output, h.size, h.keep, h.int, h.oth, h.froz⟩
theorem MI.drew {P : Nat → Prop} {a b : World} (h : MI P a b) : MI P a b.drew := ⟨h.os, h.tape, h.output, h.size, h.keep, h.int, h.oth, h.froz⟩
theorem heap_set_ne {w : World} {g o k : Nat} {u : Value} (h : k ≠ g) : (w.setCell ⟨g, o, none⟩ u).heap[k]? = w.heap[k]? := by
  simp [World.setCell, Array.getElem?_modify, Ne.symm h]
theorem heap_set_size (w : World) (p : Addr) (u : Value) : (w.setCell p u).heap.size = w.heap.size := by simp [World.setCell]
theorem cell_set_ne {w : World} {g o : Nat} {q : Addr} {u : Value} (h : q.block = g → q.off ≠ o) : (w.setCell ⟨g, o, none⟩ u).cell? q = w.cell? q := by
  unfold World.cell? World.setCell
  simp only [Array.getElem?_modify]
  by_cases e : g = q.block
  · subst e
    simp only [if_true]
    cases w.heap[q.block]? with
    | none => rfl
    | some ob =>
      cases ob with
      | cells c t f =>
        simp only [Option.map_some]
        simp [Array.getElem?_setIfInBounds_ne (h rfl).symm]
      | _ => rfl
  · simp [e]
theorem frozen_set {w : World} {p q : Addr} {u : Value} : (w.setCell p u).frozen? q = w.frozen? q := by
  unfold World.frozen? World.setCell
  simp only [Array.getElem?_modify]
  by_cases e : p.block = q.block
  · simp only [e, if_true]
    cases w.heap[q.block]? with
    | none => rfl
    | some ob => cases ob <;> rfl
  · simp [e]
theorem cell_set_same {w : World} {g o : Nat} {v u : Value} (h : w.cell? ⟨g, o, none⟩ = some v) : (w.setCell ⟨g, o, none⟩ u).cell? ⟨g, o, none⟩ = some u := by
  unfold World.cell? World.setCell at *
  simp only [Array.getElem?_modify, if_true]
  cases e : w.heap[g]? with
  | none => simp [e] at h
  | some ob =>
    cases ob with
    | cells c t f =>
      simp [e] at h
      have := (Array.getElem?_eq_some_iff.1 h).1
      simp [this]
    | _ => simp [e] at h
theorem cell_spot {w : World} {p : Addr} {v : Value} (h : w.cell? p = some v) : p.spot = none := by
  unfold World.cell? at h
  split at h
  · split at h
    · cases h
    · rename_i hs
      simpa using hs
  · cases h
theorem MI.set {P : Nat → Prop} {a b : World} (h : MI P a b) {g o : Nat} {x : Int} (hg : P g) (hc : b.cell? ⟨g, o, none⟩ = some (.int .i64 x)) (y : Int) : MI P a (b.setCell ⟨g, o, none⟩ (.int .i64 y)) := by
  refine h.trans ⟨rfl, rfl, rfl, Nat.le_of_eq (heap_set_size _ _ _).symm, fun k _ hn => heap_set_ne (fun e => hn (e ▸ hg)), fun p x' hx => ?_, fun p v hv hn => ?_, fun p _ => frozen_set⟩
  · by_cases e : p.block = g ∧ p.off = o
    · have hs := cell_spot hx
      obtain ⟨pb, po, ps⟩ := p
      obtain ⟨rfl, rfl⟩ := e
      cases hs
      exact ⟨y, cell_set_same hx⟩
    · exact ⟨x', by rw [cell_set_ne (fun h1 h2 => e ⟨h1, h2⟩)]; exact hx⟩
  · refine (cell_set_ne (fun h1 h2 => ?_)).trans hv
    have hs := cell_spot hv
    obtain ⟨pb, po, ps⟩ := p
    cases h1
    cases h2
    cases hs
    rw [hv] at hc
    exact hn x (Option.some.inj hc)
theorem MI.kept {P : Nat → Prop} {a b : World} (h : MI P a b) : Kept a b P := ⟨h.size, h.keep⟩
theorem MI.below {P : Nat → Prop} {a b : World} (h : MI P a b) {w0 : World} (hb : Below w0.heap.size w0 a) (hp : ∀ k, P k → w0.heap.size ≤ k) : Below w0.heap.size w0 b :=
  hb.trans ⟨h.os, h.tape, h.output, h.size, fun k hk => h.keep k (Nat.lt_of_lt_of_le hk hb.size) (fun hq => by have := hp k hq; omega)⟩
def RowI (P : Nat → Prop) (w : World) (A : Option Addr) (n : Nat) : Prop := n ≤ 4611686018427387904 ∧ (0 < n → ∃ g, A = some ⟨g, 0, none⟩ ∧ P g ∧ g < w.heap.size ∧ ∀ j, j < n → (∃ x, w.cell? ⟨g, j, none⟩ = some (.int .i64 x)) ∧ w.frozen? ⟨g, j, none⟩ = false)
theorem RowI.mi {P Q : Nat → Prop} {w w' : World} {A : Option Addr} {n : Nat} (h : RowI P w A n) (k : MI Q w w') : RowI P w' A n :=
  ⟨h.1, fun hn => by
    obtain ⟨g, e, hp, hlt, hc⟩ := h.2 hn
    exact ⟨g, e, hp, Nat.lt_of_lt_of_le hlt k.size, fun j hj => by
      obtain ⟨⟨x, hx⟩, hf⟩ := hc j hj
      exact ⟨k.int _ x hx, by rw [k.froz _ hlt]; exact hf⟩⟩⟩
theorem RowI.of_R {P : Nat → Prop} {w : World} {base : Nat} {A : Option Addr} {n c : Nat} {xs : List Int} (h : Kd.R (Kd.int .i64) 3 w base P (.slice A n c) xs) (hl : xs.length ≤ 4611686018427387904) : RowI P w A n := by
  obtain ⟨hn, _, _⟩ := Kd.R_reads' h
  subst hn
  refine ⟨hl, fun hp => ?_⟩
  obtain ⟨g, cap, e, _, hlt, _⟩ := Kd.R_form h hp
  injection e with e1 e2 e3
  subst e1 e3
  refine ⟨g, rfl, h.1 g rfl, hlt, fun j hj => ?_⟩
  obtain ⟨h1, h2⟩ := Kd.R_celln 0 h (j : Int) (by omega) (by omega)
  exact ⟨⟨_, by simpa using h1⟩, by simpa using h2⟩
def RowS (m : Nat) (P : Nat → Prop) (w : World) (A : Option Addr) (ns : List Nat) : Prop :=
  ns.length ≤ 4611686018427387904 ∧ (0 < ns.length → ∃ g, A = some ⟨g, 0, none⟩ ∧ P g ∧ g < w.heap.size ∧ ∀ (i : Nat) (hi : i < ns.length), (∀ j, j < m → (∃ x, w.cell? ⟨g, i * (m + 1) + j, none⟩ = some (.int .i64 x)) ∧ w.frozen? ⟨g, i * (m + 1) + j, none⟩ = false) ∧ ∃ B c, w.cell? ⟨g, i * (m + 1) + m, none⟩ = some (.slice B ns[i] c) ∧ RowI P w B ns[i])
theorem RowS.mi {m : Nat} {P Q : Nat → Prop} {w w' : World} {A : Option Addr} {ns : List Nat} (h : RowS m P w A ns) (k : MI Q w w') : RowS m P w' A ns :=
  ⟨h.1, fun hn => by
    obtain ⟨g, e, hp, hlt, hc⟩ := h.2 hn
    refine ⟨g, e, hp, Nat.lt_of_lt_of_le hlt k.size, fun i hi => ?_⟩
    obtain ⟨h1, B, c, h2, h3⟩ := hc i hi
    refine ⟨fun j hj => ?_, B, c, k.oth _ _ h2 (fun x hx => by cases hx), h3.mi k⟩
    obtain ⟨⟨x, hx⟩, hf⟩ := h1 j hj
    exact ⟨k.int _ x hx, by rw [k.froz _ hlt]; exact hf⟩⟩
theorem RowI.mono {P Q : Nat → Prop} {w : World} {A : Option Addr} {n : Nat} (h : RowI P w A n) (hq : ∀ k, P k → Q k) : RowI Q w A n :=
  ⟨h.1, fun hn => by
    obtain ⟨g, e, hp, r⟩ := h.2 hn
    exact ⟨g, e, hq _ hp, r⟩⟩
theorem RowS.of_R {α : Type} {d : Kd α} (m : Nat) (hsz : d.sz = m + 1) (len : α → Nat) {P : Nat → Prop} {w : World} {e base : Nat} {A : Option Addr} {n c : Nat} {l : List α}
    (hM : ∀ {ok : Nat → Prop} {x : α} {cs : List Value}, d.M w base ok x cs → ∃ (zs : List Int) (v : Value) (xs : List Int), cs = zs.map (Value.int .i64) ++ [v] ∧ zs.length = m ∧ xs.length = len x ∧ Kd.R (Kd.int .i64) 3 w base ok v xs)
    (h : Kd.R d e w base P (.slice A n c) l) (hl : l.length ≤ 4611686018427387904) (hx : ∀ x ∈ l, len x ≤ 4611686018427387904) : RowS m P w A (l.map len) := by
  obtain ⟨hn, _, _⟩ := Kd.R_reads' h
  subst hn
  refine ⟨by simpa using hl, fun hp => ?_⟩
  rw [List.length_map] at hp
  obtain ⟨g, cap, e1, _, hlt, _⟩ := Kd.R_form h hp
  obtain ⟨h0, inner, hown, hreps⟩ := h
  injection e1 with e1 e2 e3
  subst e1 e3
  have hfz : ∀ o, w.frozen? ⟨g, o, none⟩ = false := fun o => by
    rcases hown.2 with ⟨e', _⟩ | ⟨g', cap', cur, e', _, hh, _⟩
    · cases e'
    · injection e' with e1 e2 e3
      injection e1 with e1
      injection e1 with e1
      subst e1
      simp [World.frozen?, hh]
  refine ⟨g, rfl, h0 g rfl, hlt, fun i hi => ?_⟩
  rw [List.length_map] at hi
  obtain ⟨zs, v, xs, hcs, hz, hlen, hr⟩ := hM (hreps.2 i l[i] (List.getElem?_eq_getElem hi))
  rw [hsz] at hcs
  have hcell : ∀ (j : Nat) (u : Value), (zs.map (Value.int .i64) ++ [v])[j]? = some u → w.cell? ⟨g, i * (m + 1) + j, none⟩ = some u := fun j u hu => by
    have h1 : inner[i * (m + 1) + j]? = some u := by
      rw [← hcs, List.getElem?_take] at hu
      split at hu
      · rw [List.getElem?_drop] at hu
        exact hu
      · cases hu
    have := hown.cells (g := g) rfl _ u h1
    unfold Addr.add at this
    split at this
    · rename_i h0
      simpa [h0] using this
    · simpa using this
  obtain ⟨B, cB, rfl, _, _⟩ := Kd.R_reads hr
  refine ⟨fun j hj => ⟨⟨zs[j]'(by omega), hcell j _ ?_⟩, hfz _⟩, B, cB, ?_, ?_⟩
  · rw [List.getElem?_append_left (by simp; omega), List.getElem?_map, List.getElem?_eq_getElem (by omega)]
    rfl
  · have := hcell m (.slice B xs.length cB) (by rw [List.getElem?_append_right (by simp [hz])]; simp [hz])
    simpa [hlen] using this
  · have := RowI.mono (RowI.of_R hr (by rw [hlen]; exact hx _ (List.getElem_mem _))) (fun k hk => hk.1)
    simpa [hlen] using this
def tot (m : Nat) : List Nat → Nat
  | [] => 0
  | k :: r => m + k + tot m r
theorem tot_snoc (m : Nat) : ∀ (a : List Nat) (k : Nat), tot m (a ++ [k]) = tot m a + (m + k)
  | [], k => by simp [tot]
  | x :: a, k => by simp only [List.cons_append, tot, tot_snoc m a k]; omega
theorem tot_take (m : Nat) (ns : List Nat) (i : Nat) (hi : i < ns.length) : tot m (ns.take (i + 1)) = tot m (ns.take i) + (m + ns[i]) := by
  rw [List.take_succ_eq_append_getElem hi, tot_snoc]
theorem tot_take_le (m : Nat) : ∀ (ns : List Nat) (i : Nat), tot m (ns.take i) ≤ tot m ns
  | [], i => by simp [tot]
  | k :: r, 0 => by simp [tot]
  | k :: r, i + 1 => by simp only [List.take_succ_cons, tot]; have := tot_take_le m r i; omega
end Go.Proofs.Ytiimiogpiflkdaa.M
end

section
set_option linter.unusedVariables false
set_option linter.unusedSimpArgs false
namespace Go.Proofs.Ytiimiogpiflkdaa.M
open Go.RowKit Go.Proofs.YtiimiogpiflkdaaW.PrintWords Go.Proofs.YtiimiogpiflkdaaW.PrintLast Go.Proofs.YtiimiogpiflkdaaW.PrintMore
set_option maxHeartbeats 4000000 in
set_option maxRecDepth 100000 in
theorem markI_calls (P : Nat → Prop) (A : Option Addr) (n c : Nat) (a1 : Int) (w : World) (h : RowI P w A n) (h0 : 0 ≤ a1) (h1 : a1 + n ≤ 4611686018427387904) :
    Calls Try.prog 37 #[.slice A n c, .int .i64 a1] w fun e w' => e = .returned (.int .i64 (a1 + n)) ∧ MI P w w' := by
  have HR := Aside0.mk h
  have H0 := Aside0.mk h0
  have H1 := Aside0.mk h1
  clear h h0 h1
  go_enter Try.func37, Try.ntmps37
  go_wp2
  go_loopg [1, 5] n (fun gg v1 v5 wr => ∃ (kk : Nat) (x1 : Int), v1 = .int .i64 x1 ∧ v5 = .int .i64 kk ∧ Aside0 (x1 = a1 + kk) ∧ Aside0 (kk ≤ n ∧ n - kk ≤ gg) ∧ Aside0 (MI P w wr))
  case atStart => exact ⟨0, a1, rfl, rfl, ⟨by simp⟩, ⟨by omega⟩, ⟨MI.refl P w⟩⟩
  case round =>
    obtain ⟨kk, x1, rfl, rfl, HX, HI, HM⟩ := hrel
    by_cases hlt : kk < n
    · have hltb : ((kk : Int) < (n : Int)) = True := eq_true (by omega)
      obtain ⟨g, rfl, hP, hgl, hc⟩ := (HR.out.mi HM.out).2 (by omega)
      obtain ⟨⟨x, hx⟩, hf⟩ := hc kk hlt
      have HP := Aside0.mk hP
      have HC : Aside0 (wr.cell? ⟨g, kk, none⟩ = some (.int .i64 x)) := ⟨hx⟩
      have HLT := Aside0.mk hlt
      have HW1 : Aside0 (wrap64 (x1 + 1) = a1 + ((kk + 1 : Nat) : Int)) := ⟨by have := H1.out; have := HX.out; have := H0.out; unfold wrap64; omega⟩
      have HW5 : Aside0 (wrap64 ((kk : Int) + 1) = ((kk + 1 : Nat) : Int)) := ⟨by have := H1.out; have := H0.out; unfold wrap64; omega⟩
      clear hc hP hgl hlt
      go_wp2
      go_roundg (n - (kk + 1))
      case measure => have := HI.out; have := HLT.out; omega
      case rel => exact ⟨kk + 1, wrap64 (x1 + 1), rfl, by rw [HW5.out], HW1, ⟨by have := HLT.out; omega⟩, ⟨HM.out.set HP.out HC.out _⟩⟩
    · have hltb : ((kk : Int) < (n : Int)) = False := eq_false (by omega)
      have HLT := Aside0.mk hlt
      clear hlt
      go_wp2
      go_ret
      refine ⟨?_, HM.out⟩
      have e : x1 = a1 + (n : Int) := by have := HI.out; have := HLT.out; have := HX.out; omega
      rw [← e]
      rfl
theorem drawn_below {w w' : World} (h : Drawn0 w w') : Below w.heap.size w w' := by
  obtain ⟨n, rfl⟩ := h.out
  exact pw_below_drewN (Below.refl _ _) n
theorem own_interval {α : Type} {d : Kd α} {e : Nat} {w w' : World} {v : Value} {xs : List α} (h : Kd.R d e w' w.heap.size (fun _ => True) v xs) : Kd.R d e w' w.heap.size (fun k => w.heap.size ≤ k ∧ k < w'.heap.size) v xs :=
  Kd.R_mono (Kd.R_bound h) (fun k hk => ⟨hk.2.1, hk.2.2.1⟩)
end Go.Proofs.Ytiimiogpiflkdaa.M
end

section
set_option linter.unusedVariables false
set_option linter.unusedSimpArgs false
namespace Go.Proofs.Ytiimiogpiflkdaa.M
open Go.RowKit Go.Proofs.Ytiimiogpiflkdaa.A Go.Proofs.YtiimiogpiflkdaaW.PrintWords Go.Proofs.YtiimiogpiflkdaaW.PrintLast Go.Proofs.YtiimiogpiflkdaaW.PrintMore
set_option maxHeartbeats 8000000 in
set_option maxRecDepth 100000 in
theorem markTeamS_calls (P : Nat → Prop) (A : Option Addr) (ns : List Nat) (c : Nat) (a1 : Int) (w : World) (h : RowS 5 P w A ns) (h0 : 0 ≤ a1) (h1 : a1 + tot 5 ns ≤ 4611686018427387904) :
    Calls Try.prog 36 #[.slice A ns.length c, .int .i64 a1] w fun e w' => e = .returned (.int .i64 (a1 + tot 5 ns)) ∧ MI P w w' := by
  have HR := Aside0.mk h
  have H0 := Aside0.mk h0
  have H1 := Aside0.mk h1
  have HN := Aside0.mk h.1
  clear h h0 h1
  have hu61 := Try.underlying61
  go_enter Try.func36, Try.ntmps36
  go_wp2
  go_loopg [1, 5] ns.length (fun gg v1 v5 wr => ∃ (kk : Nat) (x1 : Int), v1 = .int .i64 x1 ∧ v5 = .int .i64 kk ∧ Aside0 (x1 = a1 + tot 5 (ns.take kk)) ∧ Aside0 (kk ≤ ns.length ∧ ns.length - kk ≤ gg) ∧ Aside0 (MI P w wr))
  case atStart => exact ⟨0, a1, rfl, rfl, ⟨by simp [tot]⟩, ⟨by omega⟩, ⟨MI.refl P w⟩⟩
  case round =>
    obtain ⟨kk, x1, rfl, rfl, HX, HI, HM⟩ := hrel
    by_cases hlt : kk < ns.length
    · have hltb : ((kk : Int) < (ns.length : Int)) = True := eq_true (by omega)
      obtain ⟨g, rfl, hP, hgl, hc⟩ := (HR.out.mi HM.out).2 (by omega)
      have HP := Aside0.mk hP
      have HLT := Aside0.mk hlt
      have htk := tot_take 5 ns kk hlt
      have htl := tot_take_le 5 ns (kk + 1)
      obtain ⟨nk, hnk⟩ : ∃ nk, ns[kk] = nk := ⟨_, rfl⟩
      rw [hnk] at htk
      have HB : Aside0 (0 ≤ x1 ∧ x1 + 5 + nk ≤ 4611686018427387904) := ⟨by have := H1.out; have := HX.out; have := H0.out; omega⟩
      have HT : Aside0 (x1 + 5 + nk = a1 + tot 5 (ns.take (kk + 1))) := ⟨by have := HX.out; omega⟩
      have HKK : Aside0 (wrap64 ((kk : Int) + 1) = ((kk + 1 : Nat) : Int)) := ⟨by have := HN.out; unfold wrap64; omega⟩
      obtain ⟨hi_, B, cB, hs0, hrB⟩ := hc kk hlt
      rw [hnk] at hs0 hrB
      obtain ⟨⟨y0, hy0⟩, hz0⟩ := hi_ 0 (by omega)
      obtain ⟨⟨y1, hy1⟩, hz1⟩ := hi_ 1 (by omega)
      obtain ⟨⟨y2, hy2⟩, hz2⟩ := hi_ 2 (by omega)
      obtain ⟨⟨y3, hy3⟩, hz3⟩ := hi_ 3 (by omega)
      obtain ⟨⟨y4, hy4⟩, hz4⟩ := hi_ 4 (by omega)
      have hc0 : wr.cell? ⟨g, kk * 6, none⟩ = some (.int .i64 y0) := hy0
      have hf0 : wr.frozen? ⟨g, kk * 6, none⟩ = false := hz0
      have hc1 : ∀ v0 : Int, (World.setCell wr ⟨g, kk * 6, none⟩ (.int .i64 v0)).cell? ⟨g, kk * 6 + 1, none⟩ = some (.int .i64 y1) := fun v0 => (cell_set_ne (fun _ => by show kk * 6 + 1 ≠ kk * 6; omega)).trans hy1
      have hf1 : ∀ v0 : Int, (World.setCell wr ⟨g, kk * 6, none⟩ (.int .i64 v0)).frozen? ⟨g, kk * 6 + 1, none⟩ = false := fun v0 => frozen_set.trans hz1
      have hc2 : ∀ v0 v1 : Int, (World.setCell (World.setCell wr ⟨g, kk * 6, none⟩ (.int .i64 v0)) ⟨g, kk * 6 + 1, none⟩ (.int .i64 v1)).cell? ⟨g, kk * 6 + 2, none⟩ = some (.int .i64 y2) := fun v0 v1 => (cell_set_ne (fun _ => by show kk * 6 + 2 ≠ kk * 6 + 1; omega)).trans ((cell_set_ne (fun _ => by show kk * 6 + 2 ≠ kk * 6; omega)).trans hy2)
      have hf2 : ∀ v0 v1 : Int, (World.setCell (World.setCell wr ⟨g, kk * 6, none⟩ (.int .i64 v0)) ⟨g, kk * 6 + 1, none⟩ (.int .i64 v1)).frozen? ⟨g, kk * 6 + 2, none⟩ = false := fun v0 v1 => frozen_set.trans (frozen_set.trans hz2)
      have hc3 : ∀ v0 v1 v2 : Int, (World.setCell (World.setCell (World.setCell wr ⟨g, kk * 6, none⟩ (.int .i64 v0)) ⟨g, kk * 6 + 1, none⟩ (.int .i64 v1)) ⟨g, kk * 6 + 2, none⟩ (.int .i64 v2)).cell? ⟨g, kk * 6 + 3, none⟩ = some (.int .i64 y3) := fun v0 v1 v2 => (cell_set_ne (fun _ => by show kk * 6 + 3 ≠ kk * 6 + 2; omega)).trans ((cell_set_ne (fun _ => by show kk * 6 + 3 ≠ kk * 6 + 1; omega)).trans ((cell_set_ne (fun _ => by show kk * 6 + 3 ≠ kk * 6; omega)).trans hy3))
      have hf3 : ∀ v0 v1 v2 : Int, (World.setCell (World.setCell (World.setCell wr ⟨g, kk * 6, none⟩ (.int .i64 v0)) ⟨g, kk * 6 + 1, none⟩ (.int .i64 v1)) ⟨g, kk * 6 + 2, none⟩ (.int .i64 v2)).frozen? ⟨g, kk * 6 + 3, none⟩ = false := fun v0 v1 v2 => frozen_set.trans (frozen_set.trans (frozen_set.trans hz3))
      have hc4 : ∀ v0 v1 v2 v3 : Int, (World.setCell (World.setCell (World.setCell (World.setCell wr ⟨g, kk * 6, none⟩ (.int .i64 v0)) ⟨g, kk * 6 + 1, none⟩ (.int .i64 v1)) ⟨g, kk * 6 + 2, none⟩ (.int .i64 v2)) ⟨g, kk * 6 + 3, none⟩ (.int .i64 v3)).cell? ⟨g, kk * 6 + 4, none⟩ = some (.int .i64 y4) := fun v0 v1 v2 v3 => (cell_set_ne (fun _ => by show kk * 6 + 4 ≠ kk * 6 + 3; omega)).trans ((cell_set_ne (fun _ => by show kk * 6 + 4 ≠ kk * 6 + 2; omega)).trans ((cell_set_ne (fun _ => by show kk * 6 + 4 ≠ kk * 6 + 1; omega)).trans ((cell_set_ne (fun _ => by show kk * 6 + 4 ≠ kk * 6; omega)).trans hy4)))
      have hf4 : ∀ v0 v1 v2 v3 : Int, (World.setCell (World.setCell (World.setCell (World.setCell wr ⟨g, kk * 6, none⟩ (.int .i64 v0)) ⟨g, kk * 6 + 1, none⟩ (.int .i64 v1)) ⟨g, kk * 6 + 2, none⟩ (.int .i64 v2)) ⟨g, kk * 6 + 3, none⟩ (.int .i64 v3)).frozen? ⟨g, kk * 6 + 4, none⟩ = false := fun v0 v1 v2 v3 => frozen_set.trans (frozen_set.trans (frozen_set.trans (frozen_set.trans hz4)))
      have hs : ∀ v0 v1 v2 v3 v4 : Int, (World.setCell (World.setCell (World.setCell (World.setCell (World.setCell wr ⟨g, kk * 6, none⟩ (.int .i64 v0)) ⟨g, kk * 6 + 1, none⟩ (.int .i64 v1)) ⟨g, kk * 6 + 2, none⟩ (.int .i64 v2)) ⟨g, kk * 6 + 3, none⟩ (.int .i64 v3)) ⟨g, kk * 6 + 4, none⟩ (.int .i64 v4)).cell? ⟨g, kk * 6 + 5, none⟩ = some (.slice B nk cB) := fun v0 v1 v2 v3 v4 => (cell_set_ne (fun _ => by show kk * 6 + 5 ≠ kk * 6 + 4; omega)).trans ((cell_set_ne (fun _ => by show kk * 6 + 5 ≠ kk * 6 + 3; omega)).trans ((cell_set_ne (fun _ => by show kk * 6 + 5 ≠ kk * 6 + 2; omega)).trans ((cell_set_ne (fun _ => by show kk * 6 + 5 ≠ kk * 6 + 1; omega)).trans ((cell_set_ne (fun _ => by show kk * 6 + 5 ≠ kk * 6; omega)).trans hs0))))
      have HMM : Aside0 (∀ v0 v1 v2 v3 v4 : Int, MI P w (World.setCell (World.setCell (World.setCell (World.setCell (World.setCell wr ⟨g, kk * 6, none⟩ (.int .i64 v0)) ⟨g, kk * 6 + 1, none⟩ (.int .i64 v1)) ⟨g, kk * 6 + 2, none⟩ (.int .i64 v2)) ⟨g, kk * 6 + 3, none⟩ (.int .i64 v3)) ⟨g, kk * 6 + 4, none⟩ (.int .i64 v4))) := ⟨fun v0 v1 v2 v3 v4 => (((((HM.out.set HP.out (hc0 ) v0).set HP.out (hc1 v0) v1).set HP.out (hc2 v0 v1) v2).set HP.out (hc3 v0 v1 v2) v3).set HP.out (hc4 v0 v1 v2 v3) v4)⟩
      have HRB : Aside0 (∀ v0 v1 v2 v3 v4 : Int, RowI P (World.setCell (World.setCell (World.setCell (World.setCell (World.setCell wr ⟨g, kk * 6, none⟩ (.int .i64 v0)) ⟨g, kk * 6 + 1, none⟩ (.int .i64 v1)) ⟨g, kk * 6 + 2, none⟩ (.int .i64 v2)) ⟨g, kk * 6 + 3, none⟩ (.int .i64 v3)) ⟨g, kk * 6 + 4, none⟩ (.int .i64 v4)) B nk) := ⟨fun v0 v1 v2 v3 v4 => hrB.mi ((((((MI.refl P wr).set HP.out (hc0 ) v0).set HP.out (hc1 v0) v1).set HP.out (hc2 v0 v1) v2).set HP.out (hc3 v0 v1 v2) v3).set HP.out (hc4 v0 v1 v2 v3) v4)⟩
      clear hi_ hrB hc hP htk htl hlt hgl hs0 hnk hy0 hz0 hy1 hz1 hy2 hz2 hy3 hz3 hy4 hz4
      have HV : Aside0 (wrap64 (wrap64 (wrap64 (wrap64 (wrap64 (x1 + 1) + 1) + 1) + 1) + 1) = x1 + 5) := ⟨by have := HB.out; unfold wrap64; omega⟩
      go_wp2_with (go_at_call 37; refine (markI_calls P B nk cB _ _ ?q1 ?q2 ?q3).mono ?_; (case q1 => exact HRB.out _ _ _ _ _); (case q2 => rw [HV.out]; have := HB.out; omega); (case q3 => rw [HV.out]; have := HB.out; omega); rintro e w9 ⟨rfl, hm9⟩; have HM9 := Aside0.mk ((HMM.out _ _ _ _ _).trans hm9); clear hm9)
      go_roundg (ns.length - (kk + 1))
      case measure => have := HI.out; have := HLT.out; omega
      case rel => exact ⟨kk + 1, _, rfl, by rw [HKK.out], ⟨by rw [← HT.out, HV.out]⟩, ⟨by have := HLT.out; omega⟩, HM9⟩
    · have hltb : ((kk : Int) < (ns.length : Int)) = False := eq_false (by omega)
      have HLT := Aside0.mk hlt
      clear hlt
      go_wp2
      go_ret
      refine ⟨?_, HM.out⟩
      have e : x1 = a1 + (tot 5 ns : Int) := by
        have h1 := HX.out
        rw [List.take_of_length_le (by have := HI.out; have := HLT.out; omega)] at h1
        exact h1
      rw [← e]
      rfl
theorem markTeams (P : Nat → Prop) (A : Option Addr) (c : Nat) (l : List S61) (a1 : Int) (w : World) {e base : Nat} (h : Kd.R Go.Proofs.Ytiimiogpiflkdaa.A.k61 e w base P (.slice A l.length c) l) (hl : l.length ≤ 4611686018427387904) (hi : ∀ x ∈ l, x.f5.length ≤ 4611686018427387904) (h0 : 0 ≤ a1) (h1 : a1 + tot 5 (l.map (fun x => x.f5.length)) ≤ 4611686018427387904) :
    Calls Try.prog 36 #[.slice A l.length c, .int .i64 a1] w fun e w' => e = .returned (.int .i64 (a1 + tot 5 (l.map (fun x => x.f5.length)))) ∧ MI P w w' := by
  have hm : ∀ {ok : Nat → Prop} {x : S61} {cs : List Value}, (Go.Proofs.Ytiimiogpiflkdaa.A.k61).M w base ok x cs → ∃ (zs : List Int) (v : Value) (xs : List Int), cs = zs.map (Value.int .i64) ++ [v] ∧ zs.length = 5 ∧ xs.length = x.f5.length ∧ Kd.R (Kd.int .i64) 3 w base ok v xs := by
    intro ok x cs h
    obtain ⟨c0, r0, rfl, h0, c1, r1, rfl, h1, c2, r2, rfl, h2, c3, r3, rfl, h3, c4, r4, rfl, h4, v, rfl, hr⟩ := h
    cases h0
    cases h1
    cases h2
    cases h3
    cases h4
    exact ⟨[x.f0, x.f1, x.f2, x.f3, x.f4], v, x.f5, rfl, rfl, rfl, hr⟩
  have := markTeamS_calls P A (l.map (fun x => x.f5.length)) c a1 w (RowS.of_R 5 rfl (fun x => x.f5.length) hm h hl hi) h0 h1
  rw [List.length_map] at this
  exact this
end Go.Proofs.Ytiimiogpiflkdaa.M
end

section
set_option linter.unusedVariables false
set_option linter.unusedSimpArgs false
namespace Go.Proofs.Ytiimiogpiflkdaa.A
open Go.RowKit Go.Proofs.YtiimiogpiflkdaaW.PrintWords Go.Proofs.YtiimiogpiflkdaaW.PrintLast Go.Proofs.YtiimiogpiflkdaaW.PrintMore
def laws_FnExactPairRound.f (k : Nat) (l0 : List S64) : Option Bool := (laws_szTeamS.f k l0 1048576).bind (fun n1 => if n1 < 0 then some true else ((laws_toTeamS.f k l0).bind (fun x2 => (spec_PairRound.f k x2).bind (fun t_ => (fun x3  b3 => (laws_toTeamS.f k l0).bind (fun x4 => (impl_PairRound.f k x4).bind (fun t_ => (fun x5  b5 => (laws_eqPairS.f k x5 x3).bind (fun b6 => if b6 = true then (if b5 = b3 then ((laws_toTeamS.f k l0).bind (fun x7 => (laws_eqTeamS.f k x4 x7).bind (fun b8 => if b8 = true then (if (x4.length ≤ 4611686018427387904 ∧ ∀ x ∈ x4, x.f5.length ≤ 4611686018427387904) ∧ (M.tot 5 (x4.map (fun x => x.f5.length)) : Int) ≤ 1152921504606846976 then ((laws_eqPairS.f k x5 x3).bind (fun b10 => if b10 = true then (if b5 = b3 then ((laws_markPairS.f k x5 1).bind (fun t_ => (fun m11  y11 => (laws_heldPairS.f k y11 1).bind (fun n12 => if ¬ (n12 < 0) then (if n12 = m11 then ((laws_toTeamS.f k l0).bind (fun x13 => (impl_PairRound.f k x13).bind (fun t_ => (fun x14  b14 => (laws_eqPairS.f k x14 x3).bind (fun b15 => if b15 = true then (if b14 = b3 then ((laws_heldPairS.f k y11 1).bind (fun n16 => if ¬ (n16 < 0) then (if n16 = m11 then (some true) else none) else none)) else none) else none)) t_.1 t_.2))) else none) else none)) t_.1 t_.2)) else none) else none)) else none) else none))) else none) else none)) t_.1 t_.2))) t_.1 t_.2))))
set_option maxHeartbeats 16000000 in
set_option maxRecDepth 100000 in
theorem laws_FnExactPairRound.calls (k : Nat) (A0 : Option Addr) (c0 : Nat) (l0 : List S64) (r : Bool) (w : World) (hr0 : Kd.C k64 w A0 l0.length l0) (hc0 : l0.length ≤ c0) (h : laws_FnExactPairRound.f k l0 = some r) :
  Calls Try.prog 13 #[.slice A0 l0.length c0] w fun e w' => e = .returned (.bool r) ∧ Below w.heap.size w w' := by
  have HR0 := Aside0.mk hr0
  have HC0 := Aside0.mk hc0
  clear hr0 hc0
  unfold laws_FnExactPairRound.f at h
  have HB := Aside0.mk (Below.refl w.heap.size w)
  have TK0 : Aside0 True := ⟨trivial⟩
  replace h := Option.bind_eq_some_iff.mp h
  obtain ⟨n1, hx10, h⟩ := h
  have hx1 := Aside0.mk hx10
  clear hx10
  by_cases ce : n1 < 0
  · rw [if_pos ce] at h
    obtain rfl := Option.some.inj h
    have cx0 : (n1 < 0) = True := eq_true (by omega)
    clear ce h
    go_enter Try.func13, Try.ntmps13
    go_wp2_with (first | (have tok_ := TK0; clear TK0 tok_; go_at_call 15; refine (laws_szTeamS.calls (k := k) (A0 := A0) (c0 := c0) (l0 := l0) (a1 := 1048576) (r := n1) (h := hx1.out) (hr0 := ?hr0) (hc0 := ?hc0)).mono ?_; (case hr0 => exact Kd.C_below HR0.out (by repeat (first | (with_reducible first | exact HB.out | apply below_alloc | apply pw_below_drewN | apply below_drew1) | exact HB.out))); (case hc0 => exact HC0.out); rintro e w1 ⟨rfl, hb⟩; have HSZ1 : Aside0 (w.heap.size ≤ w1.heap.size) := ⟨hb.size⟩; have nB_ := Aside0.mk (below_step (by repeat (first | (with_reducible first | exact HB.out | apply below_alloc | apply pw_below_drewN | apply below_drew1) | exact HB.out)) hb); clear HB; have HB := nB_; clear nB_; clear hb; have TK1 : Aside0 True := ⟨trivial⟩))
    go_ret
    exact ⟨rfl, (by repeat (first | (with_reducible first | exact HB.out | apply below_alloc | apply pw_below_drewN | apply below_drew1) | exact HB.out))⟩
  rw [if_neg ce] at h
  have cf1 : (n1 < 0) = False := eq_false (by omega)
  clear ce
  replace h := Option.bind_eq_some_iff.mp h
  obtain ⟨x2, hx20, h⟩ := h
  have hx2 := Aside0.mk hx20
  clear hx20
  replace h := Option.bind_eq_some_iff.mp h
  obtain ⟨⟨x3, b3⟩, hx30, h⟩ := h
  have hx3 := Aside0.mk hx30
  clear hx30
  dsimp only at h
  replace h := Option.bind_eq_some_iff.mp h
  obtain ⟨x4, hx40, h⟩ := h
  have hx4 := Aside0.mk hx40
  clear hx40
  replace h := Option.bind_eq_some_iff.mp h
  obtain ⟨⟨x5, b5⟩, hx50, h⟩ := h
  have hx5 := Aside0.mk hx50
  clear hx50
  dsimp only at h
  replace h := Option.bind_eq_some_iff.mp h
  obtain ⟨b6, hx60, h⟩ := h
  have hx6 := Aside0.mk hx60
  clear hx60
  by_cases ct : b6 = true
  rotate_left
  · rw [if_neg ct] at h; cases h
  rw [if_pos ct] at h
  subst ct
  by_cases ct : b5 = b3
  rotate_left
  · rw [if_neg ct] at h; cases h
  rw [if_pos ct] at h
  have ct2 : b3 = b5 := ct.symm
  clear ct
  subst ct2
  replace h := Option.bind_eq_some_iff.mp h
  obtain ⟨x7, hx70, h⟩ := h
  have hx7 := Aside0.mk hx70
  clear hx70
  replace h := Option.bind_eq_some_iff.mp h
  obtain ⟨b8, hx80, h⟩ := h
  have hx8 := Aside0.mk hx80
  clear hx80
  by_cases ct : b8 = true
  rotate_left
  · rw [if_neg ct] at h; cases h
  rw [if_pos ct] at h
  subst ct
  by_cases ct : (x4.length ≤ 4611686018427387904 ∧ ∀ x ∈ x4, x.f5.length ≤ 4611686018427387904) ∧ (M.tot 5 (x4.map (fun x => x.f5.length)) : Int) ≤ 1152921504606846976
  rotate_left
  · rw [if_neg ct] at h; cases h
  rw [if_pos ct] at h
  obtain ⟨K9, hkK9⟩ : ∃ K_ : Int, K_ = 1 + (M.tot 5 (x4.map (fun x => x.f5.length)) : Int) := ⟨_, rfl⟩
  have HKK9 := Aside0.mk hkK9
  have HTK9 := Aside0.mk ct
  have HQK9 : Aside0 (0 ≤ K9 ∧ K9 ≤ 1152921504606846976 * 1 + 1) := ⟨by have := HTK9.out.2; omega⟩
  clear ct hkK9
  have cqK9 : (K9 < 0) = False := eq_false (by have := HQK9.out; omega)
  replace h := Option.bind_eq_some_iff.mp h
  obtain ⟨b10, hx100, h⟩ := h
  have hx10 := Aside0.mk hx100
  clear hx100
  by_cases ct : b10 = true
  rotate_left
  · rw [if_neg ct] at h; cases h
  rw [if_pos ct] at h
  subst ct
  by_cases ct : b3 = b3
  rotate_left
  · rw [if_neg ct] at h; cases h
  rw [if_pos ct] at h
  clear ct
  replace h := Option.bind_eq_some_iff.mp h
  obtain ⟨⟨m11, y11⟩, hx110, h⟩ := h
  have hx11 := Aside0.mk hx110
  clear hx110
  dsimp only at h
  replace h := Option.bind_eq_some_iff.mp h
  obtain ⟨n12, hx120, h⟩ := h
  have hx12 := Aside0.mk hx120
  clear hx120
  by_cases ct : ¬ (n12 < 0)
  rotate_left
  · rw [if_neg ct] at h; cases h
  rw [if_pos ct] at h
  have cf2 : (n12 < 0) = False := eq_false ct
  clear ct
  by_cases ct : n12 = m11
  rotate_left
  · rw [if_neg ct] at h; cases h
  rw [if_pos ct] at h
  have ct2 : m11 = n12 := ct.symm
  clear ct
  subst ct2
  replace h := Option.bind_eq_some_iff.mp h
  obtain ⟨x13, hx130, h⟩ := h
  have hx13 := Aside0.mk hx130
  clear hx130
  replace h := Option.bind_eq_some_iff.mp h
  obtain ⟨⟨x14, b14⟩, hx140, h⟩ := h
  have hx14 := Aside0.mk hx140
  clear hx140
  dsimp only at h
  replace h := Option.bind_eq_some_iff.mp h
  obtain ⟨b15, hx150, h⟩ := h
  have hx15 := Aside0.mk hx150
  clear hx150
  by_cases ct : b15 = true
  rotate_left
  · rw [if_neg ct] at h; cases h
  rw [if_pos ct] at h
  subst ct
  by_cases ct : b14 = b3
  rotate_left
  · rw [if_neg ct] at h; cases h
  rw [if_pos ct] at h
  have ct2 : b3 = b14 := ct.symm
  clear ct
  subst ct2
  replace h := Option.bind_eq_some_iff.mp h
  obtain ⟨n16, hx160, h⟩ := h
  have hx16 := Aside0.mk hx160
  clear hx160
  by_cases ct : ¬ (n16 < 0)
  rotate_left
  · rw [if_neg ct] at h; cases h
  rw [if_pos ct] at h
  have cf3 : (n16 < 0) = False := eq_false ct
  clear ct
  by_cases ct : n16 = m11
  rotate_left
  · rw [if_neg ct] at h; cases h
  rw [if_pos ct] at h
  have ct2 : m11 = n16 := ct.symm
  clear ct
  subst ct2
  obtain rfl := Option.some.inj h
  clear h
  go_enter Try.func13, Try.ntmps13
  go_wp2_with (first | (have tok_ := TK0; clear TK0 tok_; go_at_call 15; refine (laws_szTeamS.calls (k := k) (A0 := A0) (c0 := c0) (l0 := l0) (a1 := 1048576) (r := n1) (h := hx1.out) (hr0 := ?hr0) (hc0 := ?hc0)).mono ?_; (case hr0 => exact Kd.C_below HR0.out (by repeat (first | (with_reducible first | exact HB.out | apply below_alloc | apply pw_below_drewN | apply below_drew1) | exact HB.out))); (case hc0 => exact HC0.out); rintro e w1 ⟨rfl, hb⟩; have HSZ1 : Aside0 (w.heap.size ≤ w1.heap.size) := ⟨hb.size⟩; have nB_ := Aside0.mk (below_step (by repeat (first | (with_reducible first | exact HB.out | apply below_alloc | apply pw_below_drewN | apply below_drew1) | exact HB.out)) hb); clear HB; have HB := nB_; clear nB_; clear hb; have TK1 : Aside0 True := ⟨trivial⟩) | (have tok_ := TK1; clear TK1 tok_; go_at_call 17; refine (laws_toTeamS.calls (k := k) (A0 := A0) (c0 := c0) (l0 := l0) (r := x2) (h := hx2.out) (hr0 := ?hr0) (hc0 := ?hc0)).mono ?_; (case hr0 => exact Kd.C_below HR0.out (by repeat (first | (with_reducible first | exact HB.out | apply below_alloc | apply pw_below_drewN | apply below_drew1) | exact HB.out))); (case hc0 => exact HC0.out); rintro e w2 ⟨v_, rfl, ho_, hb⟩; have hOI_ : Kd.R k61 61 w2 w1.heap.size (fun k => w1.heap.size ≤ k ∧ k < w2.heap.size) _ _ := M.own_interval (Kd.S_R ho_); have HO2 := Aside0.mk (Kd.R_lower hOI_ (below_size (by repeat (first | (with_reducible first | exact HB.out | apply below_alloc | apply pw_below_drewN | apply below_drew1) | exact HB.out)))); have HSZ2 : Aside0 (w1.heap.size ≤ w2.heap.size) := ⟨hb.size⟩; have nB_ := Aside0.mk (below_step (by repeat (first | (with_reducible first | exact HB.out | apply below_alloc | apply pw_below_drewN | apply below_drew1) | exact HB.out)) hb); clear HB; have HB := nB_; clear nB_; clear hOI_ ho_ hb; obtain ⟨B2, d2, ev_⟩ := Kd.R_slice HO2.out; subst ev_; have TK2 : Aside0 True := ⟨trivial⟩) | (have tok_ := TK2; clear TK2 tok_; go_at_call 47; refine (spec_PairRound.calls (k := k) (A0 := B2) (c0 := d2) (l0 := x2) (r1 := x3) (r2 := b3) (h := hx3.out) (hr0 := ?hr0) (hc0 := ?hc0)).mono ?_; (case hr0 => (with_reducible repeat (first | apply Kd.C_alloc | apply Kd.C_drewN | apply Kd.C_drew)); exact (Kd.R_reads' HO2.out).2.2); (case hc0 => exact (Kd.R_reads' HO2.out).2.1); rintro e w3 ⟨v_, rfl, ho_, hb⟩; have hOI_ : Kd.R k46 46 w3 w2.heap.size (fun k => w2.heap.size ≤ k ∧ k < w3.heap.size) _ _ := M.own_interval ho_; have HO3 := Aside0.mk (Kd.R_lower hOI_ (below_size (by repeat (first | (with_reducible first | exact HB.out | apply below_alloc | apply pw_below_drewN | apply below_drew1) | exact HB.out)))); have HSZ3 : Aside0 (w2.heap.size ≤ w3.heap.size) := ⟨hb.size⟩; have n_ := Aside0.mk (Kd.R_below (by (with_reducible repeat (first | apply Kd.R_alloc | apply Kd.R_drewN | apply Kd.R_drew)); exact HO2.out) hb); clear HO2; have HO2 := n_; clear n_; have nB_ := Aside0.mk (below_step (by repeat (first | (with_reducible first | exact HB.out | apply below_alloc | apply pw_below_drewN | apply below_drew1) | exact HB.out)) hb); clear HB; have HB := nB_; clear nB_; clear hOI_ ho_ hb; obtain ⟨B3, d3, ev_⟩ := Kd.R_slice HO3.out; subst ev_; clear HO2; have TK3 : Aside0 True := ⟨trivial⟩) | (have tok_ := TK3; clear TK3 tok_; go_at_call 17; refine (laws_toTeamS.calls (k := k) (A0 := A0) (c0 := c0) (l0 := l0) (r := x4) (h := hx4.out) (hr0 := ?hr0) (hc0 := ?hc0)).mono ?_; (case hr0 => exact Kd.C_below HR0.out (by repeat (first | (with_reducible first | exact HB.out | apply below_alloc | apply pw_below_drewN | apply below_drew1) | exact HB.out))); (case hc0 => exact HC0.out); rintro e w4 ⟨v_, rfl, ho_, hb⟩; have hOI_ : Kd.R k61 61 w4 w3.heap.size (fun k => w3.heap.size ≤ k ∧ k < w4.heap.size) _ _ := M.own_interval (Kd.S_R ho_); have HO4 := Aside0.mk (Kd.R_lower hOI_ (below_size (by repeat (first | (with_reducible first | exact HB.out | apply below_alloc | apply pw_below_drewN | apply below_drew1) | exact HB.out)))); have HSZ4 : Aside0 (w3.heap.size ≤ w4.heap.size) := ⟨hb.size⟩; have n_ := Aside0.mk (Kd.R_below (by (with_reducible repeat (first | apply Kd.R_alloc | apply Kd.R_drewN | apply Kd.R_drew)); exact HO3.out) hb); clear HO3; have HO3 := n_; clear n_; have nB_ := Aside0.mk (below_step (by repeat (first | (with_reducible first | exact HB.out | apply below_alloc | apply pw_below_drewN | apply below_drew1) | exact HB.out)) hb); clear HB; have HB := nB_; clear nB_; clear hOI_ ho_ hb; obtain ⟨B4, d4, ev_⟩ := Kd.R_slice HO4.out; subst ev_; have TK4 : Aside0 True := ⟨trivial⟩) | (have tok_ := TK4; clear TK4 tok_; go_at_call 48; refine (impl_PairRound.calls (k := k) (A0 := B4) (c0 := d4) (l0 := x4) (r1 := x5) (r2 := b3) (h := hx5.out) (hr0 := ?hr0) (hc0 := ?hc0)).mono ?_; (case hr0 => (with_reducible repeat (first | apply Kd.C_alloc | apply Kd.C_drewN | apply Kd.C_drew)); exact (Kd.R_reads' HO4.out).2.2); (case hc0 => exact (Kd.R_reads' HO4.out).2.1); rintro e w5 ⟨v_, rfl, ho_, hb⟩; have hOI_ : Kd.R k46 46 w5 w4.heap.size (fun k => w4.heap.size ≤ k ∧ k < w5.heap.size) _ _ := M.own_interval ho_; have HO5 := Aside0.mk (Kd.R_lower hOI_ (below_size (by repeat (first | (with_reducible first | exact HB.out | apply below_alloc | apply pw_below_drewN | apply below_drew1) | exact HB.out)))); have HSZ5 : Aside0 (w4.heap.size ≤ w5.heap.size) := ⟨hb.size⟩; have n_ := Aside0.mk (Kd.R_below (by (with_reducible repeat (first | apply Kd.R_alloc | apply Kd.R_drewN | apply Kd.R_drew)); exact HO3.out) hb); clear HO3; have HO3 := n_; clear n_; have n_ := Aside0.mk (Kd.R_below (by (with_reducible repeat (first | apply Kd.R_alloc | apply Kd.R_drewN | apply Kd.R_drew)); exact HO4.out) hb); clear HO4; have HO4 := n_; clear n_; have nB_ := Aside0.mk (below_step (by repeat (first | (with_reducible first | exact HB.out | apply below_alloc | apply pw_below_drewN | apply below_drew1) | exact HB.out)) hb); clear HB; have HB := nB_; clear nB_; clear hOI_ ho_ hb; obtain ⟨B5, d5, ev_⟩ := Kd.R_slice HO5.out; subst ev_; have TK5 : Aside0 True := ⟨trivial⟩) | (have tok_ := TK5; clear TK5 tok_; go_at_call 32; refine (laws_eqPairS.calls (k := k) (A0 := B5) (c0 := d5) (l0 := x5) (A1 := B3) (c1 := d3) (l1 := x3) (r := true) (h := hx6.out) (hr0 := ?hr0) (hc0 := ?hc0) (hr1 := ?hr1) (hc1 := ?hc1)).mono ?_; (case hr0 => (with_reducible repeat (first | apply Kd.C_alloc | apply Kd.C_drewN | apply Kd.C_drew)); exact (Kd.R_reads' HO5.out).2.2); (case hc0 => exact (Kd.R_reads' HO5.out).2.1); (case hr1 => (with_reducible repeat (first | apply Kd.C_alloc | apply Kd.C_drewN | apply Kd.C_drew)); exact (Kd.R_reads' HO3.out).2.2); (case hc1 => exact (Kd.R_reads' HO3.out).2.1); rintro e w6 ⟨rfl, hb⟩; have HSZ6 : Aside0 (w5.heap.size ≤ w6.heap.size) := ⟨hb.size⟩; have n_ := Aside0.mk (Kd.R_below (by (with_reducible repeat (first | apply Kd.R_alloc | apply Kd.R_drewN | apply Kd.R_drew)); exact HO3.out) hb); clear HO3; have HO3 := n_; clear n_; have n_ := Aside0.mk (Kd.R_below (by (with_reducible repeat (first | apply Kd.R_alloc | apply Kd.R_drewN | apply Kd.R_drew)); exact HO4.out) hb); clear HO4; have HO4 := n_; clear n_; have n_ := Aside0.mk (Kd.R_below (by (with_reducible repeat (first | apply Kd.R_alloc | apply Kd.R_drewN | apply Kd.R_drew)); exact HO5.out) hb); clear HO5; have HO5 := n_; clear n_; have nB_ := Aside0.mk (below_step (by repeat (first | (with_reducible first | exact HB.out | apply below_alloc | apply pw_below_drewN | apply below_drew1) | exact HB.out)) hb); clear HB; have HB := nB_; clear nB_; clear hb; have TK6 : Aside0 True := ⟨trivial⟩) | (have tok_ := TK6; clear TK6 tok_; go_at_call 17; refine (laws_toTeamS.calls (k := k) (A0 := A0) (c0 := c0) (l0 := l0) (r := x7) (h := hx7.out) (hr0 := ?hr0) (hc0 := ?hc0)).mono ?_; (case hr0 => exact Kd.C_below HR0.out (by repeat (first | (with_reducible first | exact HB.out | apply below_alloc | apply pw_below_drewN | apply below_drew1) | exact HB.out))); (case hc0 => exact HC0.out); rintro e w7 ⟨v_, rfl, ho_, hb⟩; have hOI_ : Kd.R k61 61 w7 w6.heap.size (fun k => w6.heap.size ≤ k ∧ k < w7.heap.size) _ _ := M.own_interval (Kd.S_R ho_); have HO7 := Aside0.mk (Kd.R_lower hOI_ (below_size (by repeat (first | (with_reducible first | exact HB.out | apply below_alloc | apply pw_below_drewN | apply below_drew1) | exact HB.out)))); have HSZ7 : Aside0 (w6.heap.size ≤ w7.heap.size) := ⟨hb.size⟩; have n_ := Aside0.mk (Kd.R_below (by (with_reducible repeat (first | apply Kd.R_alloc | apply Kd.R_drewN | apply Kd.R_drew)); exact HO3.out) hb); clear HO3; have HO3 := n_; clear n_; have n_ := Aside0.mk (Kd.R_below (by (with_reducible repeat (first | apply Kd.R_alloc | apply Kd.R_drewN | apply Kd.R_drew)); exact HO4.out) hb); clear HO4; have HO4 := n_; clear n_; have n_ := Aside0.mk (Kd.R_below (by (with_reducible repeat (first | apply Kd.R_alloc | apply Kd.R_drewN | apply Kd.R_drew)); exact HO5.out) hb); clear HO5; have HO5 := n_; clear n_; have nB_ := Aside0.mk (below_step (by repeat (first | (with_reducible first | exact HB.out | apply below_alloc | apply pw_below_drewN | apply below_drew1) | exact HB.out)) hb); clear HB; have HB := nB_; clear nB_; clear hOI_ ho_ hb; obtain ⟨B7, d7, ev_⟩ := Kd.R_slice HO7.out; subst ev_; have TK7 : Aside0 True := ⟨trivial⟩) | (have tok_ := TK7; clear TK7 tok_; go_at_call 19; refine (laws_eqTeamS.calls (k := k) (A0 := B4) (c0 := d4) (l0 := x4) (A1 := B7) (c1 := d7) (l1 := x7) (r := true) (h := hx8.out) (hr0 := ?hr0) (hc0 := ?hc0) (hr1 := ?hr1) (hc1 := ?hc1)).mono ?_; (case hr0 => (with_reducible repeat (first | apply Kd.C_alloc | apply Kd.C_drewN | apply Kd.C_drew)); exact (Kd.R_reads' HO4.out).2.2); (case hc0 => exact (Kd.R_reads' HO4.out).2.1); (case hr1 => (with_reducible repeat (first | apply Kd.C_alloc | apply Kd.C_drewN | apply Kd.C_drew)); exact (Kd.R_reads' HO7.out).2.2); (case hc1 => exact (Kd.R_reads' HO7.out).2.1); rintro e w8 ⟨rfl, hb⟩; have HSZ8 : Aside0 (w7.heap.size ≤ w8.heap.size) := ⟨hb.size⟩; have n_ := Aside0.mk (Kd.R_below (by (with_reducible repeat (first | apply Kd.R_alloc | apply Kd.R_drewN | apply Kd.R_drew)); exact HO3.out) hb); clear HO3; have HO3 := n_; clear n_; have n_ := Aside0.mk (Kd.R_below (by (with_reducible repeat (first | apply Kd.R_alloc | apply Kd.R_drewN | apply Kd.R_drew)); exact HO4.out) hb); clear HO4; have HO4 := n_; clear n_; have n_ := Aside0.mk (Kd.R_below (by (with_reducible repeat (first | apply Kd.R_alloc | apply Kd.R_drewN | apply Kd.R_drew)); exact HO5.out) hb); clear HO5; have HO5 := n_; clear n_; have n_ := Aside0.mk (Kd.R_below (by (with_reducible repeat (first | apply Kd.R_alloc | apply Kd.R_drewN | apply Kd.R_drew)); exact HO7.out) hb); clear HO7; have HO7 := n_; clear n_; have nB_ := Aside0.mk (below_step (by repeat (first | (with_reducible first | exact HB.out | apply below_alloc | apply pw_below_drewN | apply below_drew1) | exact HB.out)) hb); clear HB; have HB := nB_; clear nB_; clear hb; clear HO7; have TK8 : Aside0 True := ⟨trivial⟩) | (have tok_ := TK8; clear TK8 tok_; go_at_call 36; refine (M.markTeams (e := 61) (base := w.heap.size) (fun k => w3.heap.size ≤ k ∧ k < w4.heap.size) B4 d4 x4 1 _ ?q1 ?q1b ?q1c ?q2 ?q3).mono ?_; (case q1 => exact (by (with_reducible repeat (first | apply Kd.R_alloc | apply Kd.R_drewN | apply Kd.R_drew)); exact HO4.out)); (case q1b => exact HTK9.out.1.1); (case q1c => exact HTK9.out.1.2); (case q2 => omega); (case q3 => have := HTK9.out.2; omega); rintro e w9 ⟨he_, hm_⟩; rw [← HKK9.out] at he_; subst he_; have n_ := Aside0.mk (Kd.R_kept (by (with_reducible repeat (first | apply Kd.R_alloc | apply Kd.R_drewN | apply Kd.R_drew)); exact HO3.out) hm_.kept (fun k h1 h2 => by obtain ⟨h1a, h1b⟩ := h1; obtain ⟨h2a, h2b⟩ := h2; have := HSZ1.out; have := HSZ2.out; have := HSZ3.out; have := HSZ4.out; have := HSZ5.out; have := HSZ6.out; have := HSZ7.out; have := HSZ8.out; omega)); clear HO3; have HO3 := n_; clear n_; have n_ := Aside0.mk (Kd.R_kept (by (with_reducible repeat (first | apply Kd.R_alloc | apply Kd.R_drewN | apply Kd.R_drew)); exact HO5.out) hm_.kept (fun k h1 h2 => by obtain ⟨h1a, h1b⟩ := h1; obtain ⟨h2a, h2b⟩ := h2; have := HSZ1.out; have := HSZ2.out; have := HSZ3.out; have := HSZ4.out; have := HSZ5.out; have := HSZ6.out; have := HSZ7.out; have := HSZ8.out; omega)); clear HO5; have HO5 := n_; clear n_; have nB_ := Aside0.mk (M.MI.below hm_ (by repeat (first | (with_reducible first | exact HB.out | apply below_alloc | apply pw_below_drewN | apply below_drew1) | exact HB.out)) (fun k hk => by have := hk.1; have := HSZ1.out; have := HSZ2.out; have := HSZ3.out; have := HSZ4.out; have := HSZ5.out; have := HSZ6.out; have := HSZ7.out; have := HSZ8.out; omega)); clear HB; have HB := nB_; clear nB_ HO4; have HSZ9 : Aside0 (w8.heap.size ≤ w9.heap.size) := ⟨hm_.size⟩; clear hm_; have TK9 : Aside0 True := ⟨trivial⟩) | (have tok_ := TK9; clear TK9 tok_; go_at_call 32; refine (laws_eqPairS.calls (k := k) (A0 := B5) (c0 := d5) (l0 := x5) (A1 := B3) (c1 := d3) (l1 := x3) (r := true) (h := hx10.out) (hr0 := ?hr0) (hc0 := ?hc0) (hr1 := ?hr1) (hc1 := ?hc1)).mono ?_; (case hr0 => (with_reducible repeat (first | apply Kd.C_alloc | apply Kd.C_drewN | apply Kd.C_drew)); exact (Kd.R_reads' HO5.out).2.2); (case hc0 => exact (Kd.R_reads' HO5.out).2.1); (case hr1 => (with_reducible repeat (first | apply Kd.C_alloc | apply Kd.C_drewN | apply Kd.C_drew)); exact (Kd.R_reads' HO3.out).2.2); (case hc1 => exact (Kd.R_reads' HO3.out).2.1); rintro e w10 ⟨rfl, hb⟩; have HSZ10 : Aside0 (w9.heap.size ≤ w10.heap.size) := ⟨hb.size⟩; have n_ := Aside0.mk (Kd.R_below (by (with_reducible repeat (first | apply Kd.R_alloc | apply Kd.R_drewN | apply Kd.R_drew)); exact HO3.out) hb); clear HO3; have HO3 := n_; clear n_; have n_ := Aside0.mk (Kd.R_below (by (with_reducible repeat (first | apply Kd.R_alloc | apply Kd.R_drewN | apply Kd.R_drew)); exact HO5.out) hb); clear HO5; have HO5 := n_; clear n_; have nB_ := Aside0.mk (below_step (by repeat (first | (with_reducible first | exact HB.out | apply below_alloc | apply pw_below_drewN | apply below_drew1) | exact HB.out)) hb); clear HB; have HB := nB_; clear nB_; clear hb; have TK10 : Aside0 True := ⟨trivial⟩) | (have tok_ := TK10; clear TK10 tok_; go_at_call 49; refine (laws_markPairS.calls (k := k) (P0_ := fun k => w4.heap.size ≤ k ∧ k < w5.heap.size) (u9000_ := .slice B5 x5.length d5) (l0 := x5) (a1 := 1) (r1 := m11) (r2 := y11) (w0 := w) (h := hx11.out) (hB := ?q1) (ho0 := ?q2)).mono ?_; (case q1 => exact (by repeat (first | (with_reducible first | exact HB.out | apply below_alloc | apply pw_below_drewN | apply below_drew1) | exact HB.out))); (case q2 => (with_reducible repeat (first | apply Kd.R_alloc | apply Kd.R_drewN | apply Kd.R_drew)); exact HO5.out); rintro e w11 ⟨rfl, ho_, hb_, hk_⟩; have n_ := Aside0.mk (Kd.R_kept (by (with_reducible repeat (first | apply Kd.R_alloc | apply Kd.R_drewN | apply Kd.R_drew)); exact HO3.out) hk_ (fun k h1 h2 => by obtain ⟨h1a, h1b⟩ := h1; obtain ⟨h2a, h2b⟩ := h2; have := HSZ1.out; have := HSZ2.out; have := HSZ3.out; have := HSZ4.out; have := HSZ5.out; have := HSZ6.out; have := HSZ7.out; have := HSZ8.out; have := HSZ9.out; have := HSZ10.out; omega)); clear HO3; have HO3 := n_; clear n_; clear HO5; have HO5 := Aside0.mk ho_; have el_ : x5.length = y11.length := (Kd.R_reads' ho_).1; clear HB; have HB := Aside0.mk hb_; have HSZ11 : Aside0 (w10.heap.size ≤ w11.heap.size) := ⟨hk_.1⟩; clear ho_ hb_ hk_; rw [el_]; rw [el_] at HO5; clear el_; have TK11 : Aside0 True := ⟨trivial⟩) | (have tok_ := TK11; clear TK11 tok_; go_at_call 50; refine (laws_heldPairS.calls (k := k) (A0 := B5) (c0 := d5) (l0 := y11) (a1 := 1) (r := m11) (h := hx12.out) (hr0 := ?hr0) (hc0 := ?hc0)).mono ?_; (case hr0 => (with_reducible repeat (first | apply Kd.C_alloc | apply Kd.C_drewN | apply Kd.C_drew)); exact (Kd.R_reads' HO5.out).2.2); (case hc0 => exact (Kd.R_reads' HO5.out).2.1); rintro e w12 ⟨rfl, hd_⟩; have hb := M.drawn_below hd_; clear hd_; have HSZ12 : Aside0 (w11.heap.size ≤ w12.heap.size) := ⟨hb.size⟩; have n_ := Aside0.mk (Kd.R_below (by (with_reducible repeat (first | apply Kd.R_alloc | apply Kd.R_drewN | apply Kd.R_drew)); exact HO3.out) hb); clear HO3; have HO3 := n_; clear n_; have n_ := Aside0.mk (Kd.R_below (by (with_reducible repeat (first | apply Kd.R_alloc | apply Kd.R_drewN | apply Kd.R_drew)); exact HO5.out) hb); clear HO5; have HO5 := n_; clear n_; have nB_ := Aside0.mk (below_step (by repeat (first | (with_reducible first | exact HB.out | apply below_alloc | apply pw_below_drewN | apply below_drew1) | exact HB.out)) hb); clear HB; have HB := nB_; clear nB_; clear hb; have TK12 : Aside0 True := ⟨trivial⟩) | (have tok_ := TK12; clear TK12 tok_; go_at_call 17; refine (laws_toTeamS.calls (k := k) (A0 := A0) (c0 := c0) (l0 := l0) (r := x13) (h := hx13.out) (hr0 := ?hr0) (hc0 := ?hc0)).mono ?_; (case hr0 => exact Kd.C_below HR0.out (by repeat (first | (with_reducible first | exact HB.out | apply below_alloc | apply pw_below_drewN | apply below_drew1) | exact HB.out))); (case hc0 => exact HC0.out); rintro e w13 ⟨v_, rfl, ho_, hb⟩; have hOI_ : Kd.R k61 61 w13 w12.heap.size (fun k => w12.heap.size ≤ k ∧ k < w13.heap.size) _ _ := M.own_interval (Kd.S_R ho_); have HO13 := Aside0.mk (Kd.R_lower hOI_ (below_size (by repeat (first | (with_reducible first | exact HB.out | apply below_alloc | apply pw_below_drewN | apply below_drew1) | exact HB.out)))); have HSZ13 : Aside0 (w12.heap.size ≤ w13.heap.size) := ⟨hb.size⟩; have n_ := Aside0.mk (Kd.R_below (by (with_reducible repeat (first | apply Kd.R_alloc | apply Kd.R_drewN | apply Kd.R_drew)); exact HO3.out) hb); clear HO3; have HO3 := n_; clear n_; have n_ := Aside0.mk (Kd.R_below (by (with_reducible repeat (first | apply Kd.R_alloc | apply Kd.R_drewN | apply Kd.R_drew)); exact HO5.out) hb); clear HO5; have HO5 := n_; clear n_; have nB_ := Aside0.mk (below_step (by repeat (first | (with_reducible first | exact HB.out | apply below_alloc | apply pw_below_drewN | apply below_drew1) | exact HB.out)) hb); clear HB; have HB := nB_; clear nB_; clear hOI_ ho_ hb; obtain ⟨B13, d13, ev_⟩ := Kd.R_slice HO13.out; subst ev_; have TK13 : Aside0 True := ⟨trivial⟩) | (have tok_ := TK13; clear TK13 tok_; go_at_call 48; refine (impl_PairRound.calls (k := k) (A0 := B13) (c0 := d13) (l0 := x13) (r1 := x14) (r2 := b3) (h := hx14.out) (hr0 := ?hr0) (hc0 := ?hc0)).mono ?_; (case hr0 => (with_reducible repeat (first | apply Kd.C_alloc | apply Kd.C_drewN | apply Kd.C_drew)); exact (Kd.R_reads' HO13.out).2.2); (case hc0 => exact (Kd.R_reads' HO13.out).2.1); rintro e w14 ⟨v_, rfl, ho_, hb⟩; have hOI_ : Kd.R k46 46 w14 w13.heap.size (fun k => w13.heap.size ≤ k ∧ k < w14.heap.size) _ _ := M.own_interval ho_; have HO14 := Aside0.mk (Kd.R_lower hOI_ (below_size (by repeat (first | (with_reducible first | exact HB.out | apply below_alloc | apply pw_below_drewN | apply below_drew1) | exact HB.out)))); have HSZ14 : Aside0 (w13.heap.size ≤ w14.heap.size) := ⟨hb.size⟩; have n_ := Aside0.mk (Kd.R_below (by (with_reducible repeat (first | apply Kd.R_alloc | apply Kd.R_drewN | apply Kd.R_drew)); exact HO3.out) hb); clear HO3; have HO3 := n_; clear n_; have n_ := Aside0.mk (Kd.R_below (by (with_reducible repeat (first | apply Kd.R_alloc | apply Kd.R_drewN | apply Kd.R_drew)); exact HO5.out) hb); clear HO5; have HO5 := n_; clear n_; have n_ := Aside0.mk (Kd.R_below (by (with_reducible repeat (first | apply Kd.R_alloc | apply Kd.R_drewN | apply Kd.R_drew)); exact HO13.out) hb); clear HO13; have HO13 := n_; clear n_; have nB_ := Aside0.mk (below_step (by repeat (first | (with_reducible first | exact HB.out | apply below_alloc | apply pw_below_drewN | apply below_drew1) | exact HB.out)) hb); clear HB; have HB := nB_; clear nB_; clear hOI_ ho_ hb; obtain ⟨B14, d14, ev_⟩ := Kd.R_slice HO14.out; subst ev_; clear HO13; have TK14 : Aside0 True := ⟨trivial⟩) | (have tok_ := TK14; clear TK14 tok_; go_at_call 32; refine (laws_eqPairS.calls (k := k) (A0 := B14) (c0 := d14) (l0 := x14) (A1 := B3) (c1 := d3) (l1 := x3) (r := true) (h := hx15.out) (hr0 := ?hr0) (hc0 := ?hc0) (hr1 := ?hr1) (hc1 := ?hc1)).mono ?_; (case hr0 => (with_reducible repeat (first | apply Kd.C_alloc | apply Kd.C_drewN | apply Kd.C_drew)); exact (Kd.R_reads' HO14.out).2.2); (case hc0 => exact (Kd.R_reads' HO14.out).2.1); (case hr1 => (with_reducible repeat (first | apply Kd.C_alloc | apply Kd.C_drewN | apply Kd.C_drew)); exact (Kd.R_reads' HO3.out).2.2); (case hc1 => exact (Kd.R_reads' HO3.out).2.1); rintro e w15 ⟨rfl, hb⟩; have HSZ15 : Aside0 (w14.heap.size ≤ w15.heap.size) := ⟨hb.size⟩; have n_ := Aside0.mk (Kd.R_below (by (with_reducible repeat (first | apply Kd.R_alloc | apply Kd.R_drewN | apply Kd.R_drew)); exact HO3.out) hb); clear HO3; have HO3 := n_; clear n_; have n_ := Aside0.mk (Kd.R_below (by (with_reducible repeat (first | apply Kd.R_alloc | apply Kd.R_drewN | apply Kd.R_drew)); exact HO5.out) hb); clear HO5; have HO5 := n_; clear n_; have n_ := Aside0.mk (Kd.R_below (by (with_reducible repeat (first | apply Kd.R_alloc | apply Kd.R_drewN | apply Kd.R_drew)); exact HO14.out) hb); clear HO14; have HO14 := n_; clear n_; have nB_ := Aside0.mk (below_step (by repeat (first | (with_reducible first | exact HB.out | apply below_alloc | apply pw_below_drewN | apply below_drew1) | exact HB.out)) hb); clear HB; have HB := nB_; clear nB_; clear hb; clear HO3 HO14; have TK15 : Aside0 True := ⟨trivial⟩) | (have tok_ := TK15; clear TK15 tok_; go_at_call 50; refine (laws_heldPairS.calls (k := k) (A0 := B5) (c0 := d5) (l0 := y11) (a1 := 1) (r := m11) (h := hx16.out) (hr0 := ?hr0) (hc0 := ?hc0)).mono ?_; (case hr0 => (with_reducible repeat (first | apply Kd.C_alloc | apply Kd.C_drewN | apply Kd.C_drew)); exact (Kd.R_reads' HO5.out).2.2); (case hc0 => exact (Kd.R_reads' HO5.out).2.1); rintro e w16 ⟨rfl, hd_⟩; have hb := M.drawn_below hd_; clear hd_; have HSZ16 : Aside0 (w15.heap.size ≤ w16.heap.size) := ⟨hb.size⟩; have n_ := Aside0.mk (Kd.R_below (by (with_reducible repeat (first | apply Kd.R_alloc | apply Kd.R_drewN | apply Kd.R_drew)); exact HO5.out) hb); clear HO5; have HO5 := n_; clear n_; have nB_ := Aside0.mk (below_step (by repeat (first | (with_reducible first | exact HB.out | apply below_alloc | apply pw_below_drewN | apply below_drew1) | exact HB.out)) hb); clear HB; have HB := nB_; clear nB_; clear hb; clear HO5; have TK16 : Aside0 True := ⟨trivial⟩))
  go_ret
  exact ⟨rfl, (by repeat (first | (with_reducible first | exact HB.out | apply below_alloc | apply pw_below_drewN | apply below_drew1) | exact HB.out))⟩
end Go.Proofs.Ytiimiogpiflkdaa.A
end

section
set_option linter.unusedVariables false
namespace Go.Proofs.Ytiimiogpiflkdaa.Open
open Go.ChangeShapes Go.WideShapes Go.Deep Go.RowKit Go.Proofs.YtiimiogpiflkdaaW.PrintWords
def Opn (P : Program) (t : TypeId) {α : Type} (d : Kd α) : Prop :=
  ∀ (H : Type) (enc : TypeId × Value → H) (w : World) (base : Nat) (spare : Nat → Bool) (held : Bool) (fuel : Nat) (cs : List Value) (y : DataW H × List MemPlace),
    DataW.trod enc P w base spare held fuel t cs = some y → ∃ x : α, d.K w x cs
def OpnL (P : Program) (fs : List Field) {α : Type} (d : Kd α) : Prop :=
  ∀ (H : Type) (enc : TypeId × Value → H) (w : World) (base : Nat) (spare : Nat → Bool) (held : Bool) (cs : List Value), cs.length = fs.length →
    (∀ (j : Nat) (f : Field) (c : Value), fs[j]? = some f → cs[j]? = some c → ∃ (n : Nat) (y : DataW H × List MemPlace), DataW.trod enc P w base spare held n f.type [c] = some y) → ∃ x : α, d.K w x cs
theorem opn_int {P : Program} {t : TypeId} {k : IntKind} (ht : P.underlying t = some (.int k)) : Opn P t (Kd.int k) := by
  intro H enc w base spare held fuel cs y h
  obtain ⟨n, rfl, _⟩ := DataW.trod_int ht h
  exact ⟨n, rfl⟩
theorem opnL_one {P : Program} {f : Field} {α : Type} {d : Kd α} (h : Opn P f.type d) : OpnL P [f] d := by
  intro H enc w base spare held cs hl hf
  match cs, hl with
  | [c], _ =>
    obtain ⟨n, y, hy⟩ := hf 0 f c rfl rfl
    exact h H enc w base spare held n [c] y hy
theorem opnL_cons {P : Program} {f : Field} {fs : List Field} {α β : Type} {a : Kd α} {b : Kd β} (h : Opn P f.type a) (hs : OpnL P fs b) : OpnL P (f :: fs) (Kd.pair a b) := by
  intro H enc w base spare held cs hl hf
  match cs, hl with
  | c :: cs, hl =>
    obtain ⟨n, y, hy⟩ := hf 0 f c rfl rfl
    obtain ⟨x, hx⟩ := h H enc w base spare held n [c] y hy
    obtain ⟨z, hz⟩ := hs H enc w base spare held cs (by simpa using hl) (fun j f' c' h1 h2 => hf (j + 1) f' c' (by simpa using h1) (by simpa using h2))
    exact ⟨(x, z), [c], cs, rfl, hx, hz⟩
theorem opn_struct {P : Program} {t : TypeId} {fs : Array Field} (ht : P.underlying t = some (.struct fs)) (hone : oneCellFields P fs = true) (hC : P.cellsOf t = fs.size)
    {α : Type} {d : Kd α} (hL : OpnL P fs.toList d) : Opn P t d := by
  intro H enc w base spare held fuel cs y h
  obtain ⟨xs, n, _, _, hlen, hxl, hf⟩ := DataW.trod_struct ht h
  refine hL H enc w base spare held cs (by rw [hlen, hC, Array.length_toList]) (fun j f c hj hc => ?_)
  have hj' : fs[j]? = some f := by simpa using hj
  obtain ⟨ho, hk⟩ := hone_of hone j f hj'
  have h1 := hf j f hj'
  rw [ho, hk] at h1
  have hjl : j < fs.size := (Array.getElem?_eq_some_iff.1 hj').1
  have hcl : j < cs.length := (List.getElem?_eq_some_iff.1 hc).1
  have e1 : (cs.drop j).take 1 = [c] := by
    rw [List.drop_eq_getElem_cons hcl]
    have : cs[j] = c := (List.getElem?_eq_some_iff.1 hc).2
    rw [this]; rfl
  rw [e1] at h1
  exact ⟨n, xs[j]'(by omega), h1.trans (List.getElem?_eq_getElem (by omega))⟩
theorem opn_iso {P : Program} {t : TypeId} {α β : Type} {d : Kd α} {f : β → α} (h : Opn P t d) (hs : ∀ a, ∃ b, f b = a) : Opn P t (Kd.iso d f) := by
  intro H enc w base spare held fuel cs y hy
  obtain ⟨x, hx⟩ := h H enc w base spare held fuel cs y hy
  obtain ⟨z, rfl⟩ := hs x
  exact ⟨z, hx⟩
theorem list_of {α : Type} {p : Nat → α → Prop} : ∀ n, (∀ i, i < n → ∃ x, p i x) → ∃ l : List α, l.length = n ∧ ∀ i x, l[i]? = some x → p i x
  | 0, _ => ⟨[], rfl, fun i x h => by simp at h⟩
  | n + 1, h => by
    obtain ⟨l, hl, hp⟩ := list_of n (fun i hi => h i (by omega))
    obtain ⟨x, hx⟩ := h n (by omega)
    refine ⟨l ++ [x], by simp [hl], fun i y hy => ?_⟩
    rcases Nat.lt_or_ge i l.length with hi | hi
    · rw [List.getElem?_append_left hi] at hy
      exact hp i y hy
    · have hi' : i = l.length := by
        have := (List.getElem?_eq_some_iff.1 hy).1
        rw [List.length_append, List.length_singleton] at this
        omega
      subst hi'
      have : x = y := by simpa using hy
      subst this
      rw [hl]
      exact hx
theorem opn_slice {P : Program} {t e : TypeId} {α : Type} {d : Kd α} (ht : P.underlying t = some (.slice e)) (hC : P.cellsOf e = d.sz) (he : Opn P e d) : Opn P t (Kd.slice e d) := by
  intro H enc w base spare held fuel cs y h
  rcases open_slice ht h with ⟨rfl, _⟩ | ⟨a, len, cap, m, n, D, Pl, rfl, hb, hl, hm, hmm, hx, hi⟩
  · exact ⟨[], none, 0, rfl, Nat.le_refl _, rfl, by simp, fun h => absurd h (by simp)⟩
  · have hlm : len ≤ m := by rw [hmm]; split <;> omega
    obtain ⟨xs, hxl, hp⟩ := list_of (p := fun i x => ∃ cs', w.cells? base (a.add (i * P.cellsOf e)) (P.cellsOf e) = some cs' ∧ d.K w x cs') len (fun i hil => by
      obtain ⟨cs', h1, h2⟩ := hi i (by omega)
      obtain ⟨x, hx⟩ := he H enc w base spare held n cs' _ h2
      exact ⟨x, cs', h1, hx⟩)
    refine ⟨xs, some a, cap, by rw [hxl], by omega, rfl, by unfold maxLen at hm; omega, fun _ => ⟨a, rfl, fun j p hj => ?_⟩⟩
    obtain ⟨cs', hc, hk⟩ := hp j p hj
    obtain ⟨_, hcl, hat⟩ := World.cells?_some hc
    refine ⟨cs', d.K_len hk, hk, fun i u hu => ?_⟩
    have hil : i < cs'.length := (List.getElem?_eq_some_iff.1 hu).1
    have := hat i (by omega)
    rw [Go.Deep.add_add, hC] at this
    rw [this]
    exact hu
theorem opened {H : Type} {enc : TypeId × Value → H} {P : Program} {W : World} {base : Nat} {spare : Nat → Bool} {held : Bool} {t e : TypeId} {α : Type} {d : Kd α} (h : Opn P t (Kd.slice e d)) {a : Option Addr} {len cap : Nat} {dd : DataW H} {ps : List MemPlace}
    (ht : DataW.Trod enc P W base spare held t (.slice a len cap) dd ps) : ∃ l : List α, l.length = len ∧ l.length ≤ cap ∧ d.C W a l.length l := by
  obtain ⟨fuel, hf⟩ := ht
  obtain ⟨l, A, c, he, hl, hc⟩ := h H enc W base spare held fuel _ _ hf
  simp [Value.cells] at he
  obtain ⟨rfl, rfl, rfl⟩ := he
  exact ⟨l, rfl, hl, hc⟩
theorem C_mem {α : Type} {d : Kd α} {w : World} {A : Option Addr} {n : Nat} {xs : List α} (h : d.C w A n xs) (x : α) (hx : x ∈ xs) : ∃ c, d.K w x c := by
  obtain ⟨j, hj, rfl⟩ := List.mem_iff_getElem.1 hx
  have h0 : 0 < n := by have := h.1; omega
  obtain ⟨ad, _, hc⟩ := h.2.2 h0
  obtain ⟨c, _, hk, _⟩ := hc j _ (List.getElem?_eq_getElem hj)
  exact ⟨c, hk⟩
end Go.Proofs.Ytiimiogpiflkdaa.Open
end

section
set_option linter.unusedVariables false
set_option linter.unusedSimpArgs false
namespace Go.Proofs.Ytiimiogpiflkdaa.L
open Go Go.RowKit Go.Proofs.Ytiimiogpiflkdaa.A Go.Proofs.YtiimiogpiflkdaaW.PrintWords
theorem sAreTeams_ev (l : List Tm) (hs : Small l) : Ev (fun k => spec_AreTeams.f k l) (areT l) := by
  unfold spec_AreTeams.f
  exact Ev.pos (of_small hs) (Ev.now _)
theorem iAreTeams_ev (l : List Tm) (hs : Small l) : Ev (fun k => impl_AreTeams.f k l) (areT l) := by
  unfold impl_AreTeams.f
  exact Ev.pos (of_small hs) (Ev.now _)
end Go.Proofs.Ytiimiogpiflkdaa.L
end

section
set_option linter.unusedVariables false
set_option linter.unusedSimpArgs false
namespace Go.Proofs.Ytiimiogpiflkdaa.L
open Go Go.RowKit Go.Proofs.Ytiimiogpiflkdaa.A Go.Proofs.YtiimiogpiflkdaaW.PrintWords
theorem Index_l0 (l : List Int) (x : Int) (hl : l.length ≤ 1099511627776) : ∀ (d n : Nat), n + d = l.length → Ev (fun k => slices_Index_int_int.l0 k l x (l.length : Int) (n : Int)) (if x ∈ l.drop n then ((n + (l.drop n).idxOf x : Nat) : Int) else -1) := by
  intro d
  induction d with
  | zero =>
    intro n hd
    refine Ev.step (fun k => slices_Index_int_int.l0.eq_2 ..) ?_
    refine Ev.neg (by omega) (Ev.some_ ?_)
    rw [List.drop_eq_nil_of_le (by omega)]
    simp
  | succ d ih =>
    intro n hd
    refine Ev.step (fun k => slices_Index_int_int.l0.eq_2 ..) ?_
    refine Ev.pos (by omega) (Ev.pos (by omega) (Ev.pos (by omega) ?_))
    simp only [w64s (show n < 4611686018427387904 by omega), rd_at (show n < l.length by omega)]
    have h1 := ih (n + 1) (by omega)
    rw [List.drop_eq_getElem_cons (show n < l.length by omega)]
    generalize l.drop (n + 1) = u at h1 ⊢
    refine Ev.ite (fun h => Ev.some_ ?_) (fun h => Ev.cast h1 ?_)
    · simp [h]
    · have h' : ¬ l[n] = x := fun e => h e.symm
      simp only [List.mem_cons, h, false_or, List.idxOf_cons, beq_eq_false_iff_ne.2 h']
      split
      · simp; omega
      · rfl
def idx (l : List Int) (x : Int) : Int := if x ∈ l then (l.idxOf x : Int) else -1
theorem Index_ev (l : List Int) (x : Int) (hl : l.length ≤ 1099511627776) : Ev (fun k => slices_Index_int_int.f k l x) (idx l x) := by
  unfold slices_Index_int_int.f
  refine Ev.cast (Index_l0 l x hl l.length 0 (by omega)) ?_
  simp [idx]
theorem Contains_ev (l : List Int) (x : Int) (hl : l.length ≤ 1099511627776) : Ev (fun k => slices_Contains_int_int.f k l x) (decide (x ∈ l)) := by
  unfold slices_Contains_int_int.f
  refine Ev.bind (Index_ev l x hl) (Ev.some_ ?_)
  unfold idx
  by_cases h : x ∈ l
  · simp [h]
  · simp [h]
end Go.Proofs.Ytiimiogpiflkdaa.L
end

section
set_option linter.unusedVariables false
set_option linter.unusedSimpArgs false
namespace Go.Proofs.Ytiimiogpiflkdaa.L
open Go Go.RowKit Go.Proofs.Ytiimiogpiflkdaa.A Go.Proofs.YtiimiogpiflkdaaW.PrintWords
theorem l4Has_l0 (l : List Int) (x : Int) (hl : l.length ≤ 1099511627776) : ∀ (d n : Nat), n + d = l.length → Ev (fun k => spec_l4Has.l0 k l x (n : Int)) (decide (x ∈ l.drop n)) := by
  intro d
  induction d with
  | zero =>
    intro n hd
    refine Ev.step (fun k => spec_l4Has.l0.eq_2 ..) ?_
    refine Ev.neg (by omega) (Ev.some_ ?_)
    rw [List.drop_eq_nil_of_le (by omega)]
    simp
  | succ d ih =>
    intro n hd
    refine Ev.step (fun k => spec_l4Has.l0.eq_2 ..) ?_
    refine Ev.pos (by omega) (Ev.pos (by omega) ?_)
    simp only [w64s (show n < 4611686018427387904 by omega), rd_at (show n < l.length by omega)]
    have h1 := ih (n + 1) (by omega)
    rw [List.drop_eq_getElem_cons (show n < l.length by omega)]
    generalize l.drop (n + 1) = u at h1 ⊢
    refine Ev.ite (fun h => Ev.some_ ?_) (fun h => Ev.cast h1 ?_)
    · simp [h]
    · have h' : ¬ x = l[n] := fun e => h e.symm
      simp [h']
theorem l4Has_ev (l : List Int) (x : Int) (hl : l.length ≤ 1099511627776) : Ev (fun k => spec_l4Has.f k l x) (decide (x ∈ l)) := by
  unfold spec_l4Has.f
  exact Ev.cast (l4Has_l0 l x hl l.length 0 (by omega)) (by simp)
end Go.Proofs.Ytiimiogpiflkdaa.L
end

section
set_option linter.unusedVariables false
set_option linter.unusedSimpArgs false
namespace Go.Proofs.Ytiimiogpiflkdaa.L
open Go Go.RowKit Go.Proofs.Ytiimiogpiflkdaa.A Go.Proofs.YtiimiogpiflkdaaW.PrintWords
def metT (l : List Tm) (a b : Int) : Bool := decide (0 ≤ findT l a ∧ b ∈ (rd_T61 l (findT l a)).f5)
theorem sHaveMet_ev (l : List Tm) (a b : Int) (hs : Small l) : Ev (fun k => spec_HaveMet.f k l a b) (metT l a b) := by
  unfold spec_HaveMet.f metT
  have hr := findT_range l a
  refine Ev.bind (sFindTeam_ev l a hs.1) (Ev.ite (fun h => Ev.pos (by omega) (Ev.pos hr.2 (Ev.bind (l4Has_ev _ b (hs.2 _ (rdTm_mem (by omega) hr.2))) (Ev.some_ ?_)))) (fun h => Ev.some_ ?_))
  · have : 0 ≤ findT l a := by omega
    simp [this]
  · have : ¬ 0 ≤ findT l a := by omega
    simp [this]
theorem iHaveMet_ev (l : List Tm) (a b : Int) (hs : Small l) : Ev (fun k => impl_HaveMet.f k l a b) (metT l a b) := by
  unfold impl_HaveMet.f metT
  have hr := findT_range l a
  refine Ev.bnd (iFindTeam_eq l a) (Ev.ite (fun h => Ev.pos (by omega) (Ev.pos hr.2 (Ev.bind (Contains_ev _ b (hs.2 _ (rdTm_mem (by omega) hr.2))) (Ev.some_ ?_)))) (fun h => Ev.some_ ?_))
  · have : 0 ≤ findT l a := by omega
    simp [this]
  · have : ¬ 0 ≤ findT l a := by omega
    simp [this]
end Go.Proofs.Ytiimiogpiflkdaa.L
end

section
set_option linter.unusedVariables false
set_option linter.unusedSimpArgs false
namespace Go.Proofs.Ytiimiogpiflkdaa.L
open Go Go.RowKit Go.Proofs.Ytiimiogpiflkdaa.A Go.Proofs.YtiimiogpiflkdaaW.PrintWords
def mayT (l : List Tm) (a b : Int) : Bool :=
  areT l && decide (0 ≤ findT l a) && decide (0 ≤ findT l b) && decide (findT l a ≠ findT l b) && decide ((rdT l (findT l a)).f1 ≠ (rdT l (findT l b)).f1) && !metT l a b
theorem mayT_iff {l : List Tm} {a b : Int} : mayT l a b = true ↔ areT l = true ∧ 0 ≤ findT l a ∧ 0 ≤ findT l b ∧ findT l a ≠ findT l b ∧ (rdT l (findT l a)).f1 ≠ (rdT l (findT l b)).f1 ∧ metT l a b = false := by
  simp only [mayT, Bool.and_eq_true, decide_eq_true_eq, Bool.not_eq_true', and_assoc]
theorem mayT_neg {l : List Tm} {a b : Int} (h : ¬ (areT l = true ∧ 0 ≤ findT l a ∧ 0 ≤ findT l b ∧ findT l a ≠ findT l b ∧ (rdT l (findT l a)).f1 ≠ (rdT l (findT l b)).f1 ∧ metT l a b = false)) : false = mayT l a b := by
  rw [← mayT_iff, Bool.not_eq_true] at h
  exact h.symm
theorem sMayMeet_ev (l : List Tm) (a b : Int) (hs : Small l) : Ev (fun k => spec_MayMeet.f k l a b) (mayT l a b) := by
  unfold spec_MayMeet.f
  have ha := findT_range l a
  have hb := findT_range l b
  refine Ev.bind (sFindTeam_ev l a hs.1) (Ev.bind (sFindTeam_ev l b hs.1) (Ev.bind (sAreTeams_ev l hs) ?_))
  refine Ev.ite (fun h1 => ?_) (fun h1 => Ev.some_ (mayT_neg (fun h => h1 h.1)))
  refine Ev.ite (fun h2 => ?_) (fun h2 => Ev.some_ (mayT_neg (fun h => h2 h.2.1)))
  refine Ev.ite (fun h3 => ?_) (fun h3 => Ev.some_ (mayT_neg (fun h => h3 h.2.2.1)))
  refine Ev.ite (fun h4 => Ev.some_ (mayT_neg (fun h => h.2.2.2.1 h4))) (fun h4 => ?_)
  refine Ev.pos (by omega) (Ev.pos ha.2 (Ev.pos (by omega) (Ev.pos hb.2 ?_)))
  refine Ev.ite (fun h5 => Ev.some_ (mayT_neg (fun h => h.2.2.2.2.1 h5))) (fun h5 => ?_)
  refine Ev.bind (sHaveMet_ev l a b hs) (Ev.some_ ?_)
  cases h6 : metT l a b
  · exact (mayT_iff.2 ⟨h1, h2, h3, h4, h5, h6⟩).symm
  · exact mayT_neg (fun h => by simp [h6] at h)
theorem iMayMeet_ev (l : List Tm) (a b : Int) (hs : Small l) : Ev (fun k => impl_MayMeet.f k l a b) (mayT l a b) := by
  unfold impl_MayMeet.f
  have ha := findT_range l a
  have hb := findT_range l b
  refine Ev.bnd (iFindTeam_eq l a) (Ev.bnd (iFindTeam_eq l b) (Ev.bind (iAreTeams_ev l hs) ?_))
  refine Ev.ite (fun h1 => ?_) (fun h1 => Ev.some_ (mayT_neg (fun h => h1 h.1)))
  refine Ev.ite (fun h2 => ?_) (fun h2 => Ev.some_ (mayT_neg (fun h => h2 h.2.1)))
  refine Ev.ite (fun h3 => ?_) (fun h3 => Ev.some_ (mayT_neg (fun h => h3 h.2.2.1)))
  refine Ev.ite (fun h4 => Ev.some_ (mayT_neg (fun h => h.2.2.2.1 h4))) (fun h4 => ?_)
  refine Ev.pos (by omega) (Ev.pos ha.2 (Ev.pos (by omega) (Ev.pos hb.2 ?_)))
  refine Ev.ite (fun h5 => Ev.some_ (mayT_neg (fun h => h.2.2.2.2.1 h5))) (fun h5 => ?_)
  refine Ev.bind (iHaveMet_ev l a b hs) (Ev.some_ ?_)
  cases h6 : metT l a b
  · exact (mayT_iff.2 ⟨h1, h2, h3, h4, h5, h6⟩).symm
  · exact mayT_neg (fun h => by simp [h6] at h)
end Go.Proofs.Ytiimiogpiflkdaa.L
end

section
set_option linter.unusedVariables false
set_option linter.unusedSimpArgs false
namespace Go.Proofs.Ytiimiogpiflkdaa.L
open Go Go.RowKit Go.Proofs.Ytiimiogpiflkdaa.A Go.Proofs.YtiimiogpiflkdaaW.PrintWords
theorem befB_iff {u v : Tm} : befB u v = true ↔ v.f2 < u.f2 ∨ u.f2 = v.f2 ∧ (v.f3 < u.f3 ∨ u.f3 = v.f3 ∧ u.f0 < v.f0) := befK_iff (u := keyS u) (v := keyS v)
theorem bef_asymm {u v : Tm} (h : befB u v = true) : befB v u = false := by
  rw [Bool.eq_false_iff]
  intro k
  rw [befB_iff] at h k
  omega
theorem bef_total {u v : Tm} (hn : u.f0 ≠ v.f0) (h : befB u v = false) : befB v u = true := by
  rw [Bool.eq_false_iff] at h
  rw [befB_iff]
  rw [Ne, befB_iff] at h
  omega
theorem sBefore_eq (u v : Tm) : spec_l19Before.f u.f0 u.f1 u.f2 u.f3 u.f4 u.f5 v.f0 v.f1 v.f2 v.f3 v.f4 v.f5 = some (befB u v) := by
  unfold spec_l19Before.f
  repeat' split
  all_goals (refine congrArg some ?_; rw [Bool.eq_iff_iff, befB_iff]; simp; omega)
theorem tlT_all {l : List Tm} : ∀ (d n : Nat), tlT l d n = true → (∀ i : Nat, n ≤ i → i < n + d → okT l i = true) ∧ l.length ≤ 10
  | 0, n, h => ⟨fun i h1 h2 => by omega, of_decide_eq_true h⟩
  | d + 1, n, h => by
    simp only [tlT, Bool.and_eq_true] at h
    obtain ⟨h1, h2⟩ := tlT_all d (n + 1) h.2
    refine ⟨fun i hi hd => ?_, h2⟩
    by_cases e : i = n
    · rw [e]; exact h.1
    · exact h1 i (by omega) (by omega)
theorem areT_len {l : List Tm} (h : areT l = true) : l.length ≤ 10 := (tlT_all _ _ h).2
theorem areT_row {l : List Tm} (h : areT l = true) (i : Nat) (hi : i < l.length) : okT l i = true := (tlT_all _ _ h).1 i (by omega) (by omega)
theorem areT_asc {l : List Tm} (h : areT l = true) : ascT l (l.length - 1) := by
  intro i hi
  have h1 := areT_row h (i + 1) (by omega)
  simp only [okT, rowT, Bool.and_eq_true, decide_eq_true_eq] at h1
  have h2 := h1.1.2
  have e : ((i + 1 : Nat) : Int) - 1 = (i : Int) := by omega
  rw [e] at h2
  omega
theorem areT_lt {l : List Tm} (h : areT l = true) : (l.map (fun t => t.f0)).Pairwise (· < ·) := by
  rw [List.pairwise_iff_getElem]
  intro i j hi hj hij
  simp only [List.length_map] at hi hj
  have := ascT_lt (areT_asc h) j i hij (by omega)
  simp only [rdT, rdTm hi, rdTm hj] at this
  simpa using this
theorem areT_nodup {l : List Tm} (h : areT l = true) : (l.map (fun t => t.f0)).Nodup := (areT_lt h).imp (fun h => by omega)
theorem ordT_perm (l : List Tm) : (ordT l).Perm l := List.mergeSort_perm _ _
theorem ordT_sorted (l : List Tm) : (ordT l).Pairwise (fun u v => befB v u = false) := by
  have := ordT_sortedK l
  rw [List.pairwise_map] at this
  exact this
theorem bef_pos {l : List Tm} (hn : (l.map (fun t => t.f0)).Nodup) {u v : Tm} (hu : u ∈ l) (hv : v ∈ l) (hne : u.f0 ≠ v.f0) : (((ordT l).map (fun t => t.f0)).idxOf u.f0 < ((ordT l).map (fun t => t.f0)).idxOf v.f0) ↔ befB u v = true := by
  have hn' : ((ordT l).map (fun t => t.f0)).Nodup := ((ordT_perm l).map _).nodup_iff.2 hn
  obtain ⟨i, hi, eu⟩ := List.mem_iff_getElem.1 ((ordT_perm l).mem_iff.2 hu)
  obtain ⟨j, hj, ev⟩ := List.mem_iff_getElem.1 ((ordT_perm l).mem_iff.2 hv)
  have e1 : ((ordT l).map (fun t => t.f0)).idxOf u.f0 = i := by
    have := List.Nodup.idxOf_getElem hn' i (by simpa using hi)
    simpa [eu] using this
  have e2 : ((ordT l).map (fun t => t.f0)).idxOf v.f0 = j := by
    have := List.Nodup.idxOf_getElem hn' j (by simpa using hj)
    simpa [ev] using this
  rw [e1, e2]
  have hp := List.pairwise_iff_getElem.1 (ordT_sorted l)
  constructor
  · intro hij
    have := hp i j hi hj hij
    rw [eu, ev] at this
    exact bef_total (Ne.symm hne) this
  · intro hb
    rcases Nat.lt_trichotomy i j with h | h | h
    · exact h
    · subst h
      exact absurd (by rw [← eu, ← ev]) hne
    · have := hp j i hj hi h
      rw [eu, ev] at this
      rw [this] at hb
      cases hb
end Go.Proofs.Ytiimiogpiflkdaa.L
end

section
set_option linter.unusedVariables false
set_option linter.unusedSimpArgs false
namespace Go.Proofs.Ytiimiogpiflkdaa.L
open Go
end Go.Proofs.Ytiimiogpiflkdaa.L
end

section
set_option linter.unusedVariables false
set_option linter.unusedSimpArgs false
namespace Go.Proofs.Ytiimiogpiflkdaa.L
open Go Go.RowKit Go.Proofs.Ytiimiogpiflkdaa.A Go.Proofs.YtiimiogpiflkdaaW.PrintWords
abbrev Pr := S46
theorem rdPair {l : List S46} {n : Nat} (h : n < l.length) : rd_T46 l (n : Int) = l[n] := by
  simp [rd_T46, h]
end Go.Proofs.Ytiimiogpiflkdaa.L
end

section
set_option linter.unusedVariables false
set_option linter.unusedSimpArgs false
namespace Go.Proofs.Ytiimiogpiflkdaa.L
open Go Go.RowKit Go.Proofs.Ytiimiogpiflkdaa.A Go.Proofs.YtiimiogpiflkdaaW.PrintWords
def sides : List Pr → List Int
  | [] => []
  | p :: r => p.f0 :: p.f1 :: sides r
theorem sides_length : ∀ r : List Pr, (sides r).length = 2 * r.length
  | [] => rfl
  | p :: r => by simp only [sides, List.length_cons, sides_length r]; omega
def fresh (l : List Tm) (r : List Pr) : List Int → Bool
  | seen => match r with
    | [] => true
    | p :: r => mayT l p.f0 p.f1 && !decide (p.f0 ∈ seen) && !decide (p.f1 ∈ seen) && fresh l r (seen ++ [p.f0, p.f1])
theorem fresh_iff (l : List Tm) : ∀ (r : List Pr) (seen : List Int), fresh l r seen = true ↔ (∀ p ∈ r, mayT l p.f0 p.f1 = true) ∧ (sides r).Nodup ∧ ∀ x ∈ sides r, x ∉ seen
  | [], seen => by simp [fresh, sides]
  | p :: r, seen => by
    rw [fresh]
    simp only [Bool.and_eq_true, Bool.not_eq_true', decide_eq_false_iff_not, fresh_iff l r, sides, List.nodup_cons, List.mem_cons, List.mem_append, List.not_mem_nil, or_false, forall_eq_or_imp, not_or]
    constructor
    · rintro ⟨⟨⟨h1, h2⟩, h3⟩, h4, h5, h6⟩
      have hm := (mayT_iff.1 h1).2.2.2.1
      refine ⟨⟨h1, h4⟩, ⟨⟨fun e => hm (by rw [e]), fun hx => (h6 _ hx).2.1 rfl⟩, fun hx => (h6 _ hx).2.2 rfl, h5⟩, h2, h3, fun x hx => (h6 x hx).1⟩
    · rintro ⟨⟨h1, h4⟩, ⟨⟨h7, h8⟩, h9, h5⟩, h2, h3, h6⟩
      exact ⟨⟨⟨h1, h2⟩, h3⟩, h4, h5, fun x hx => ⟨h6 x hx, fun e => h8 (e ▸ hx), fun e => h9 (e ▸ hx)⟩⟩
def isRoundB (l : List Tm) (r : List Pr) : Bool := fresh l r [] && areT l && decide ((sides r).length = l.length)
end Go.Proofs.Ytiimiogpiflkdaa.L
end

section
set_option linter.unusedVariables false
set_option linter.unusedSimpArgs false
namespace Go.Proofs.Ytiimiogpiflkdaa.L
open Go Go.RowKit Go.Proofs.Ytiimiogpiflkdaa.A Go.Proofs.YtiimiogpiflkdaaW.PrintWords
theorem bef_neg {x y u : K3} (h1 : befK x y = false) (h2 : befK y u = false) : befK x u = false := by
  rw [Bool.eq_false_iff, Ne, befK_iff] at *
  omega
theorem bef_asym {x y : K3} (h : befK x y = true) : befK y x = false := by
  rw [befK_iff] at h
  rw [Bool.eq_false_iff, Ne, befK_iff]
  omega
theorem insKP_le (x : K3) (ys : List K3) : ∀ k, insKP x ys k ≤ k
  | 0 => Nat.le_refl _
  | k + 1 => by
    rw [insKP]
    split
    · have := insKP_le x ys k; omega
    · exact Nat.le_refl _
theorem insKP_above (x : K3) (ys : List K3) : ∀ k j : Nat, insKP x ys k ≤ j → j < k → befK x (ys.getD j default) = true
  | 0, j, _, h => by omega
  | k + 1, j, h1, h2 => by
    rw [insKP] at h1
    by_cases hb : befK x (ys.getD k default) = true
    · rw [if_pos hb] at h1
      by_cases e : j = k
      · subst e
        exact hb
      · exact insKP_above x ys k j h1 (by omega)
    · rw [if_neg hb] at h1
      omega
theorem insKP_below (x : K3) (ys : List K3) : ∀ k : Nat, 0 < insKP x ys k → befK x (ys.getD (insKP x ys k - 1) default) = false
  | 0, h => by simp [insKP] at h
  | k + 1, h => by
    rw [insKP] at h ⊢
    by_cases hb : befK x (ys.getD k default) = true
    · rw [if_pos hb] at h ⊢
      exact insKP_below x ys k h
    · rw [if_neg hb] at h ⊢
      rw [Nat.add_sub_cancel]
      exact Bool.eq_false_iff.mpr hb
theorem getD_at {ys : List K3} {j : Nat} (h : j < ys.length) : ys.getD j default = ys[j] := by
  rw [List.getD_eq_getElem?_getD, List.getElem?_eq_getElem h]
  rfl
abbrev SrtK (ys : List K3) : Prop := ys.Pairwise (fun u v => befK v u = false)
theorem insKK_sorted {ys : List K3} {x : K3} (h : SrtK ys) : SrtK (insKK ys x) := by
  have hp := insKP_le x ys ys.length
  have habove := fun j => insKP_above x ys ys.length j
  have hbelow := insKP_below x ys ys.length
  unfold insKK
  generalize insKP x ys ys.length = p at hp habove hbelow ⊢
  have hg := List.pairwise_iff_getElem.1 h
  unfold SrtK
  rw [List.append_assoc, List.pairwise_append]
  refine ⟨h.sublist (List.take_sublist _ _), ?_, ?_⟩
  · rw [List.singleton_append, List.pairwise_cons]
    refine ⟨fun v hv => ?_, h.sublist (List.drop_sublist _ _)⟩
    obtain ⟨j, hj, rfl⟩ := List.mem_iff_getElem.1 hv
    have hj2 : p + j < ys.length := by rw [List.length_drop] at hj; omega
    rw [List.getElem_drop]
    have := habove (p + j) (by omega) hj2
    rw [getD_at hj2] at this
    exact bef_asym this
  · intro u hu v hv
    obtain ⟨j, hj, rfl⟩ := List.mem_iff_getElem.1 hu
    have hj1 : j < p := by rw [List.length_take] at hj; omega
    have hj2 : j < ys.length := by omega
    rw [List.getElem_take]
    rcases List.mem_append.1 hv with hv | hv
    · rw [List.mem_singleton] at hv
      subst hv
      have hb := hbelow (by omega)
      have hp1 : p - 1 < ys.length := by omega
      rw [getD_at hp1] at hb
      by_cases e : j = p - 1
      · subst e
        exact hb
      · exact bef_neg hb (hg j (p - 1) hj2 hp1 (by omega))
    · obtain ⟨i, hi, rfl⟩ := List.mem_iff_getElem.1 hv
      rw [List.length_drop] at hi
      rw [List.getElem_drop]
      exact hg j (p + i) hj2 (by omega) (by omega)
theorem insKK_perm (ys : List K3) (x : K3) : (insKK ys x).Perm (x :: ys) := by
  unfold insKK
  rw [List.append_assoc, List.singleton_append]
  refine List.perm_middle.trans ?_
  rw [List.take_append_drop]
theorem fold_sorted : ∀ (ks ys : List K3), SrtK ys → SrtK (ks.foldl insKK ys)
  | [], ys, h => h
  | k :: ks, ys, h => fold_sorted ks (insKK ys k) (insKK_sorted h)
theorem fold_perm : ∀ (ks ys : List K3), (ks.foldl insKK ys).Perm (ks ++ ys)
  | [], ys => List.Perm.refl _
  | k :: ks, ys => by
    rw [List.foldl_cons]
    refine (fold_perm ks (insKK ys k)).trans ?_
    refine ((insKK_perm ys k).append_left ks).trans ?_
    exact List.perm_middle
theorem areT_ten {l : List Tm} (h : areT l = true) : l.length ≤ 10 := by
  by_cases h10 : l.length ≤ 10
  · exact h10
  · rw [areT_big h10] at h
    cases h
def standT (l : List Tm) : List Int := if areT l = true then (ordT l).map (fun t => t.f0) else []
theorem iStanding_ev (l : List Tm) (hs : Small l) : Ev (fun k => impl_Standing.f k l) (standT l) := by
  unfold impl_Standing.f standT
  refine Ev.bind (iAreTeams_ev l hs) ?_
  by_cases h : areT l = true
  · exact Ev.cast (Ev.pos h (Ev.pos (by have := areT_ten h; omega) (Ev.now _))) (if_pos h).symm
  · exact Ev.cast (Ev.neg h (Ev.now _)) (if_neg h).symm
theorem sStanding_ev (l : List Tm) (hs : Small l) : Ev (fun k => spec_Standing.f k l) (standT l) := by
  unfold spec_Standing.f standT
  refine Ev.bind (sAreTeams_ev l hs) ?_
  by_cases h : areT l = true
  · refine Ev.cast (Ev.pos h (Ev.pos (by have := areT_ten h; omega) (Ev.now _))) ?_
    rw [if_pos h]
    have hp : ((l.map keyS).foldl insKK []).Perm ((ordT l).map keyS) := by
      refine (fold_perm (l.map keyS) []).trans ?_
      rw [List.append_nil]
      exact ((List.mergeSort_perm _ _).symm).map _
    rw [sorted_one hp (fold_sorted _ [] List.Pairwise.nil) (ordT_sortedK l), List.map_map]
    rfl
  · exact Ev.cast (Ev.neg h (Ev.now _)) (if_neg h).symm
end Go.Proofs.Ytiimiogpiflkdaa.L
end

section
set_option linter.unusedVariables false
set_option linter.unusedSimpArgs false
namespace Go.Proofs.Ytiimiogpiflkdaa.L
open Go Go.RowKit Go.Proofs.Ytiimiogpiflkdaa.A Go.Proofs.YtiimiogpiflkdaaW.PrintWords
def sideT (l : List Tm) (a b : Int) : Int × Int :=
  if areT l = true ∧ 0 ≤ findT l a ∧ 0 ≤ findT l b ∧ findT l a ≠ findT l b then
    (if (rd_T61 l (findT l a)).f4 < (rd_T61 l (findT l b)).f4 ∨ (rd_T61 l (findT l a)).f4 = (rd_T61 l (findT l b)).f4 ∧ befB (rd_T61 l (findT l a)) (rd_T61 l (findT l b)) = true then (a, b) else (b, a))
  else (0, 0)
theorem ids_ne {l : List Tm} {a b : Int} (h2 : 0 ≤ findT l a) (h3 : 0 ≤ findT l b) (h4 : findT l a ≠ findT l b) : a ≠ b := fun e => h4 (by rw [e])
theorem sSide_j0 (l : List Tm) (a b : Int) (h1 : areT l = true) (h2 : 0 ≤ findT l a) (h3 : 0 ≤ findT l b) (h4 : findT l a ≠ findT l b) : Ev (fun k => spec_SideFor.j0 k l a b (findT l a) (findT l b) false) (sideT l a b) := by
  have ha := findT_range l a
  have hb := findT_range l b
  have hne := ids_ne h2 h3 h4
  have e1 : (rd_T61 l (findT l a)).f0 = a := findT_id h2
  have e2 : (rd_T61 l (findT l b)).f0 = b := findT_id h3
  have hsd : sideT l a b = (if (rd_T61 l (findT l a)).f4 < (rd_T61 l (findT l b)).f4 ∨ (rd_T61 l (findT l a)).f4 = (rd_T61 l (findT l b)).f4 ∧ befB (rd_T61 l (findT l a)) (rd_T61 l (findT l b)) = true then (a, b) else (b, a)) := if_pos ⟨h1, h2, h3, h4⟩
  rw [hsd]
  refine Ev.step (fun k => spec_SideFor.j0.eq_2 ..) (Ev.neg (by simp) (Ev.pos h3 (Ev.pos hb.2 (Ev.pos h2 (Ev.pos ha.2 ?_)))))
  refine Ev.ite (fun h5 => Ev.some_ ?_) (fun h5 => ?_)
  · rw [if_neg (by omega)]
  · refine Ev.ite (fun h6 => ?_) (fun h6 => Ev.some_ ?_)
    · refine Ev.bnd (sBefore_eq _ _) ?_
      refine Ev.ite (fun h7 => Ev.some_ ?_) (fun h7 => Ev.some_ ?_)
      · have := bef_asymm h7
        rw [if_neg (by rintro (h | ⟨_, h⟩); · omega
                       · rw [this] at h; cases h)]
      · have := bef_total (by rw [e1, e2]; exact hne.symm) (Bool.not_eq_true _ ▸ h7)
        rw [if_pos (.inr ⟨h6.symm, this⟩)]
    · rw [if_pos (.inl (by omega))]
theorem sSideFor_ev (l : List Tm) (a b : Int) (hs : Small l) : Ev (fun k => spec_SideFor.f k l a b) (sideT l a b) := by
  unfold spec_SideFor.f
  have hj : ∀ x y, Ev (fun k => spec_SideFor.j0 k l a b x y true) (0, 0) := fun x y => Ev.step (fun k => spec_SideFor.j0.eq_2 ..) (Ev.pos rfl (Ev.now _))
  refine Ev.bind (sFindTeam_ev l a hs.1) (Ev.bind (sFindTeam_ev l b hs.1) (Ev.bind (sAreTeams_ev l hs) ?_))
  refine Ev.ite (fun h1 => ?_) (fun h1 => Ev.cast (hj _ _) (if_neg (fun h => h1 h.1)).symm)
  refine Ev.ite (fun h2 => Ev.cast (hj _ _) (if_neg (fun h => by omega)).symm) (fun h2 => ?_)
  refine Ev.ite (fun h3 => Ev.cast (hj _ _) (if_neg (fun h => by omega)).symm) (fun h3 => ?_)
  by_cases h4 : findT l a = findT l b
  · simp only [h4, beq_self_eq_true]
    exact Ev.cast (hj _ _) (if_neg (fun h => h.2.2.2 h4)).symm
  · rw [show (findT l a == findT l b) = false from beq_false_of_ne h4]
    exact sSide_j0 l a b h1 (by omega) (by omega) h4
theorem iSide_j0 (l : List Tm) (a b : Int) (hs : Small l) (h1 : areT l = true) (h2 : 0 ≤ findT l a) (h3 : 0 ≤ findT l b) (h4 : findT l a ≠ findT l b) : Ev (fun k => impl_SideFor.j0 k l a b (findT l a) (findT l b) false) (sideT l a b) := by
  have ha := findT_range l a
  have hb := findT_range l b
  have hne := ids_ne h2 h3 h4
  have e1 : (rd_T61 l (findT l a)).f0 = a := findT_id h2
  have e2 : (rd_T61 l (findT l b)).f0 = b := findT_id h3
  have hsd : sideT l a b = (if (rd_T61 l (findT l a)).f4 < (rd_T61 l (findT l b)).f4 ∨ (rd_T61 l (findT l a)).f4 = (rd_T61 l (findT l b)).f4 ∧ befB (rd_T61 l (findT l a)) (rd_T61 l (findT l b)) = true then (a, b) else (b, a)) := if_pos ⟨h1, h2, h3, h4⟩
  rw [hsd]
  have hst := iStanding_ev l hs
  unfold standT at hst
  rw [if_pos h1] at hst
  have hlen := areT_len h1
  have hol : ((ordT l).map (fun t => t.f0)).length ≤ 1099511627776 := by rw [List.length_map, (ordT_perm l).length_eq]; omega
  refine Ev.step (fun k => impl_SideFor.j0.eq_2 ..) (Ev.neg (by simp) (Ev.pos h2 (Ev.pos ha.2 (Ev.pos h3 (Ev.pos hb.2 ?_)))))
  refine Ev.bind hst ?_
  refine Ev.ite (fun h5 => Ev.some_ ?_) (fun h5 => ?_)
  · rw [if_pos (.inl h5)]
  · refine Ev.ite (fun h6 => ?_) (fun h6 => Ev.some_ ?_)
    · refine Ev.bind (Index_ev _ a hol) (Ev.bind (Index_ev _ b hol) ?_)
      have hp := bef_pos (areT_nodup h1) (rdTm_mem h2 ha.2) (rdTm_mem h3 hb.2) (by rw [show (rd_T61 l (findT l a)).f0 = a from e1, show (rd_T61 l (findT l b)).f0 = b from e2]; exact hne)
      rw [show (rd_T61 l (findT l a)).f0 = a from e1, show (rd_T61 l (findT l b)).f0 = b from e2] at hp
      have hma : a ∈ (ordT l).map (fun t => t.f0) := List.mem_map.2 ⟨_, (ordT_perm l).mem_iff.2 (rdTm_mem h2 ha.2), e1⟩
      have hmb : b ∈ (ordT l).map (fun t => t.f0) := List.mem_map.2 ⟨_, (ordT_perm l).mem_iff.2 (rdTm_mem h3 hb.2), e2⟩
      simp only [idx, if_pos hma, if_pos hmb]
      refine Ev.ite (fun h7 => Ev.some_ ?_) (fun h7 => Ev.some_ ?_)
      · rw [if_pos (.inr ⟨h6, hp.1 (by omega)⟩)]
      · rw [if_neg (by rintro (h | ⟨_, h⟩); · omega
                       · exact h7 (by have := hp.2 h; omega))]
    · rw [if_neg (by rintro (h | ⟨h, _⟩) <;> omega)]
theorem iSideFor_ev (l : List Tm) (a b : Int) (hs : Small l) : Ev (fun k => impl_SideFor.f k l a b) (sideT l a b) := by
  unfold impl_SideFor.f
  have hj : ∀ x y, Ev (fun k => impl_SideFor.j0 k l a b x y true) (0, 0) := fun x y => Ev.step (fun k => impl_SideFor.j0.eq_2 ..) (Ev.pos rfl (Ev.now _))
  refine Ev.bnd (iFindTeam_eq l a) (Ev.bnd (iFindTeam_eq l b) (Ev.bind (iAreTeams_ev l hs) ?_))
  refine Ev.ite (fun h1 => ?_) (fun h1 => Ev.cast (hj _ _) (if_neg (fun h => h1 h.1)).symm)
  refine Ev.ite (fun h2 => Ev.cast (hj _ _) (if_neg (fun h => by omega)).symm) (fun h2 => ?_)
  refine Ev.ite (fun h3 => Ev.cast (hj _ _) (if_neg (fun h => by omega)).symm) (fun h3 => ?_)
  by_cases h4 : findT l a = findT l b
  · simp only [h4, beq_self_eq_true]
    exact Ev.cast (hj _ _) (if_neg (fun h => h.2.2.2 h4)).symm
  · rw [show (findT l a == findT l b) = false from beq_false_of_ne h4]
    exact iSide_j0 l a b hs h1 (by omega) (by omega) h4
end Go.Proofs.Ytiimiogpiflkdaa.L
end

section
set_option linter.unusedVariables false
set_option linter.unusedSimpArgs false
namespace Go.Proofs.Ytiimiogpiflkdaa.L
open Go Go.RowKit Go.Proofs.Ytiimiogpiflkdaa.A Go.Proofs.YtiimiogpiflkdaaW.PrintWords
def sideP (l : List Tm) (a b : Int) : Pr := ⟨(sideT l a b).1, (sideT l a b).2⟩
def pairL (l : List Tm) (g : List Int → List Pr × Bool) (x : Int) : List Int → List Int → List Pr × Bool
  | _, [] => ([], false)
  | pre, y :: ys => if mayT l x y = true then (if (g (pre ++ ys)).2 = true then (sideP l x y :: (g (pre ++ ys)).1, true) else pairL l g x (pre ++ [y]) ys) else pairL l g x (pre ++ [y]) ys
def pairR (l : List Tm) : Nat → List Int → List Pr × Bool
  | 0, _ => ([], true)
  | _ + 1, [] => ([], true)
  | n + 1, x :: r => pairL l (pairR l n) x [] r
def roundT (l : List Tm) : List Pr × Bool := if areT l = true ∧ l.length % 2 = 0 then pairR l l.length (standT l) else ([], false)
theorem metT_symm {l : List Tm} (h : areT l = true) {a b : Int} (ha : 0 ≤ findT l a) (hb : 0 ≤ findT l b) (hm : metT l a b = true) : metT l b a = true := by
  have h1 := of_decide_eq_true hm
  have hr := findT_range l a
  obtain ⟨m, hmn⟩ : ∃ m : Nat, findT l a = (m : Int) := ⟨(findT l a).toNat, by omega⟩
  have hrow := areT_row h m (by omega)
  simp only [okT, Bool.and_eq_true, List.all_eq_true] at hrow
  have h2 := h1.2
  rw [hmn] at h2
  have h3 := of_decide_eq_true (hrow.2 b h2)
  have hid : (rdT l (m : Int)).f0 = a := by rw [← hmn]; exact findT_id ha
  rw [hid] at h3
  have h4 := List.count_pos_iff.2 h2
  refine decide_eq_true ⟨hb, List.count_pos_iff.1 ?_⟩
  have h5 := h3.2.2
  show 0 < List.count a (rdT l (findT l b)).f5
  have h6 : 0 < List.count b (rdT l (m : Int)).f5 := h4
  omega
theorem mayT_symm (l : List Tm) (a b : Int) : mayT l a b = mayT l b a := by
  rw [Bool.eq_iff_iff, mayT_iff, mayT_iff]
  constructor
  · rintro ⟨h1, h2, h3, h4, h5, h6⟩
    refine ⟨h1, h3, h2, h4.symm, h5.symm, ?_⟩
    rw [Bool.eq_false_iff] at h6 ⊢
    exact fun h => h6 (metT_symm h1 h3 h2 h)
  · rintro ⟨h1, h2, h3, h4, h5, h6⟩
    refine ⟨h1, h3, h2, h4.symm, h5.symm, ?_⟩
    rw [Bool.eq_false_iff] at h6 ⊢
    exact fun h => h6 (metT_symm h1 h3 h2 h)
theorem sideP_of {l : List Tm} {a b : Int} (h : mayT l a b = true) : (sideP l a b = ⟨a, b⟩ ∨ sideP l a b = ⟨b, a⟩) ∧ mayT l (sideP l a b).f0 (sideP l a b).f1 = true ∧ (rdT l (findT l (sideP l a b).f0)).f4 ≤ (rdT l (findT l (sideP l a b).f1)).f4 := by
  obtain ⟨h1, h2, h3, h4, h5, h6⟩ := mayT_iff.1 h
  have hs : sideT l a b = (if (rd_T61 l (findT l a)).f4 < (rd_T61 l (findT l b)).f4 ∨ (rd_T61 l (findT l a)).f4 = (rd_T61 l (findT l b)).f4 ∧ befB (rd_T61 l (findT l a)) (rd_T61 l (findT l b)) = true then (a, b) else (b, a)) := if_pos ⟨h1, h2, h3, h4⟩
  by_cases hc : (rd_T61 l (findT l a)).f4 < (rd_T61 l (findT l b)).f4 ∨ (rd_T61 l (findT l a)).f4 = (rd_T61 l (findT l b)).f4 ∧ befB (rd_T61 l (findT l a)) (rd_T61 l (findT l b)) = true
  · rw [if_pos hc] at hs
    have e : sideP l a b = ⟨a, b⟩ := by unfold sideP; rw [hs]
    rw [e]
    refine ⟨.inl rfl, h, ?_⟩
    show (rd_T61 l (findT l a)).f4 ≤ (rd_T61 l (findT l b)).f4
    omega
  · rw [if_neg hc] at hs
    have e : sideP l a b = ⟨b, a⟩ := by unfold sideP; rw [hs]
    rw [e]
    refine ⟨.inr rfl, by rw [mayT_symm]; exact h, ?_⟩
    show (rd_T61 l (findT l b)).f4 ≤ (rd_T61 l (findT l a)).f4
    omega
def GoodR (l : List Tm) (left : List Int) (z : List Pr × Bool) : Prop :=
  (z.2 = true → (sides z.1).Perm left ∧ ∀ p ∈ z.1, mayT l p.f0 p.f1 = true ∧ (rdT l (findT l p.f0)).f4 ≤ (rdT l (findT l p.f1)).f4) ∧ (z.2 = false → z.1 = [])
theorem pairL_good (l : List Tm) (g : List Int → List Pr × Bool) (x : Int) : ∀ (ys pre : List Int), (∀ z : List Int, z.length + 1 ≤ pre.length + ys.length → GoodR l z (g z)) → GoodR l (x :: (pre ++ ys)) (pairL l g x pre ys)
  | [], pre, hg => ⟨fun h => by simp [pairL] at h, fun _ => rfl⟩
  | y :: ys, pre, hg => by
    have hrest : GoodR l (x :: (pre ++ y :: ys)) (pairL l g x (pre ++ [y]) ys) := by
      have := pairL_good l g x ys (pre ++ [y]) (fun z hz => hg z (by simp at hz ⊢; omega))
      simpa using this
    rw [pairL]
    split
    · rename_i hm
      split
      · rename_i hz
        obtain ⟨h1, h2⟩ := hg (pre ++ ys) (by simp; omega)
        obtain ⟨hp, hq⟩ := h1 hz
        obtain ⟨k1, k2, k3⟩ := sideP_of hm
        refine ⟨fun _ => ⟨?_, fun p hp => ?_⟩, fun h => by simp at h⟩
        · show (sides (sideP l x y :: (g (pre ++ ys)).1)).Perm _
          have hxy : (x :: y :: (pre ++ ys)).Perm (x :: (pre ++ y :: ys)) := List.Perm.cons _ List.perm_middle.symm
          rcases k1 with k1 | k1
          · rw [k1]
            exact (((hp.cons y).cons x)).trans hxy
          · rw [k1]
            exact ((((hp.cons x).cons y)).trans (List.Perm.swap _ _ _)).trans hxy
        · rcases List.mem_cons.1 hp with rfl | hp
          · exact ⟨k2, k3⟩
          · exact hq p hp
      · exact hrest
    · exact hrest
theorem pairR_good (l : List Tm) : ∀ (n : Nat) (left : List Int), left.length ≤ n → GoodR l left (pairR l n left)
  | 0, [], _ => ⟨fun _ => ⟨List.Perm.refl _, fun p hp => by simp [pairR] at hp⟩, fun h => by simp [pairR] at h⟩
  | 0, x :: r, h => by simp at h
  | n + 1, [], _ => ⟨fun _ => ⟨List.Perm.refl _, fun p hp => by simp [pairR] at hp⟩, fun h => by simp [pairR] at h⟩
  | n + 1, x :: r, h => by
    simp only [List.length_cons] at h
    exact pairL_good l (pairR l n) x r [] (fun z hz => pairR_good l n z (by simp at hz; omega))
theorem standT_perm {l : List Tm} (h : areT l = true) : (standT l).Perm (l.map (fun t => t.f0)) := by
  unfold standT
  rw [if_pos h]
  exact (ordT_perm l).map _
theorem standT_length {l : List Tm} (h : areT l = true) : (standT l).length = l.length := by
  rw [(standT_perm h).length_eq, List.length_map]
theorem roundT_good (l : List Tm) : ((roundT l).2 = true → isRoundB l (roundT l).1 = true ∧ ∀ p ∈ (roundT l).1, mayT l p.f0 p.f1 = true ∧ (rdT l (findT l p.f0)).f4 ≤ (rdT l (findT l p.f1)).f4) ∧ ((roundT l).2 = false → (roundT l).1 = []) := by
  unfold roundT
  by_cases h : areT l = true ∧ l.length % 2 = 0
  · rw [if_pos h]
    obtain ⟨h1, h2⟩ := pairR_good l l.length (standT l) (by rw [standT_length h.1]; exact Nat.le_refl _)
    refine ⟨fun h3 => ?_, h2⟩
    obtain ⟨hp, hq⟩ := h1 h3
    have hp2 := hp.trans (standT_perm h.1)
    refine ⟨?_, hq⟩
    unfold isRoundB
    simp only [Bool.and_eq_true, decide_eq_true_eq]
    refine ⟨⟨(fresh_iff l _ []).2 ⟨fun p hp => (hq p hp).1, hp2.nodup_iff.2 (areT_nodup h.1), fun x _ => List.not_mem_nil⟩, h.1⟩, ?_⟩
    rw [hp2.length_eq, List.length_map]
  · rw [if_neg h]
    exact ⟨fun h => by simp at h, fun _ => rfl⟩
theorem roundT_len (l : List Tm) : (roundT l).1.length ≤ 10 := by
  obtain ⟨h1, h2⟩ := roundT_good l
  cases h : (roundT l).2 with
  | false => rw [h2 h]; simp
  | true =>
    have h3 := (h1 h).1
    unfold isRoundB at h3
    simp only [Bool.and_eq_true, decide_eq_true_eq] at h3
    have h4 := areT_len h3.1.2
    have h5 := sides_length (roundT l).1
    omega
end Go.Proofs.Ytiimiogpiflkdaa.L
end

section
set_option linter.unusedVariables false
set_option linter.unusedSimpArgs false
namespace Go.Proofs.Ytiimiogpiflkdaa.L
open Go Go.RowKit Go.Proofs.Ytiimiogpiflkdaa.A Go.Proofs.YtiimiogpiflkdaaW.PrintWords
theorem rd_head (x : Int) (r : List Int) : rd (x :: r) 0 = x := by simp [rd]
theorem rd_tail (x : Int) (r : List Int) {m : Nat} (h : m < r.length) : rd (x :: r) ((m + 1 : Nat) : Int) = r[m] := by
  rw [rd_at (by first | (simp; done) | (simp; omega))]
  rfl
theorem sPair_l0 (l : List Tm) (hs : Small l) (x : Int) (r : List Int) (g : List Int → List Pr × Bool) (hr : r.length ≤ 1048576) (ih : ∀ z : List Int, z.length + 1 ≤ r.length → Ev (fun k => spec_l20Search.f k l z) (g z)) (hg : ∀ z : List Int, z.length + 1 ≤ r.length → (g z).1.length ≤ z.length) :
    ∀ (d m : Nat), m + d = r.length → Ev (fun k => spec_l20Search.l0 k l (x :: r) ((m + 1 : Nat) : Int)) (pairL l g x (r.take m) (r.drop m)) := by
  intro d
  induction d with
  | zero =>
    intro m hd
    refine Ev.step (fun k => spec_l20Search.l0.eq_2 ..) (Ev.neg (by first | (simp; done) | (simp; omega)) (Ev.some_ ?_))
    rw [List.drop_eq_nil_of_le (by omega)]
    rfl
  | succ d ihd =>
    intro m hd
    have hm : m < r.length := by omega
    have hrest := ihd (m + 1) (by omega)
    rw [take_snoc r m hm] at hrest
    have hw : wrap64 (((m + 1 : Nat) : Int) + 1) = ((m + 1 + 1 : Nat) : Int) := w64s (by omega)
    have hz : (r.take m ++ r.drop (m + 1)).length + 1 ≤ r.length := by simp; omega
    rw [List.drop_eq_getElem_cons hm, pairL]
    refine Ev.step (fun k => spec_l20Search.l0.eq_2 ..) (Ev.pos (by first | (simp; done) | (simp; omega)) (Ev.pos (by first | (simp; done) | (simp; omega)) (Ev.pos (by omega) ?_)))
    simp only [rd_head, rd_tail x r hm, hw, Int.toNat_natCast, List.take_succ_cons, List.drop_succ_cons, List.drop_zero, Option.bind_some, List.nil_append]
    refine Ev.bind (sMayMeet_ev l x r[m] hs) ?_
    refine Ev.ite (fun h => ?_) (fun h => ?_)
    · rw [if_pos h]
      refine Ev.pos (by omega) (Ev.pos (by first | (simp; done) | (simp; omega)) (Ev.pos (by first | (simp; done) | (simp; omega)) (Ev.pos (by omega) (Ev.pos (by first | (simp; done) | (simp; omega)) (Ev.pos (by first | (simp; done) | (simp; omega)) ?_)))))
      have hlen := hg _ hz
      refine Ev.bind (ih _ hz) (Ev.ite (fun h2 => ?_) (fun h2 => ?_))
      · rw [if_pos h2]
        refine Ev.bind (sSideFor_ev l x r[m] hs) (Ev.pos (by simp only [List.length_cons, List.length_nil]; omega) (Ev.now _))
      · rw [if_neg h2]
        exact hrest
    · rw [if_neg h]
      exact hrest
theorem pairL_len (l : List Tm) (g : List Int → List Pr × Bool) (x : Int) : ∀ (ys pre : List Int), (∀ z : List Int, z.length + 1 ≤ pre.length + ys.length → (g z).1.length ≤ z.length) → (pairL l g x pre ys).1.length ≤ pre.length + ys.length
  | [], pre, _ => by simp [pairL]
  | y :: ys, pre, hg => by
    have h1 := pairL_len l g x ys (pre ++ [y]) (fun z hz => hg z (by simp at hz ⊢; omega))
    have h2 := hg (pre ++ ys) (by first | (simp; done) | (simp; omega))
    simp only [List.length_append, List.length_cons, List.length_nil] at h1 h2 ⊢
    rw [pairL]
    split
    · split
      · simp only [List.length_cons]; omega
      · omega
    · omega
theorem pairR_len (l : List Tm) : ∀ (n : Nat) (left : List Int), (pairR l n left).1.length ≤ left.length
  | 0, left => by simp [pairR]
  | n + 1, [] => by simp [pairR]
  | n + 1, x :: r => by
    have := pairL_len l (pairR l n) x r [] (fun z _ => pairR_len l n z)
    simp only [List.length_nil, List.length_cons] at this ⊢
    rw [pairR]
    omega
theorem sPair_ev (l : List Tm) (hs : Small l) : ∀ (n : Nat) (left : List Int), left.length ≤ n → left.length ≤ 1048576 → Ev (fun k => spec_l20Search.f k l left) (pairR l n left)
  | 0, [], _, _ => Ev.step (fun k => spec_l20Search.f.eq_2 ..) (Ev.pos (by simp) (Ev.now _))
  | 0, x :: r, h, _ => by simp at h
  | n + 1, [], _, _ => Ev.step (fun k => spec_l20Search.f.eq_2 ..) (Ev.pos (by simp) (Ev.now _))
  | n + 1, x :: r, h, h2 => by
    simp only [List.length_cons] at h h2
    refine Ev.step (fun k => spec_l20Search.f.eq_2 ..) (Ev.neg (by first | (simp; done) | (simp; omega)) ?_)
    have := sPair_l0 l hs x r (pairR l n) (by omega) (fun z hz => sPair_ev l hs n z (by omega) (by omega)) (fun z _ => pairR_len l n z) r.length 0 (by omega)
    simpa [pairR] using this
theorem even_eq {l : List Tm} (h : l.length % 2 = 0) : (((l.length : Int) % 2) == 1) = false := by
  rw [beq_eq_false_iff_ne]
  omega
theorem odd_eq {l : List Tm} (h : ¬ l.length % 2 = 0) : (((l.length : Int) % 2) == 1) = true := by
  rw [beq_iff_eq]
  omega
theorem sPairRound_ev (l : List Tm) (hs : Small l) : Ev (fun k => spec_PairRound.f k l) (roundT l) := by
  unfold spec_PairRound.f roundT
  have hj : Ev (fun k => spec_PairRound.j0 k l true) ([], false) := Ev.step (fun k => spec_PairRound.j0.eq_2 ..) (Ev.pos rfl (Ev.now _))
  refine Ev.bind (sAreTeams_ev l hs) (Ev.ite (fun h1 => ?_) (fun h1 => by rw [if_neg (fun h => h1 h.1)]; exact hj))
  by_cases h2 : l.length % 2 = 0
  · rw [if_pos ⟨h1, h2⟩, even_eq h2]
    have h3 := standT_length h1
    have h4 := areT_len h1
    refine Ev.step (fun k => spec_PairRound.j0.eq_2 ..) (Ev.neg (by simp) (Ev.bind (sStanding_ev l hs) (Ev.bind (sPair_ev l hs l.length _ (by omega) (by omega)) (Ev.now _))))
  · rw [if_neg (fun h => h2 h.2), odd_eq h2]
    exact hj
end Go.Proofs.Ytiimiogpiflkdaa.L
end

section
set_option linter.unusedVariables false
set_option linter.unusedSimpArgs false
namespace Go.Proofs.Ytiimiogpiflkdaa.L
open Go Go.RowKit Go.Proofs.Ytiimiogpiflkdaa.A Go.Proofs.YtiimiogpiflkdaaW.PrintWords
theorem conc2 (x y : List Int) (hx : x.length ≤ 1099511627776) (hy : y.length ≤ 1099511627776) : Ev (fun k => slices_Concat_int_int.f k [x, y]) (x ++ y) := by
  unfold slices_Concat_int_int.f
  have e0 : rd_L1 [x, y] 0 = x := rfl
  have e1 : rd_L1 [x, y] 1 = y := rfl
  have w1 : wrap64 (0 + 1) = 1 := by unfold wrap64; omega
  have w2 : wrap64 (1 + 1) = 2 := by unfold wrap64; omega
  have wx : wrap64 (0 + (x.length : Int)) = (x.length : Int) := by unfold wrap64; omega
  have wy : wrap64 ((x.length : Int) + (y.length : Int)) = (x.length : Int) + (y.length : Int) := by unfold wrap64; omega
  refine Ev.step (fun k => slices_Concat_int_int.l0.eq_2 ..) (Ev.pos (by simp) (Ev.pos (by omega) (Ev.pos (by simp) ?_)))
  rw [e0, w1, wx]
  refine Ev.neg (by omega) (Ev.step (fun k => slices_Concat_int_int.l0.eq_2 ..) (Ev.pos (by simp) (Ev.pos (by omega) (Ev.pos (by simp) ?_))))
  rw [e1, w2, wy]
  refine Ev.neg (by omega) (Ev.step (fun k => slices_Concat_int_int.l0.eq_2 ..) (Ev.neg (by simp) ?_))
  refine Ev.bnd (a := []) (by unfold slices_Grow_int_int.f; exact if_pos ⟨rfl, by omega, by omega⟩) ?_
  refine Ev.step (fun k => slices_Concat_int_int.l1.eq_2 ..) (Ev.pos (by simp) (Ev.pos (by omega) (Ev.pos (by simp) ?_)))
  rw [e0, w1]
  refine Ev.pos (by simp; omega) (Ev.step (fun k => slices_Concat_int_int.l1.eq_2 ..) (Ev.pos (by simp) (Ev.pos (by omega) (Ev.pos (by simp) ?_))))
  rw [e1, w2]
  refine Ev.pos (by simp; omega) (Ev.step (fun k => slices_Concat_int_int.l1.eq_2 ..) (Ev.neg (by simp) (Ev.some_ ?_)))
  simp
def flat2 : List (Int × Int) → List Int
  | [] => []
  | p :: ps => p.1 :: p.2 :: flat2 ps
end Go.Proofs.Ytiimiogpiflkdaa.L
end

section
set_option linter.unusedVariables false
set_option linter.unusedSimpArgs false
namespace Go.Proofs.Ytiimiogpiflkdaa.L
open Go Go.RowKit Go.Proofs.Ytiimiogpiflkdaa.A Go.Proofs.YtiimiogpiflkdaaW.PrintWords
theorem iPair_l0 (l : List Tm) (hs : Small l) (x : Int) (r : List Int) (g : List Int → List Pr × Bool) (hr : r.length ≤ 1048576) (ih : ∀ z : List Int, z.length + 1 ≤ r.length → Ev (fun k => impl_paired.f k l z) (g z)) (hg : ∀ z : List Int, z.length + 1 ≤ r.length → (g z).1.length ≤ z.length) :
    ∀ (d m : Nat), m + d = r.length → Ev (fun k => impl_paired.l0 k l (x :: r) ((m + 1 : Nat) : Int)) (pairL l g x (r.take m) (r.drop m)) := by
  intro d
  induction d with
  | zero =>
    intro m hd
    refine Ev.step (fun k => impl_paired.l0.eq_2 ..) (Ev.neg (by first | (simp; done) | (simp; omega)) (Ev.some_ ?_))
    rw [List.drop_eq_nil_of_le (by omega)]
    rfl
  | succ d ihd =>
    intro m hd
    have hm : m < r.length := by omega
    have hrest := ihd (m + 1) (by omega)
    rw [take_snoc r m hm] at hrest
    have hw : wrap64 (((m + 1 : Nat) : Int) + 1) = ((m + 1 + 1 : Nat) : Int) := w64s (by omega)
    have hz : (r.take m ++ r.drop (m + 1)).length + 1 ≤ r.length := by simp; omega
    rw [List.drop_eq_getElem_cons hm, pairL]
    refine Ev.step (fun k => impl_paired.l0.eq_2 ..) (Ev.pos (by first | (simp; done) | (simp; omega)) (Ev.pos (by first | (simp; done) | (simp; omega)) (Ev.pos (by omega) ?_)))
    simp only [rd_head, rd_tail x r hm, hw, Int.toNat_natCast, List.take_succ_cons, List.drop_succ_cons, List.drop_zero, Option.bind_some, List.nil_append]
    refine Ev.bind (iMayMeet_ev l x r[m] hs) ?_
    refine Ev.ite (fun h => ?_) (fun h => ?_)
    · rw [if_pos h]
      refine Ev.pos (by omega) (Ev.pos (by first | (simp; done) | (simp; omega)) (Ev.pos (by omega) (Ev.pos (by first | (simp; done) | (simp; omega)) (Ev.bind (conc2 _ _ (by first | (simp; done) | (simp; omega)) (by first | (simp; done) | (simp; omega))) ?_))))
      have hlen := hg _ hz
      refine Ev.bind (ih _ hz) (Ev.ite (fun h2 => ?_) (fun h2 => ?_))
      · rw [if_pos h2]
        refine Ev.bind (iSideFor_ev l x r[m] hs) (Ev.pos (by simp only [List.length_cons, List.length_nil]; omega) (Ev.now _))
      · rw [if_neg h2]
        exact hrest
    · rw [if_neg h]
      exact hrest
theorem iPair_ev (l : List Tm) (hs : Small l) : ∀ (n : Nat) (left : List Int), left.length ≤ n → left.length ≤ 1048576 → Ev (fun k => impl_paired.f k l left) (pairR l n left)
  | 0, [], _, _ => Ev.step (fun k => impl_paired.f.eq_2 ..) (Ev.pos (by simp) (Ev.now _))
  | 0, x :: r, h, _ => by simp at h
  | n + 1, [], _, _ => Ev.step (fun k => impl_paired.f.eq_2 ..) (Ev.pos (by simp) (Ev.now _))
  | n + 1, x :: r, h, h2 => by
    simp only [List.length_cons] at h h2
    refine Ev.step (fun k => impl_paired.f.eq_2 ..) (Ev.neg (by first | (simp; done) | (simp; omega)) ?_)
    have := iPair_l0 l hs x r (pairR l n) (by omega) (fun z hz => iPair_ev l hs n z (by omega) (by omega)) (fun z _ => pairR_len l n z) r.length 0 (by omega)
    simpa [pairR] using this
theorem iPairRound_ev (l : List Tm) (hs : Small l) : Ev (fun k => impl_PairRound.f k l) (roundT l) := by
  unfold impl_PairRound.f roundT
  have hj : Ev (fun k => impl_PairRound.j0 k l true) ([], false) := Ev.step (fun k => impl_PairRound.j0.eq_2 ..) (Ev.pos rfl (Ev.now _))
  refine Ev.bind (iAreTeams_ev l hs) (Ev.ite (fun h1 => ?_) (fun h1 => by rw [if_neg (fun h => h1 h.1)]; exact hj))
  by_cases h2 : l.length % 2 = 0
  · rw [if_pos ⟨h1, h2⟩, even_eq h2]
    have h3 := standT_length h1
    have h4 := areT_len h1
    refine Ev.step (fun k => impl_PairRound.j0.eq_2 ..) (Ev.neg (by simp) (Ev.bind (iStanding_ev l hs) (Ev.bind (iPair_ev l hs l.length _ (by omega) (by omega)) (Ev.now _))))
  · rw [if_neg (fun h => h2 h.2), odd_eq h2]
    exact hj
end Go.Proofs.Ytiimiogpiflkdaa.L
end

section
set_option linter.unusedVariables false
set_option linter.unusedSimpArgs false
namespace Go.Proofs.Ytiimiogpiflkdaa.L
open Go Go.RowKit Go.Proofs.Ytiimiogpiflkdaa.A Go.Proofs.YtiimiogpiflkdaaW.PrintWords
theorem eqPair_same (x : S46) : laws_eqPair.f x.f0 x.f1 x.f0 x.f1 = some true := by simp [laws_eqPair.f]
theorem eqPairS_l0 (l : List S46) (hl : l.length ≤ 1099511627776) : ∀ (d n : Nat), n + d = l.length → Ev (fun k => laws_eqPairS.l0 k l l (n : Int)) true := by
  intro d
  induction d with
  | zero =>
    intro n hd
    refine Ev.step (fun k => laws_eqPairS.l0.eq_2 ..) ?_
    exact Ev.neg (by omega) (Ev.now _)
  | succ d ih =>
    intro n hd
    refine Ev.step (fun k => laws_eqPairS.l0.eq_2 ..) ?_
    refine Ev.pos (by omega) (Ev.pos (by omega) (Ev.pos (by omega) ?_))
    simp only [w64s (show n < 4611686018427387904 by omega), rdPair (show n < l.length by omega), eqPair_same, Option.bind_some]
    exact Ev.pos trivial (ih (n + 1) (by omega))
theorem eqPairS_ev (l : List S46) (hl : l.length ≤ 1099511627776) : Ev (fun k => laws_eqPairS.f k l l) true := by
  unfold laws_eqPairS.f
  exact Ev.pos rfl (eqPairS_l0 l hl l.length 0 (by omega))
end Go.Proofs.Ytiimiogpiflkdaa.L
end

section
set_option linter.unusedVariables false
set_option linter.unusedSimpArgs false
namespace Go.Proofs.Ytiimiogpiflkdaa.L
open Go Go.RowKit Go.Proofs.Ytiimiogpiflkdaa.A Go.Proofs.YtiimiogpiflkdaaW.PrintWords
def upsP : Nat → Int → List Pr
  | 0, _ => []
  | n + 1, k => ⟨k, k + 1⟩ :: upsP n (k + 2)
theorem upsP_length : ∀ (n : Nat) (k : Int), (upsP n k).length = n
  | 0, _ => rfl
  | n + 1, k => by simp [upsP, upsP_length n]
theorem upsP_get : ∀ (n : Nat) (k : Int) (i : Nat) (h : i < n), (upsP n k)[i]'(by rw [upsP_length]; exact h) = ⟨k + 2 * i, k + 2 * i + 1⟩
  | n + 1, k, 0, _ => by simp [upsP]
  | n + 1, k, i + 1, h => by
    simp only [upsP, List.getElem_cons_succ]
    rw [upsP_get n (k + 2) i (by omega)]
    have e : k + 2 + 2 * (i : Int) = k + 2 * ((i + 1 : Nat) : Int) := by omega
    rw [e]
theorem markPX_l0 (k0 : Int) (N : Nat) (h0 : 0 ≤ k0) (h1 : k0 ≤ 2305843009213693952) (hN : N ≤ 1099511627776) : ∀ (d n : Nat) (xs : List Pr), n + d = N → xs.length = N → xs.take n = (upsP N k0).take n → Ev (fun k => laws_markPairS.l0 k xs (k0 + 2 * n) (n : Int)) (k0 + 2 * N, upsP N k0) := by
  intro d
  induction d with
  | zero =>
    intro n xs hd hx ht
    refine Ev.step (fun k => laws_markPairS.l0.eq_2 ..) (Ev.neg (by omega) (Ev.some_ ?_))
    rw [List.take_of_length_le (by omega), List.take_of_length_le (by rw [upsP_length]; omega)] at ht
    have : n = N := by omega
    rw [ht, this]
  | succ d ih =>
    intro n xs hd hx ht
    have hn : n < xs.length := by omega
    refine Ev.step (fun k => laws_markPairS.l0.eq_2 ..) (Ev.pos (by omega) (Ev.pos (by omega) (Ev.bnd rfl ?_)))
    rw [w64s (show n < 4611686018427387904 by omega), w64 (x := wrap64 (k0 + 2 * (n : Int) + 1) + 1) (by unfold wrap64; omega) (by unfold wrap64; omega), show wrap64 (k0 + 2 * (n : Int) + 1) + 1 = k0 + 2 * ((n + 1 : Nat) : Int) by unfold wrap64; omega, show wrap64 (k0 + 2 * (n : Int) + 1) = k0 + 2 * (n : Int) + 1 by unfold wrap64; omega]
    simp only [Int.toNat_natCast, List.set_set]
    refine ih (n + 1) _ (by omega) (by simp [hx]) ?_
    rw [List.take_succ_eq_append_getElem (by simp; omega), List.take_succ_eq_append_getElem (by rw [upsP_length]; omega), List.take_set_of_le (by omega), ht, upsP_get N k0 n (by omega)]
    rw [rdPair (show n < (xs.set n _).length by simp; omega)]
    simp
theorem markPX_ev (l : List Pr) (k0 : Int) (h0 : 0 ≤ k0) (h1 : k0 ≤ 2305843009213693952) (hl : l.length ≤ 1099511627776) : Ev (fun k => laws_markPairS.f k l k0) (k0 + 2 * l.length, upsP l.length k0) := by
  have := markPX_l0 k0 l.length h0 h1 hl l.length 0 l (by omega) rfl (by simp)
  simpa [laws_markPairS.f] using this
theorem heldP_l0 (k0 : Int) (N : Nat) (h0 : 0 ≤ k0) (h1 : k0 ≤ 2305843009213693952) (hN : N ≤ 1099511627776) : ∀ (d n : Nat), n + d = N → Ev (fun k => laws_heldPairS.l0 k (upsP N k0) (k0 + 2 * n) (n : Int)) (k0 + 2 * N) := by
  intro d
  induction d with
  | zero =>
    intro n hd
    refine Ev.step (fun k => laws_heldPairS.l0.eq_2 ..) (Ev.neg (by rw [upsP_length]; omega) (Ev.some_ ?_))
    have : n = N := by omega
    rw [this]
  | succ d ih =>
    intro n hd
    refine Ev.step (fun k => laws_heldPairS.l0.eq_2 ..) ?_
    refine Ev.pos (by rw [upsP_length]; omega) (Ev.pos (by omega) ?_)
    have e1 : wrap64 (k0 + 2 * (n : Int) + 1) = k0 + 2 * (n : Int) + 1 := w64 (by omega) (by omega)
    have e2 : wrap64 (k0 + 2 * (n : Int) + 1 + 1) = k0 + 2 * ((n + 1 : Nat) : Int) := by rw [w64 (by omega) (by omega)]; omega
    simp only [w64s (show n < 4611686018427387904 by omega), e1, e2, rdPair (show n < (upsP N k0).length by rw [upsP_length]; omega), upsP_get N k0 n (show n < N by omega)]
    exact Ev.pos trivial (Ev.pos trivial (ih (n + 1) (by omega)))
theorem heldP_ev (N : Nat) (k0 : Int) (h0 : 0 ≤ k0) (h1 : k0 ≤ 2305843009213693952) (hN : N ≤ 1099511627776) : Ev (fun k => laws_heldPairS.f k (upsP N k0) k0) (k0 + 2 * N) := by
  unfold laws_heldPairS.f
  have := heldP_l0 k0 N h0 h1 hN N 0 (by omega)
  simpa using this
end Go.Proofs.Ytiimiogpiflkdaa.L
end

section
set_option linter.unusedVariables false
namespace Go.Proofs.Ytiimiogpiflkdaa.M
theorem tot_le (m B : Nat) : ∀ ns : List Nat, (∀ n ∈ ns, n ≤ B) → tot m ns ≤ ns.length * (m + B)
  | [], _ => by simp [tot]
  | n :: r, h => by
    have h1 := tot_le m B r (fun x hx => h x (List.mem_cons_of_mem _ hx))
    have h2 := h n List.mem_cons_self
    simp only [tot, List.length_cons, Nat.succ_mul]
    omega
theorem tot_small {α : Type} (m : Nat) (hm : m ≤ 5) (f : α → Nat) (l : List α) (hl : l.length ≤ 1048576) (hf : ∀ x ∈ l, f x ≤ 1048576) : tot m (l.map f) ≤ 1099516870656 := by
  have h := tot_le m 1048576 (l.map f) (by simpa using hf)
  rw [List.length_map] at h
  refine Nat.le_trans h ?_
  refine Nat.le_trans (Nat.mul_le_mul hl (Nat.add_le_add_right hm 1048576)) ?_
  omega
end Go.Proofs.Ytiimiogpiflkdaa.M
end

section
set_option linter.unusedVariables false
set_option linter.unusedSimpArgs false
namespace Go.Proofs.Ytiimiogpiflkdaa.L
open Go Go.RowKit Go.Proofs.Ytiimiogpiflkdaa.A Go.Proofs.YtiimiogpiflkdaaW.PrintWords
theorem FnExactPairRound_pure (l0 : List S64) (b0 : l0.length ≤ 9223372036854775807) (b1 : ∀ x ∈ l0, x.f5.length ≤ 9223372036854775807) : ∃ k, laws_FnExactPairRound.f k l0 = some true := by
  refine Ev.rounds (g := fun k => laws_FnExactPairRound.f k l0) ?_
  unfold laws_FnExactPairRound.f
  obtain ⟨v, hv, _, hv2⟩ := szTeamS_ev l0 b0 b1
  refine Ev.bind hv (Ev.ite (fun _ => Ev.now _) (fun hs => ?_))
  obtain ⟨hl, hi⟩ := hv2 hs
  have hi' : ∀ x ∈ l0, x.f5.length ≤ 1099511627776 := fun x hx => by have := hi x hx; omega
  have hS := small_map l0 (by omega) hi'
  have hT := M.tot_small 5 (by omega) (fun x : Tm => x.f5.length) (l0.map cvTm) (by simpa using hl) (by
    intro x hx
    obtain ⟨y, hy, rfl⟩ := List.mem_map.1 hx
    exact hi y hy)
  have hT1 := toTeamS_ev l0 (by omega) hi'
  have hsA := sPairRound_ev (l0.map cvTm) hS
  have hiA := iPairRound_ev (l0.map cvTm) hS
  have hlen := roundT_len (l0.map cvTm)
  generalize roundT (l0.map cvTm) = z at hsA hiA hlen
  obtain ⟨z, ok⟩ := z
  simp only at hlen
  have hE := eqPairS_ev z (by omega)
  have hEl := eqTeamS_ev (l0.map cvTm) hS
  have hH := heldP_ev z.length 1 (by omega) (by omega) (by omega)
  refine Ev.bind hT1 (Ev.bind hsA (Ev.bind hT1 (Ev.bind hiA ?_)))
  refine Ev.bind hE (Ev.pos rfl (Ev.pos rfl (Ev.bind hT1 (Ev.bind hEl (Ev.pos rfl ?_)))))
  refine Ev.pos ⟨⟨by simp; omega, fun x hx => by have := hS.2 x hx; omega⟩, Int.le_trans (Int.ofNat_le.2 hT) (by omega)⟩ ?_
  refine Ev.bind hE (Ev.pos rfl (Ev.pos rfl (Ev.bind (markPX_ev z 1 (by omega) (by omega) (by omega)) ?_)))
  dsimp only
  refine Ev.bind hH (Ev.pos (by omega) (Ev.pos rfl ?_))
  refine Ev.bind hT1 (Ev.bind hiA (Ev.bind hE (Ev.pos rfl (Ev.pos rfl ?_))))
  exact Ev.bind hH (Ev.pos (by omega) (Ev.pos rfl (Ev.now _)))
end Go.Proofs.Ytiimiogpiflkdaa.L
end
