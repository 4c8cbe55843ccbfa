/- What the row FnExactIsRound rests on, put together: A79, A18, A9, A17. No condition. -/
import Derived.Test.YtiimiogpiflkdaaSFnExactIsRoundx0
import Derived.Test.YtiimiogpiflkdaaSFnExactIsRoundx1
import Derived.Test.YtiimiogpiflkdaaSFnExactIsRoundx2
section
namespace Go.Proofs.Ytiimiogpiflkdaa.A
open Go.RowKit Go.Proofs.YtiimiogpiflkdaaW.PrintWords Go.Proofs.YtiimiogpiflkdaaW.PrintLast Go.Proofs.YtiimiogpiflkdaaW.PrintMore
attribute [local go_sem] max2_int min2_int max_two min_two max_three min_three max_four min_four   -- for this text's walks alone
set_option linter.unusedVariables false
set_option linter.unusedSimpArgs false
def spec_IsRound.l0 : Nat → List (S61) → List (S46) → List Int → Int → Option (Bool)
  | 0, _, _, _, _ => none
  | k + 1, x0, x1, x5, x6 => if x6 < (x1.length : Int) then (if 0 ≤ x6 then ((spec_MayMeet.f k x0 ((rd_T46 x1 x6).f0) ((rd_T46 x1 x6).f1)).bind fun t522 => (if t522 = true then ((spec_l4Has.f k x5 ((rd_T46 x1 x6).f0)).bind fun t524 => (if t524 = true then (some false) else ((spec_l4Has.f k x5 ((rd_T46 x1 x6).f1)).bind fun t526 => (if t526 = true then (some false) else ((some (([(rd_T46 x1 x6).f0, (rd_T46 x1 x6).f1] : List Int) : List Int)).bind fun y529 => (if x5.length + y529.length < 17592186044416 then (spec_IsRound.l0 k x0 x1 (x5 ++ y529) (wrap64 (x6 + 1))) else (none))))))) else (some false))) else (none)) else ((spec_AreTeams.f k x0).bind fun t519 => (if t519 = true then (some ((x5.length : Int) == (x0.length : Int))) else (some false)))
def spec_IsRound.f (k : Nat) (l0 : List (S61)) (l1 : List (S46)) : Option (Bool) := spec_IsRound.l0 k l0 l1 (([] : List Int)) 0
def spec_IsRound.T5 : Bool × List (List Nat × List Nat) := (true, [([], []), ([], []), ([], []), ([1, 2], [1, 2]), ([3], [3]), ([4], [4]), ([], []), ([], []), ([6, 7], [6, 7]), ([8], [8]), ([9], [9]), ([0, 5, 10], [0, 5, 10]), ([11], [11]), ([12, 11], [12]), ([13], [13]), ([13], [13]), ([13], [13]), ([15, 16, 13], [13, 15, 16]), ([17, 13], [13, 17]), ([18, 13], [13, 18]), ([14, 19, 13, 13], [13, 14, 19]), ([13, 20], [13, 20]), ([21, 20], [21]), ([22], [22]), ([22], [22]), ([22], [22]), ([24, 25, 22], [22, 24, 25]), ([26, 22], [22, 26]), ([27, 22], [22, 27]), ([23, 28, 22, 22], [22, 23, 28]), ([22, 29], [22, 29])])
def spec_IsRound.B5 : List Nat := [0, 0, 0, 6, 14, 30, 0, 0, 192, 448, 960, 2047, 4095, 8191, 16383, 16383, 16383, 114687, 245759, 507903, 1048575, 2097151, 4194303, 8388607, 8388607, 8388607, 58720255, 125829119, 260046847, 536870911, 1073741823]
theorem spec_IsRound.tab5 : rtab .any (opsOf Try.f45 5) = spec_IsRound.T5 := by kernel_rfl
theorem spec_IsRound.bits5 : waitsOk spec_IsRound.T5.2 spec_IsRound.B5 = true := by kernel_rfl
def spec_IsRound.T7 : Bool × List (List Nat × List Nat) := (true, [([], []), ([], []), ([], []), ([1, 2], [1, 2]), ([3], [3]), ([4], [4]), ([], []), ([], []), ([6, 7], [6, 7]), ([8], [8]), ([9], [9]), ([5, 10], [5, 10]), ([0, 11], [0, 11]), ([12, 12, 0, 1, 2, 3, 4, 5, 6, 7, 8, 9, 10, 11, 12], [0, 12])])
def spec_IsRound.B7 : List Nat := [0, 0, 0, 6, 14, 30, 0, 0, 192, 448, 960, 2046, 4095, 8191]
theorem spec_IsRound.tab7 : rtab .any (opsOf Try.f45 7) = spec_IsRound.T7 := by kernel_rfl
theorem spec_IsRound.bits7 : waitsOk spec_IsRound.T7.2 spec_IsRound.B7 = true := by kernel_rfl
set_option maxHeartbeats 8000000 in
set_option maxRecDepth 100000 in
theorem spec_IsRound.calls (k : Nat) (A0 : Option Addr) (c0 : Nat) (l0 : List (S61)) (A1 : Option Addr) (c1 : Nat) (l1 : List (S46)) (r : Bool) (w : World) (hr0 : Kd.C k61 w A0 l0.length l0) (hc0 : l0.length ≤ c0) (hr1 : Kd.C k46 w A1 l1.length l1) (hc1 : l1.length ≤ c1) (h : spec_IsRound.f k l0 l1 = some r) :
  Calls Try.prog 45 #[.slice A0 l0.length c0, .slice A1 l1.length c1] w fun e w' => e = .returned (.bool r) ∧ Below w.heap.size w w' := by
 have HR0 := Aside0.mk hr0
 have HC0 := Aside0.mk hc0
 clear hr0 hc0
 have HR1 := Aside0.mk hr1
 have HC1 := Aside0.mk hc1
 clear hr1 hc1
 have HB := Aside0.mk (Below.refl w.heap.size w)
 have H : (spec_IsRound.l0 k l0 l1 (([] : List Int)) 0) = some r := h
 clear h
 obtain ⟨y516, hy516⟩ : ∃ y_ : List Int, y_ = (([] : List Int)) := ⟨_, rfl⟩
 replace H : (spec_IsRound.l0 k l0 l1 y516 0) = some r := by first | (rw [hy516]; with_reducible exact H) | (have H2_ := (Option.bind_some _ _).symm.trans H; rw [hy516]; with_reducible exact H2_) | (have H2_ := (Option.bind_some _ _).symm.trans H; with_reducible exact H2_) | with_reducible exact H | (rw [hy516]; exact H) | exact H
 have Ny516 := Aside0.mk hy516
 clear hy516
 have H' := Aside0.mk H
 clear H
 go_enter Try.func45, Try.ntmps45
 go_wp2_with (first | ((with_reducible refine gate_dst (N := 7) rfl ?_); (try (refine gate_guard (by rfl) ?_; dsimp only)); refine Kd.R_lit (Kd.int .i64) _ 3 ?hg (N := 7) ?hd (xs := ([] : List Int)) (inner := []) (ok := fun _ => True) (okp := fun _ => True) ?hr ?hp (fun _ hk => hk) trivial (Below.refl _ _) (Nat.le_refl _) (by simp) ?_; (case hd => rfl); (case hg => rfl); (case hr => first | (go_simp; done) | (go_simp; rfl)); (case hp => exact (Reps.none _ _)); intro v517 w3 ho4 hb hg_ hnew_; clear hg_ hnew_; (first | rw [← Ny516.out] at ho4 | (simp only [Int.reduceToNat] at ho4; rw [← Ny516.out] at ho4)); have n0_ := Aside0.mk (Kd.R_lower ho4 (below_size (by repeat (first | (with_reducible first | exact HB.out | apply below_alloc | apply pw_below_drewN | apply below_drew1) | exact HB.out)))); have n1_ := Aside0.mk (below_step (by repeat (first | (with_reducible first | exact HB.out | apply below_alloc | apply pw_below_drewN | apply below_drew1) | exact HB.out)) hb); clear HB; have HO518 := n0_; have HB := n1_; clear n0_ n1_; clear hb ho4))
 go_loopg [5, 6] k (fun kq v5 v6 w' => ∃ (x5_1 : List Int) (x6_1 : Int), v6 = .int .i64 x6_1 ∧ Aside0 (spec_IsRound.l0 kq l0 l1 x5_1 x6_1 = some r) ∧ Aside0 (kq ≤ k) ∧ Aside0 (Kd.R (Kd.int .i64) 3 w' w.heap.size (fun _ => True) v5 x5_1) ∧ Aside0 (Below w.heap.size w w'))
 case atStart => exact ⟨(y516), (0), (by first | rfl | (simp; done) | (simp [*]; done)), H', ⟨Nat.le_refl _⟩, ⟨by (with_reducible repeat (first | apply Kd.R_alloc | apply Kd.R_drewN | apply Kd.R_drew)); exact HO518.out⟩, ⟨by repeat (first | (with_reducible first | exact HB.out | apply below_alloc | apply pw_below_drewN | apply below_drew1) | exact HB.out)⟩⟩
 case round =>
  clear H'
  try clear c1
  try clear p2
  try clear c4
  obtain ⟨x5_1, x6_1, rfl, HA, HK1, HO_5, HB⟩ := hrel
  cases gk with
  | zero => exact absurd HA.out (by simp [spec_IsRound.l0])
  | succ k1 =>
   have H := HA.out
   clear HA
   simp only [spec_IsRound.l0] at H
   by_cases c5 : x6_1 < (l1.length : Int)
   rotate_left
   ·
    rw [if_neg c5] at H
    have c5b0 : decide (x6_1 < (l1.length : Int)) = false := decide_eq_false c5
    clear c5
    replace H := Option.bind_eq_some_iff.mp H
    obtain ⟨t519, A300, H⟩ := H
    replace H : (if t519 = true then (some ((x5_1.length : Int) == (l0.length : Int))) else (some false)) = some r := H
    have A30 := Aside0.mk A300
    clear A300
    by_cases c31 : t519 = true
    rotate_left
    ·
     replace c31 := Bool.eq_false_iff.mpr c31
     subst c31
     have H1 : (some false) = some r := by rw [if_neg (show ¬ (false = true) by decide)] at H; exact H
     clear H
     have H := H1
     clear H1
     obtain rfl := Option.some.inj H
     go_wp2_with (first | ((with_reducible refine gate_callee (f := 20) rfl ?_); refine goesL_ (some 59) rfl rfl Try.func20 (by kernel_rfl) rfl #[.slice A0 l0.length c0] rfl (by (try simp only [List.map_toArray, List.map_cons, List.map_nil]); first | done | rfl | (simp only [List.length_drop, List.length_take]; rfl)) ?_; (with_reducible refine (spec_AreTeams.calls k1 _ _ l0 false _ ?side1 ?side2 A30.out).mono ?_); (case side1 => repeat (first | exact (Kd.C_below HR0.out HB.out) | (with_reducible refine Kd.C_alloc ?_ _) | (with_reducible refine Kd.C_drewN ?_ _) | (with_reducible refine Kd.C_drew ?_))); (case side2 => exact HC0.out); rintro e w34 ⟨rfl, hb⟩; refine ⟨_, rfl, ?_⟩; have n0_ := Aside0.mk (Kd.R_below (by (with_reducible repeat (first | apply Kd.R_alloc | apply Kd.R_drewN | apply Kd.R_drew)); exact HO_5.out) hb); have n1_ := Aside0.mk (below_step (by repeat (first | (with_reducible first | exact HB.out | apply below_alloc | apply pw_below_drewN | apply below_drew1) | exact HB.out)) hb); clear HO_5; clear HB; have HO_5 := n0_; have HB := n1_; clear n0_ n1_; (try clear hb); (try clear hb2); (try clear hk); (try clear hi)))
     go_ret
     exact ⟨by first | rfl | (simp [errW_none, errW_some] <;> rfl) | (simp [*, errW_none, errW_some] <;> rfl), by repeat (first | (with_reducible first | exact HB.out | apply below_alloc | apply pw_below_drewN | apply below_drew1) | exact HB.out)⟩

    subst c31
    have H1 : (some ((x5_1.length : Int) == (l0.length : Int))) = some r := by rw [if_pos rfl] at H; exact H
    clear H
    have H := H1
    clear H1
    obtain rfl := Option.some.inj H
    go_wp2_with (first | ((with_reducible refine gate_callee (f := 20) rfl ?_); refine goesL_ (some 59) rfl rfl Try.func20 (by kernel_rfl) rfl #[.slice A0 l0.length c0] rfl (by (try simp only [List.map_toArray, List.map_cons, List.map_nil]); first | done | rfl | (simp only [List.length_drop, List.length_take]; rfl)) ?_; (with_reducible refine (spec_AreTeams.calls k1 _ _ l0 true _ ?side1 ?side2 A30.out).mono ?_); (case side1 => repeat (first | exact (Kd.C_below HR0.out HB.out) | (with_reducible refine Kd.C_alloc ?_ _) | (with_reducible refine Kd.C_drewN ?_ _) | (with_reducible refine Kd.C_drew ?_))); (case side2 => exact HC0.out); rintro e w32 ⟨rfl, hb⟩; refine ⟨_, rfl, ?_⟩; have n0_ := Aside0.mk (Kd.R_below (by (with_reducible repeat (first | apply Kd.R_alloc | apply Kd.R_drewN | apply Kd.R_drew)); exact HO_5.out) hb); have n1_ := Aside0.mk (below_step (by repeat (first | (with_reducible first | exact HB.out | apply below_alloc | apply pw_below_drewN | apply below_drew1) | exact HB.out)) hb); clear HO_5; clear HB; have HO_5 := n0_; have HB := n1_; clear n0_ n1_; (try clear hb); (try clear hb2); (try clear hk); (try clear hi); obtain ⟨Ao33, co33, eo33⟩ := Kd.R_slice HO_5.out; subst eo33))
    go_ret
    exact ⟨by first | rfl | (simp [errW_none, errW_some] <;> rfl) | (simp [*, errW_none, errW_some] <;> rfl), by repeat (first | (with_reducible first | exact HB.out | apply below_alloc | apply pw_below_drewN | apply below_drew1) | exact HB.out)⟩
   rw [if_pos c5] at H
   have c5b0 : decide (x6_1 < (l1.length : Int)) = true := decide_eq_true c5
   clear c5
   by_cases c6 : 0 ≤ x6_1
   rotate_left
   ·
    rw [if_neg c6] at H
    exact absurd H (by simp)
   rw [if_pos c6] at H
   have c6b0 : decide (0 ≤ x6_1) = true := decide_eq_true c6
   clear c6
   replace H := Option.bind_eq_some_iff.mp H
   obtain ⟨t522, A70, H⟩ := H
   replace H : (if t522 = true then ((spec_l4Has.f k1 x5_1 ((rd_T46 l1 x6_1).f0)).bind fun t524 => (if t524 = true then (some false) else ((spec_l4Has.f k1 x5_1 ((rd_T46 l1 x6_1).f1)).bind fun t526 => (if t526 = true then (some false) else ((some (([(rd_T46 l1 x6_1).f0, (rd_T46 l1 x6_1).f1] : List Int) : List Int)).bind fun y529 => (if x5_1.length + y529.length < 17592186044416 then (spec_IsRound.l0 k1 l0 l1 (x5_1 ++ y529) (wrap64 (x6_1 + 1))) else (none))))))) else (some false)) = some r := H
   have A7 := Aside0.mk A70
   clear A70
   by_cases c8 : t522 = true
   rotate_left
   ·
    replace c8 := Bool.eq_false_iff.mpr c8
    subst c8
    have H1 : (some false) = some r := by rw [if_neg (show ¬ (false = true) by decide)] at H; exact H
    clear H
    have H := H1
    clear H1
    obtain rfl := Option.some.inj H
    try go_wp2
    have n0_ := Aside0.mk (Kd.R_drew HO_5.out)
    have n1_ := Aside0.mk (below_drew1 HB.out)
    clear HO_5
    clear HB
    have HO_5 := n0_
    have HB := n1_
    clear n0_ n1_
    have p520 : 0 ≤ (x6_1 : Int) := of_decide_eq_true (by first | (with_reducible assumption) | assumption)
    have q520 : x6_1 < (l1.length : Int) := of_decide_eq_true (by first | (with_reducible assumption) | assumption)
    obtain ⟨ad520, e520, hx520_0, hx520_1⟩ := at_T46 HR1.out x6_1 p520 q520
    have hw520_1 := hx520_1
    have hw520_0 := hx520_0
    cases e520
    replace hx520_0 := (HB.out.cell (World.block_lt_of_cell? w _ hx520_0)).trans hx520_0
    replace hx520_1 := (HB.out.cell (World.block_lt_of_cell? w _ hx520_1)).trans hx520_1
    replace p520 := eq_true p520
    replace q520 := eq_true q520
    have p521 : 0 ≤ (x6_1 : Int) := of_decide_eq_true (by first | (with_reducible assumption) | assumption)
    have q521 : x6_1 < (l1.length : Int) := of_decide_eq_true (by first | (with_reducible assumption) | assumption)
    obtain ⟨ad521, e521, hx521_0, hx521_1⟩ := at_T46 HR1.out x6_1 p521 q521
    have hw521_1 := hx521_1
    have hw521_0 := hx521_0
    obtain rfl : ad520 = ad521 := (by injection e521)
    replace hx521_0 := (HB.out.cell (World.block_lt_of_cell? w _ hx521_0)).trans hx521_0
    replace hx521_1 := (HB.out.cell (World.block_lt_of_cell? w _ hx521_1)).trans hx521_1
    replace p521 := eq_true p521
    replace q521 := eq_true q521
    refine start_ (n := 31) (S := fun w' => w'.cell? (ad520.add ((x6_1).toNat * 2)) = some (.int .i64 ((rd_T46 l1 x6_1).f0)) ∧ w'.cell? ⟨(ad520.add ((x6_1).toNat * 2)).block, (ad520.add ((x6_1).toNat * 2)).off + 1, none⟩ = some (.int .i64 ((rd_T46 l1 x6_1).f1)) ∧ w'.cell? (ad520.add ((x6_1).toNat * 2)) = some (.int .i64 ((rd_T46 l1 x6_1).f0)) ∧ w'.cell? ⟨(ad520.add ((x6_1).toNat * 2)).block, (ad520.add ((x6_1).toNat * 2)).off + 1, none⟩ = some (.int .i64 ((rd_T46 l1 x6_1).f1))) (ds := []) (bv 31 0) (by kernel_rfl) rfl rfl ⟨((HB.out.cell (World.block_lt_of_cell? w _ hw520_0)).trans hw520_0), ((HB.out.cell (World.block_lt_of_cell? w _ hw520_1)).trans hw520_1), ((HB.out.cell (World.block_lt_of_cell? w _ hw521_0)).trans hw521_0), ((HB.out.cell (World.block_lt_of_cell? w _ hw521_1)).trans hw521_1)⟩ (fun hHeld => ?_); refine with_tabW spec_IsRound.tab5 spec_IsRound.bits5 (fun HT_ HW_ => ?_)
    generalize wr.drew = w28 at HO_5 HB hx520_0 hx520_1 hx521_0 hx521_1 hHeld ⊢
    refine pv_ 31 0 14 1 rfl rfl HT_ ?_; refine pv_ 31 1 15 3 rfl rfl HT_ ?_; refine pv_ 31 2 16 7 rfl rfl HT_ ?_; refine pv_ 31 3 17 15 rfl rfl HT_ ?_; refine pv_ 31 4 18 31 rfl rfl HT_ ?_; refine pv_ 31 6 20 95 rfl rfl HT_ ?_; refine pv_ 31 7 21 223 rfl rfl HT_ ?_; refine pv_ 31 8 22 479 rfl rfl HT_ ?_; refine pv_ 31 9 23 991 rfl rfl HT_ ?_
    refine tv_ 31 5 19 1023 rfl rfl HT_ HW_ hHeld (by rintro w' ⟨s0, s1, s2, s3⟩; go_simp; with_reducible rfl) ?_
    refine tv_ 31 10 24 2047 rfl rfl HT_ HW_ hHeld (by rintro w' ⟨s0, s1, s2, s3⟩; go_simp; with_reducible rfl) ?_
    refine one_ (i := 11) (N := some 25) (bv 31 4095) rfl rfl (one_of HT_.out (by kernel_rfl)) (by decide) (fun K hK => ?_)
    refine goes_ Try.func26 (by kernel_rfl) rfl #[.slice A0 l0.length c0, .int .i64 ((rd_T46 l1 x6_1).f0), .int .i64 ((rd_T46 l1 x6_1).f1)] (by rfl) rfl rfl (by (try simp only [List.map_toArray, List.map_cons, List.map_nil]); first | done | rfl | (simp only [List.length_drop, List.length_take]; rfl)) ?_
    with_reducible refine (spec_MayMeet.calls k1 _ _ l0 ((rd_T46 l1 x6_1).f0) ((rd_T46 l1 x6_1).f1) false _ ?side1 ?side2 A7.out).mono ?_
    (case side1 => repeat (first | exact (Kd.C_below HR0.out HB.out) | (with_reducible refine Kd.C_alloc ?_ _) | (with_reducible refine Kd.C_drewN ?_ _) | (with_reducible refine Kd.C_drew ?_)))
    (case side2 => exact HC0.out)
    rintro e w29 ⟨rfl, hb⟩
    refine ⟨_, rfl, ?_⟩
    have n0_ := Aside0.mk (Kd.R_below (by (with_reducible repeat (first | apply Kd.R_alloc | apply Kd.R_drewN | apply Kd.R_drew)); exact HO_5.out) hb)
    have n1_ := Aside0.mk (below_step (by repeat (first | (with_reducible first | exact HB.out | apply below_alloc | apply pw_below_drewN | apply below_drew1) | exact HB.out)) hb)
    clear HO_5
    clear HB
    have HO_5 := n0_
    have HB := n1_
    clear n0_ n1_
    (try clear hb)
    (try clear hb2)
    (try clear hk)
    (try clear hi)
    refine hK.out _ _ ⟨((HB.out.cell (World.block_lt_of_cell? w _ hw520_0)).trans hw520_0), ((HB.out.cell (World.block_lt_of_cell? w _ hw520_1)).trans hw520_1), ((HB.out.cell (World.block_lt_of_cell? w _ hw521_0)).trans hw521_0), ((HB.out.cell (World.block_lt_of_cell? w _ hw521_1)).trans hw521_1)⟩ (fun hHeld => ?_)
    clear hK K
    refine nm_ 25 ?_
    refine pv_ 31 12 26 8191 rfl rfl HT_ ?_; refine pv_ 31 13 27 16383 rfl rfl HT_ ?_; refine pu_ 31 14 28 32767 rfl rfl HT_ ?_; refine pu_ 31 15 29 65535 rfl rfl HT_ ?_; refine pu_ 31 16 30 131071 rfl rfl HT_ ?_; refine pu_ 31 17 31 262143 rfl rfl HT_ ?_; refine pu_ 31 18 32 524287 rfl rfl HT_ ?_; refine pu_ 31 19 33 1048575 rfl rfl HT_ ?_; refine pu_ 31 20 34 2097151 rfl rfl HT_ ?_; refine pv_ 31 21 35 4194303 rfl rfl HT_ ?_; refine pv_ 31 22 36 8388607 rfl rfl HT_ ?_; refine pu_ 31 23 37 16777215 rfl rfl HT_ ?_; refine pu_ 31 24 38 33554431 rfl rfl HT_ ?_; refine pu_ 31 25 39 67108863 rfl rfl HT_ ?_; refine pu_ 31 26 40 134217727 rfl rfl HT_ ?_; refine pu_ 31 27 41 268435455 rfl rfl HT_ ?_; refine pu_ 31 28 42 536870911 rfl rfl HT_ ?_; refine pu_ 31 29 43 1073741823 rfl rfl HT_ ?_; refine pv_ 31 30 44 2147483647 rfl rfl HT_ ?_
    refine done_ (done_of HT_.out (by kernel_rfl)) ?_
    try go_wp2
    go_ret
    exact ⟨by first | rfl | (simp [errW_none, errW_some] <;> rfl) | (simp [*, errW_none, errW_some] <;> rfl), by repeat (first | (with_reducible first | exact HB.out | apply below_alloc | apply pw_below_drewN | apply below_drew1) | exact HB.out)⟩
   subst c8
   have H1 : ((spec_l4Has.f k1 x5_1 ((rd_T46 l1 x6_1).f0)).bind fun t524 => (if t524 = true then (some false) else ((spec_l4Has.f k1 x5_1 ((rd_T46 l1 x6_1).f1)).bind fun t526 => (if t526 = true then (some false) else ((some (([(rd_T46 l1 x6_1).f0, (rd_T46 l1 x6_1).f1] : List Int) : List Int)).bind fun y529 => (if x5_1.length + y529.length < 17592186044416 then (spec_IsRound.l0 k1 l0 l1 (x5_1 ++ y529) (wrap64 (x6_1 + 1))) else (none))))))) = some r := by rw [if_pos rfl] at H; exact H
   clear H
   have H := H1
   clear H1
   replace H := Option.bind_eq_some_iff.mp H
   obtain ⟨t524, A90, H⟩ := H
   replace H : (if t524 = true then (some false) else ((spec_l4Has.f k1 x5_1 ((rd_T46 l1 x6_1).f1)).bind fun t526 => (if t526 = true then (some false) else ((some (([(rd_T46 l1 x6_1).f0, (rd_T46 l1 x6_1).f1] : List Int) : List Int)).bind fun y529 => (if x5_1.length + y529.length < 17592186044416 then (spec_IsRound.l0 k1 l0 l1 (x5_1 ++ y529) (wrap64 (x6_1 + 1))) else (none)))))) = some r := H
   have A9 := Aside0.mk A90
   clear A90
   by_cases c10 : t524 = true
   rotate_left
   ·
    replace c10 := Bool.eq_false_iff.mpr c10
    subst c10
    have H1 : ((spec_l4Has.f k1 x5_1 ((rd_T46 l1 x6_1).f1)).bind fun t526 => (if t526 = true then (some false) else ((some (([(rd_T46 l1 x6_1).f0, (rd_T46 l1 x6_1).f1] : List Int) : List Int)).bind fun y529 => (if x5_1.length + y529.length < 17592186044416 then (spec_IsRound.l0 k1 l0 l1 (x5_1 ++ y529) (wrap64 (x6_1 + 1))) else (none))))) = some r := by rw [if_neg (show ¬ (false = true) by decide)] at H; exact H
    clear H
    have H := H1
    clear H1
    replace H := Option.bind_eq_some_iff.mp H
    obtain ⟨t526, A140, H⟩ := H
    replace H : (if t526 = true then (some false) else ((some (([(rd_T46 l1 x6_1).f0, (rd_T46 l1 x6_1).f1] : List Int) : List Int)).bind fun y529 => (if x5_1.length + y529.length < 17592186044416 then (spec_IsRound.l0 k1 l0 l1 (x5_1 ++ y529) (wrap64 (x6_1 + 1))) else (none)))) = some r := H
    have A14 := Aside0.mk A140
    clear A140
    by_cases c15 : t526 = true
    rotate_left
    ·
     replace c15 := Bool.eq_false_iff.mpr c15
     subst c15
     have H1 : ((some (([(rd_T46 l1 x6_1).f0, (rd_T46 l1 x6_1).f1] : List Int) : List Int)).bind fun y529 => (if x5_1.length + y529.length < 17592186044416 then (spec_IsRound.l0 k1 l0 l1 (x5_1 ++ y529) (wrap64 (x6_1 + 1))) else (none))) = some r := by rw [if_neg (show ¬ (false = true) by decide)] at H; exact H
     clear H
     have H := H1
     clear H1
     obtain ⟨y529, hy529⟩ : ∃ y_ : List Int, y_ = (([(rd_T46 l1 x6_1).f0, (rd_T46 l1 x6_1).f1] : List Int)) := ⟨_, rfl⟩
     replace H : (if x5_1.length + y529.length < 17592186044416 then (spec_IsRound.l0 k1 l0 l1 (x5_1 ++ y529) (wrap64 (x6_1 + 1))) else (none)) = some r := by first | (rw [hy529]; with_reducible exact H) | (have H2_ := (Option.bind_some _ _).symm.trans H; rw [hy529]; with_reducible exact H2_) | (have H2_ := (Option.bind_some _ _).symm.trans H; with_reducible exact H2_) | with_reducible exact H | (rw [hy529]; exact H) | exact H
     have Ny529 := Aside0.mk hy529
     clear hy529
     by_cases c19 : x5_1.length + y529.length < 17592186044416
     rotate_left
     ·
      rw [if_neg c19] at H
      exact absurd H (by simp)
     rw [if_pos c19] at H
     have LMc19 := Aside0.mk c19
     clear c19
     obtain ⟨y532, hy532⟩ : ∃ y_ : List Int, y_ = (x5_1 ++ y529) := ⟨_, rfl⟩
     replace H : (spec_IsRound.l0 k1 l0 l1 y532 (wrap64 (x6_1 + 1))) = some r := by first | (rw [hy532]; with_reducible exact H) | (have H2_ := (Option.bind_some _ _).symm.trans H; rw [hy532]; with_reducible exact H2_) | (have H2_ := (Option.bind_some _ _).symm.trans H; with_reducible exact H2_) | with_reducible exact H | (rw [hy532]; exact H) | exact H
     have Ny532 := Aside0.mk hy532
     clear hy532
     have H' := Aside0.mk H
     clear H
     try go_wp2
     have n0_ := Aside0.mk (Kd.R_drew HO_5.out)
     have n1_ := Aside0.mk (below_drew1 HB.out)
     clear HO_5
     clear HB
     have HO_5 := n0_
     have HB := n1_
     clear n0_ n1_
     have p520 : 0 ≤ (x6_1 : Int) := of_decide_eq_true (by first | (with_reducible assumption) | assumption)
     have q520 : x6_1 < (l1.length : Int) := of_decide_eq_true (by first | (with_reducible assumption) | assumption)
     obtain ⟨ad520, e520, hx520_0, hx520_1⟩ := at_T46 HR1.out x6_1 p520 q520
     have hw520_1 := hx520_1
     have hw520_0 := hx520_0
     cases e520
     replace hx520_0 := (HB.out.cell (World.block_lt_of_cell? w _ hx520_0)).trans hx520_0
     replace hx520_1 := (HB.out.cell (World.block_lt_of_cell? w _ hx520_1)).trans hx520_1
     replace p520 := eq_true p520
     replace q520 := eq_true q520
     have p521 : 0 ≤ (x6_1 : Int) := of_decide_eq_true (by first | (with_reducible assumption) | assumption)
     have q521 : x6_1 < (l1.length : Int) := of_decide_eq_true (by first | (with_reducible assumption) | assumption)
     obtain ⟨ad521, e521, hx521_0, hx521_1⟩ := at_T46 HR1.out x6_1 p521 q521
     have hw521_1 := hx521_1
     have hw521_0 := hx521_0
     obtain rfl : ad520 = ad521 := (by injection e521)
     replace hx521_0 := (HB.out.cell (World.block_lt_of_cell? w _ hx521_0)).trans hx521_0
     replace hx521_1 := (HB.out.cell (World.block_lt_of_cell? w _ hx521_1)).trans hx521_1
     replace p521 := eq_true p521
     replace q521 := eq_true q521
     have p523 : 0 ≤ (x6_1 : Int) := of_decide_eq_true (by first | (with_reducible assumption) | assumption)
     have q523 : x6_1 < (l1.length : Int) := of_decide_eq_true (by first | (with_reducible assumption) | assumption)
     obtain ⟨ad523, e523, hx523_0, hx523_1⟩ := at_T46 HR1.out x6_1 p523 q523
     have hw523_1 := hx523_1
     have hw523_0 := hx523_0
     obtain rfl : ad520 = ad523 := (by injection e523)
     replace hx523_0 := (HB.out.cell (World.block_lt_of_cell? w _ hx523_0)).trans hx523_0
     replace hx523_1 := (HB.out.cell (World.block_lt_of_cell? w _ hx523_1)).trans hx523_1
     replace p523 := eq_true p523
     replace q523 := eq_true q523
     have p525 : 0 ≤ (x6_1 : Int) := of_decide_eq_true (by first | (with_reducible assumption) | assumption)
     have q525 : x6_1 < (l1.length : Int) := of_decide_eq_true (by first | (with_reducible assumption) | assumption)
     obtain ⟨ad525, e525, hx525_0, hx525_1⟩ := at_T46 HR1.out x6_1 p525 q525
     have hw525_1 := hx525_1
     have hw525_0 := hx525_0
     obtain rfl : ad520 = ad525 := (by injection e525)
     replace hx525_0 := (HB.out.cell (World.block_lt_of_cell? w _ hx525_0)).trans hx525_0
     replace hx525_1 := (HB.out.cell (World.block_lt_of_cell? w _ hx525_1)).trans hx525_1
     replace p525 := eq_true p525
     replace q525 := eq_true q525
     refine start_ (n := 31) (S := fun w' => w'.cell? (ad520.add ((x6_1).toNat * 2)) = some (.int .i64 ((rd_T46 l1 x6_1).f0)) ∧ w'.cell? ⟨(ad520.add ((x6_1).toNat * 2)).block, (ad520.add ((x6_1).toNat * 2)).off + 1, none⟩ = some (.int .i64 ((rd_T46 l1 x6_1).f1)) ∧ w'.cell? (ad520.add ((x6_1).toNat * 2)) = some (.int .i64 ((rd_T46 l1 x6_1).f0)) ∧ w'.cell? ⟨(ad520.add ((x6_1).toNat * 2)).block, (ad520.add ((x6_1).toNat * 2)).off + 1, none⟩ = some (.int .i64 ((rd_T46 l1 x6_1).f1)) ∧ w'.cell? (ad520.add ((x6_1).toNat * 2)) = some (.int .i64 ((rd_T46 l1 x6_1).f0)) ∧ w'.cell? ⟨(ad520.add ((x6_1).toNat * 2)).block, (ad520.add ((x6_1).toNat * 2)).off + 1, none⟩ = some (.int .i64 ((rd_T46 l1 x6_1).f1)) ∧ w'.cell? (ad520.add ((x6_1).toNat * 2)) = some (.int .i64 ((rd_T46 l1 x6_1).f0)) ∧ w'.cell? ⟨(ad520.add ((x6_1).toNat * 2)).block, (ad520.add ((x6_1).toNat * 2)).off + 1, none⟩ = some (.int .i64 ((rd_T46 l1 x6_1).f1))) (ds := []) (bv 31 0) (by kernel_rfl) rfl rfl ⟨((HB.out.cell (World.block_lt_of_cell? w _ hw520_0)).trans hw520_0), ((HB.out.cell (World.block_lt_of_cell? w _ hw520_1)).trans hw520_1), ((HB.out.cell (World.block_lt_of_cell? w _ hw521_0)).trans hw521_0), ((HB.out.cell (World.block_lt_of_cell? w _ hw521_1)).trans hw521_1), ((HB.out.cell (World.block_lt_of_cell? w _ hw523_0)).trans hw523_0), ((HB.out.cell (World.block_lt_of_cell? w _ hw523_1)).trans hw523_1), ((HB.out.cell (World.block_lt_of_cell? w _ hw525_0)).trans hw525_0), ((HB.out.cell (World.block_lt_of_cell? w _ hw525_1)).trans hw525_1)⟩ (fun hHeld => ?_); refine with_tabW spec_IsRound.tab5 spec_IsRound.bits5 (fun HT_ HW_ => ?_)
     generalize wr.drew = w20 at HO_5 HB hx520_0 hx520_1 hx521_0 hx521_1 hx523_0 hx523_1 hx525_0 hx525_1 hHeld ⊢
     refine pv_ 31 0 14 1 rfl rfl HT_ ?_; refine pv_ 31 1 15 3 rfl rfl HT_ ?_; refine pv_ 31 2 16 7 rfl rfl HT_ ?_; refine pv_ 31 3 17 15 rfl rfl HT_ ?_; refine pv_ 31 4 18 31 rfl rfl HT_ ?_; refine pv_ 31 6 20 95 rfl rfl HT_ ?_; refine pv_ 31 7 21 223 rfl rfl HT_ ?_; refine pv_ 31 8 22 479 rfl rfl HT_ ?_; refine pv_ 31 9 23 991 rfl rfl HT_ ?_
     refine tv_ 31 5 19 1023 rfl rfl HT_ HW_ hHeld (by rintro w' ⟨s0, s1, s2, s3, s4, s5, s6, s7⟩; go_simp; with_reducible rfl) ?_
     refine tv_ 31 10 24 2047 rfl rfl HT_ HW_ hHeld (by rintro w' ⟨s0, s1, s2, s3, s4, s5, s6, s7⟩; go_simp; with_reducible rfl) ?_
     refine one_ (i := 11) (N := some 25) (bv 31 4095) rfl rfl (one_of HT_.out (by kernel_rfl)) (by decide) (fun K hK => ?_)
     refine goes_ Try.func26 (by kernel_rfl) rfl #[.slice A0 l0.length c0, .int .i64 ((rd_T46 l1 x6_1).f0), .int .i64 ((rd_T46 l1 x6_1).f1)] (by rfl) rfl rfl (by (try simp only [List.map_toArray, List.map_cons, List.map_nil]); first | done | rfl | (simp only [List.length_drop, List.length_take]; rfl)) ?_
     with_reducible refine (spec_MayMeet.calls k1 _ _ l0 ((rd_T46 l1 x6_1).f0) ((rd_T46 l1 x6_1).f1) true _ ?side1 ?side2 A7.out).mono ?_
     (case side1 => repeat (first | exact (Kd.C_below HR0.out HB.out) | (with_reducible refine Kd.C_alloc ?_ _) | (with_reducible refine Kd.C_drewN ?_ _) | (with_reducible refine Kd.C_drew ?_)))
     (case side2 => exact HC0.out)
     rintro e w21 ⟨rfl, hb⟩
     refine ⟨_, rfl, ?_⟩
     have n0_ := Aside0.mk (Kd.R_below (by (with_reducible repeat (first | apply Kd.R_alloc | apply Kd.R_drewN | apply Kd.R_drew)); exact HO_5.out) hb)
     have n1_ := Aside0.mk (below_step (by repeat (first | (with_reducible first | exact HB.out | apply below_alloc | apply pw_below_drewN | apply below_drew1) | exact HB.out)) hb)
     clear HO_5
     clear HB
     have HO_5 := n0_
     have HB := n1_
     clear n0_ n1_
     (try clear hb)
     (try clear hb2)
     (try clear hk)
     (try clear hi)
     obtain ⟨Ao22, co22, eo22⟩ := Kd.R_slice HO_5.out
     (first | subst eo22 | (injection eo22 with f1_ f2_ f3_; have f4_ := f1_.symm; have f5_ := f3_.symm; clear f1_ f2_ f3_; subst f4_; subst f5_))
     refine hK.out _ _ ⟨((HB.out.cell (World.block_lt_of_cell? w _ hw520_0)).trans hw520_0), ((HB.out.cell (World.block_lt_of_cell? w _ hw520_1)).trans hw520_1), ((HB.out.cell (World.block_lt_of_cell? w _ hw521_0)).trans hw521_0), ((HB.out.cell (World.block_lt_of_cell? w _ hw521_1)).trans hw521_1), ((HB.out.cell (World.block_lt_of_cell? w _ hw523_0)).trans hw523_0), ((HB.out.cell (World.block_lt_of_cell? w _ hw523_1)).trans hw523_1), ((HB.out.cell (World.block_lt_of_cell? w _ hw525_0)).trans hw525_0), ((HB.out.cell (World.block_lt_of_cell? w _ hw525_1)).trans hw525_1)⟩ (fun hHeld => ?_)
     clear hK K
     refine nm_ 25 ?_
     refine pv_ 31 12 26 8191 rfl rfl HT_ ?_; refine pv_ 31 13 27 16383 rfl rfl HT_ ?_; refine pv_ 31 14 28 32767 rfl rfl HT_ ?_; refine pv_ 31 15 29 65535 rfl rfl HT_ ?_; refine pv_ 31 16 30 131071 rfl rfl HT_ ?_; refine pv_ 31 17 31 262143 rfl rfl HT_ ?_; refine pv_ 31 18 32 524287 rfl rfl HT_ ?_
     refine tv_ 31 19 33 1048575 rfl rfl HT_ HW_ hHeld (by rintro w' ⟨s0, s1, s2, s3, s4, s5, s6, s7⟩; go_simp; with_reducible rfl) ?_
     refine one_ (i := 20) (N := some 34) (bv 31 2097151) rfl rfl (one_of HT_.out (by kernel_rfl)) (by decide) (fun K hK => ?_)
     refine goes_ Try.func63 (by kernel_rfl) rfl #[.slice Ao22 x5_1.length co22, .int .i64 ((rd_T46 l1 x6_1).f0)] (by rfl) rfl rfl (by (try simp only [List.map_toArray, List.map_cons, List.map_nil]); first | done | rfl | (simp only [List.length_drop, List.length_take]; rfl)) ?_
     with_reducible refine (spec_l4Has.calls k1 _ _ x5_1 ((rd_T46 l1 x6_1).f0) false _ ?side1 ?side2 A9.out).mono ?_
     (case side1 => repeat (first | exact (Kd.R_reads' HO_5.out).2.2 | (with_reducible refine Kd.C_alloc ?_ _) | (with_reducible refine Kd.C_drewN ?_ _) | (with_reducible refine Kd.C_drew ?_)))
     (case side2 => exact (Kd.R_reads' HO_5.out).2.1)
     rintro e w' ⟨rfl, ⟨nd, rfl⟩⟩
     refine ⟨_, rfl, ?_⟩
     refine hK.out _ _ ⟨((HB.out.cell (World.block_lt_of_cell? w _ hw520_0)).trans hw520_0), ((HB.out.cell (World.block_lt_of_cell? w _ hw520_1)).trans hw520_1), ((HB.out.cell (World.block_lt_of_cell? w _ hw521_0)).trans hw521_0), ((HB.out.cell (World.block_lt_of_cell? w _ hw521_1)).trans hw521_1), ((HB.out.cell (World.block_lt_of_cell? w _ hw523_0)).trans hw523_0), ((HB.out.cell (World.block_lt_of_cell? w _ hw523_1)).trans hw523_1), ((HB.out.cell (World.block_lt_of_cell? w _ hw525_0)).trans hw525_0), ((HB.out.cell (World.block_lt_of_cell? w _ hw525_1)).trans hw525_1)⟩ (fun hHeld => ?_)
     clear hK K
     refine nm_ 34 ?_
     refine pv_ 31 21 35 4194303 rfl rfl HT_ ?_; refine pv_ 31 22 36 8388607 rfl rfl HT_ ?_; refine pv_ 31 23 37 16777215 rfl rfl HT_ ?_; refine pv_ 31 24 38 33554431 rfl rfl HT_ ?_; refine pv_ 31 25 39 67108863 rfl rfl HT_ ?_; refine pv_ 31 26 40 134217727 rfl rfl HT_ ?_; refine pv_ 31 27 41 268435455 rfl rfl HT_ ?_
     refine tv_ 31 28 42 536870911 rfl rfl HT_ HW_ hHeld (by rintro w' ⟨s0, s1, s2, s3, s4, s5, s6, s7⟩; go_simp; with_reducible rfl) ?_
     refine one_ (i := 29) (N := some 43) (bv 31 1073741823) rfl rfl (one_of HT_.out (by kernel_rfl)) (by decide) (fun K hK => ?_)
     refine goes_ Try.func63 (by kernel_rfl) rfl #[.slice Ao22 x5_1.length co22, .int .i64 ((rd_T46 l1 x6_1).f1)] (by rfl) rfl rfl (by (try simp only [List.map_toArray, List.map_cons, List.map_nil]); first | done | rfl | (simp only [List.length_drop, List.length_take]; rfl)) ?_
     with_reducible refine (spec_l4Has.calls k1 _ _ x5_1 ((rd_T46 l1 x6_1).f1) false _ ?side1 ?side2 A14.out).mono ?_
     (case side1 => repeat (first | exact (Kd.R_reads' HO_5.out).2.2 | (with_reducible refine Kd.C_alloc ?_ _) | (with_reducible refine Kd.C_drewN ?_ _) | (with_reducible refine Kd.C_drew ?_)))
     (case side2 => exact (Kd.R_reads' HO_5.out).2.1)
     rintro e w' ⟨rfl, ⟨nd, rfl⟩⟩
     refine ⟨_, rfl, ?_⟩
     refine hK.out _ _ ⟨((HB.out.cell (World.block_lt_of_cell? w _ hw520_0)).trans hw520_0), ((HB.out.cell (World.block_lt_of_cell? w _ hw520_1)).trans hw520_1), ((HB.out.cell (World.block_lt_of_cell? w _ hw521_0)).trans hw521_0), ((HB.out.cell (World.block_lt_of_cell? w _ hw521_1)).trans hw521_1), ((HB.out.cell (World.block_lt_of_cell? w _ hw523_0)).trans hw523_0), ((HB.out.cell (World.block_lt_of_cell? w _ hw523_1)).trans hw523_1), ((HB.out.cell (World.block_lt_of_cell? w _ hw525_0)).trans hw525_0), ((HB.out.cell (World.block_lt_of_cell? w _ hw525_1)).trans hw525_1)⟩ (fun hHeld => ?_)
     clear hK K
     refine nm_ 43 ?_
     refine pv_ 31 30 44 2147483647 rfl rfl HT_ ?_
     refine done_ (done_of HT_.out (by kernel_rfl)) ?_
     try go_wp2
     (try (rw [drewN_self w21]; generalize hq_ : World.drewN w21 _ = w21; have n0_ : Aside0 (Kd.R (Kd.int .i64) 3 w21 w.heap.size (fun _ => True) (.slice Ao22 x5_1.length co22) x5_1) := ⟨by rw [← hq_]; exact (by (with_reducible repeat (first | apply Kd.R_alloc | apply Kd.R_drewN | apply Kd.R_drew)); exact HO_5.out)⟩; have n1_ : Aside0 (Below w.heap.size w w21) := ⟨by rw [← hq_]; exact (by repeat (first | (with_reducible first | exact HB.out | apply below_alloc | apply pw_below_drewN | apply below_drew1) | exact HB.out))⟩; clear HO_5 HB hq_; have HO_5 := n0_; have HB := n1_; clear n0_ n1_))
     have n0_ := Aside0.mk (Kd.R_drew HO_5.out)
     have n1_ := Aside0.mk (below_drew1 HB.out)
     clear HO_5
     clear HB
     have HO_5 := n0_
     have HB := n1_
     clear n0_ n1_
     have p527 : 0 ≤ (x6_1 : Int) := of_decide_eq_true (by first | (with_reducible assumption) | assumption)
     have q527 : x6_1 < (l1.length : Int) := of_decide_eq_true (by first | (with_reducible assumption) | assumption)
     obtain ⟨ad527, e527, hx527_0, hx527_1⟩ := at_T46 HR1.out x6_1 p527 q527
     have hw527_1 := hx527_1
     have hw527_0 := hx527_0
     obtain rfl : ad520 = ad527 := (by injection e527)
     replace hx527_0 := (HB.out.cell (World.block_lt_of_cell? w _ hx527_0)).trans hx527_0
     replace hx527_1 := (HB.out.cell (World.block_lt_of_cell? w _ hx527_1)).trans hx527_1
     replace p527 := eq_true p527
     replace q527 := eq_true q527
     have p528 : 0 ≤ (x6_1 : Int) := of_decide_eq_true (by first | (with_reducible assumption) | assumption)
     have q528 : x6_1 < (l1.length : Int) := of_decide_eq_true (by first | (with_reducible assumption) | assumption)
     obtain ⟨ad528, e528, hx528_0, hx528_1⟩ := at_T46 HR1.out x6_1 p528 q528
     have hw528_1 := hx528_1
     have hw528_0 := hx528_0
     obtain rfl : ad520 = ad528 := (by injection e528)
     replace hx528_0 := (HB.out.cell (World.block_lt_of_cell? w _ hx528_0)).trans hx528_0
     replace hx528_1 := (HB.out.cell (World.block_lt_of_cell? w _ hx528_1)).trans hx528_1
     replace p528 := eq_true p528
     replace q528 := eq_true q528
     refine start_ (n := 14) (S := fun w' => w'.cell? (ad520.add ((x6_1).toNat * 2)) = some (.int .i64 ((rd_T46 l1 x6_1).f0)) ∧ w'.cell? ⟨(ad520.add ((x6_1).toNat * 2)).block, (ad520.add ((x6_1).toNat * 2)).off + 1, none⟩ = some (.int .i64 ((rd_T46 l1 x6_1).f1)) ∧ w'.cell? (ad520.add ((x6_1).toNat * 2)) = some (.int .i64 ((rd_T46 l1 x6_1).f0)) ∧ w'.cell? ⟨(ad520.add ((x6_1).toNat * 2)).block, (ad520.add ((x6_1).toNat * 2)).off + 1, none⟩ = some (.int .i64 ((rd_T46 l1 x6_1).f1))) (ds := []) (bv 14 0) (by kernel_rfl) rfl rfl ⟨((HB.out.cell (World.block_lt_of_cell? w _ hw527_0)).trans hw527_0), ((HB.out.cell (World.block_lt_of_cell? w _ hw527_1)).trans hw527_1), ((HB.out.cell (World.block_lt_of_cell? w _ hw528_0)).trans hw528_0), ((HB.out.cell (World.block_lt_of_cell? w _ hw528_1)).trans hw528_1)⟩ (fun hHeld => ?_); refine with_tabW spec_IsRound.tab7 spec_IsRound.bits7 (fun HT_ HW_ => ?_)
     generalize w21.drew = w23 at HO_5 HB hx527_0 hx527_1 hx528_0 hx528_1 hHeld ⊢
     refine pv_ 14 0 45 1 rfl rfl HT_ ?_; refine pv_ 14 1 46 3 rfl rfl HT_ ?_; refine pv_ 14 2 47 7 rfl rfl HT_ ?_; refine pv_ 14 3 48 15 rfl rfl HT_ ?_; refine pv_ 14 4 49 31 rfl rfl HT_ ?_; refine pv_ 14 6 51 95 rfl rfl HT_ ?_; refine pv_ 14 7 52 223 rfl rfl HT_ ?_; refine pv_ 14 8 53 479 rfl rfl HT_ ?_; refine pv_ 14 9 54 991 rfl rfl HT_ ?_
     refine tv_ 14 5 50 1023 rfl rfl HT_ HW_ hHeld (by rintro w' ⟨s0, s1, s2, s3⟩; go_simp; with_reducible rfl) ?_
     refine tv_ 14 10 55 2047 rfl rfl HT_ HW_ hHeld (by rintro w' ⟨s0, s1, s2, s3⟩; go_simp; with_reducible rfl) ?_
     refine one_ (i := 11) (N := some 56) (bv 14 4095) rfl rfl (one_of HT_.out (by kernel_rfl)) (by decide) (fun K hK => ?_)
     refine Kd.R_lit_step (Kd.int .i64) _ 3 ?hg (N := 56) ?hd (xs := ([(rd_T46 l1 x6_1).f0, (rd_T46 l1 x6_1).f1] : List Int)) (inner := [.int .i64 ((rd_T46 l1 x6_1).f0), .int .i64 ((rd_T46 l1 x6_1).f1)]) (ok := fun _ => True) (okp := fun _ => True) ?hr ?hp (fun _ hk => hk) trivial (Below.refl _ _) (Nat.le_refl _) (by simp) ?_; (case hd => rfl); (case hg => rfl); (case hr => first | (go_simp; done) | (go_simp; rfl)); (case hp => exact (Reps.one (show Kd.M (Kd.int .i64) _ _ _ ((rd_T46 l1 x6_1).f0) [.int .i64 ((rd_T46 l1 x6_1).f0)] from rfl) (Reps.one (show Kd.M (Kd.int .i64) _ _ _ ((rd_T46 l1 x6_1).f1) [.int .i64 ((rd_T46 l1 x6_1).f1)] from rfl) (Reps.none _ _))))
     intro v530 w24 ho25 hb hg_ hnew_
     clear hg_ hnew_
     (first | rw [← Ny529.out] at ho25 | (simp only [Int.reduceToNat] at ho25; rw [← Ny529.out] at ho25))
     have n0_ := Aside0.mk (Kd.R_elder' (by (with_reducible repeat (first | apply Kd.R_alloc | apply Kd.R_drewN | apply Kd.R_drew)); exact HO_5.out) (Kd.R_base ho25) hb)
     have n1_ := Aside0.mk (Kd.R_lower (Kd.R_new' ho25 (Kd.R_lt (by (with_reducible repeat (first | apply Kd.R_alloc | apply Kd.R_drewN | apply Kd.R_drew)); exact HO_5.out))) (below_size (by repeat (first | (with_reducible first | exact HB.out | apply below_alloc | apply pw_below_drewN | apply below_drew1) | exact HB.out))))
     have n2_ := Aside0.mk (below_step (by repeat (first | (with_reducible first | exact HB.out | apply below_alloc | apply pw_below_drewN | apply below_drew1) | exact HB.out)) hb)
     clear HO_5
     clear HB
     have HO_5 := n0_
     have HO531 := n1_
     have HB := n2_
     clear n0_ n1_ n2_
     clear hb ho25
     obtain ⟨Ao27, co27, eo27⟩ := Kd.R_slice HO531.out
     (first | subst eo27 | (injection eo27 with f1_ f2_ f3_; have f4_ := f1_.symm; have f5_ := f3_.symm; clear f1_ f2_ f3_; subst f4_; subst f5_))
     refine hK.out _ _ ⟨((HB.out.cell (World.block_lt_of_cell? w _ hw527_0)).trans hw527_0), ((HB.out.cell (World.block_lt_of_cell? w _ hw527_1)).trans hw527_1), ((HB.out.cell (World.block_lt_of_cell? w _ hw528_0)).trans hw528_0), ((HB.out.cell (World.block_lt_of_cell? w _ hw528_1)).trans hw528_1)⟩ (fun hHeld => ?_)
     clear hK K
     refine nm_ 56 ?_
     refine one_ (i := 12) (N := some 57) (bv 14 8191) rfl rfl (one_of HT_.out (by kernel_rfl)) (by decide) (fun K hK => ?_)
     refine Kd.R_append_rows_step (Kd.int .i64) (w0 := w) w.heap.size (by rfl) (.tmp 45) (.tmp 56) 41 3 (.int .i64 0) 8 rfl Try.underlying41 info3 rfl (by decide) (by omega) (.slice Ao22 x5_1.length co22) x5_1 y529 _ _ _ (fun k_ => some k_ ≠ (.slice Ao27 y529.length co27 : Value).ownBlock) (fun _ => False) rfl rfl ?aO ?aR (fun _ _ h => h) (fun _ h => h.elim) ?aF ?aB ?aS ?aL ?_
     (case aR => repeat (first | exact (Kd.R_reads' HO531.out).2.2 | (with_reducible refine Kd.C_alloc ?_ _) | (with_reducible refine Kd.C_drewN ?_ _) | (with_reducible refine Kd.C_drew ?_)))
     (case aB => exact (by repeat (first | (with_reducible first | exact HB.out | apply below_alloc | apply pw_below_drewN | apply below_drew1) | exact HB.out)))
     (case aF => exact (fun k_ hk => Kd.fresh' (Kd.R_lt (by (with_reducible repeat (first | apply Kd.R_alloc | apply Kd.R_drewN | apply Kd.R_drew)); exact HO531.out)) k_ hk))
     (case aO => exact (by (with_reducible repeat (first | apply Kd.R_alloc | apply Kd.R_drewN | apply Kd.R_drew)); exact Kd.R_mono HO_5.out (fun _ hk => hk.2)))
     (case aS => exact (below_size (by repeat (first | (with_reducible first | exact HB.out | apply below_alloc | apply pw_below_drewN | apply below_drew1) | exact HB.out))))
     (case aL => have := LMc19.out; omega)
     intro v533 w26 ho hb hg hat
     rw [← Ny532.out] at ho
     have n0_ := Aside0.mk (Kd.R_after (ok := (fun _ => True)) (by (with_reducible repeat (first | apply Kd.R_alloc | apply Kd.R_drewN | apply Kd.R_drew)); exact HO531.out) hg hat)
     have n1_ := Aside0.mk (hb)
     have n2_ := Aside0.mk (ho)
     clear HO531
     clear HB
     clear HO_5
     have HO531 := n0_
     have HB := n1_
     have HO534 := n2_
     clear n0_ n1_ n2_
     clear ho hb hg hat
     refine hK.out _ _ ⟨((HB.out.cell (World.block_lt_of_cell? w _ hw527_0)).trans hw527_0), ((HB.out.cell (World.block_lt_of_cell? w _ hw527_1)).trans hw527_1), ((HB.out.cell (World.block_lt_of_cell? w _ hw528_0)).trans hw528_0), ((HB.out.cell (World.block_lt_of_cell? w _ hw528_1)).trans hw528_1)⟩ (fun hHeld => ?_)
     clear hK K
     refine nm_ 57 ?_
     refine pv_ 14 13 5 16383 rfl rfl HT_ ?_
     refine done_ (done_of HT_.out (by kernel_rfl)) ?_
     try go_wp2
     go_roundg k1
     case measure => have := HK1.out; omega
     case rel => exact ⟨(y532), (wrap64 (x6_1 + 1)), (by first | rfl | (simp; done) | (simp [*]; done)), H', ⟨by have := HK1.out; omega⟩, ⟨by (with_reducible repeat (first | apply Kd.R_alloc | apply Kd.R_drewN | apply Kd.R_drew)); exact Kd.R_mono HO534.out (fun _ hk => trivial)⟩, ⟨by repeat (first | (with_reducible first | exact HB.out | apply below_alloc | apply pw_below_drewN | apply below_drew1) | exact HB.out)⟩⟩
    subst c15
    have H1 : (some false) = some r := by rw [if_pos rfl] at H; exact H
    clear H
    have H := H1
    clear H1
    obtain rfl := Option.some.inj H
    try go_wp2
    have n0_ := Aside0.mk (Kd.R_drew HO_5.out)
    have n1_ := Aside0.mk (below_drew1 HB.out)
    clear HO_5
    clear HB
    have HO_5 := n0_
    have HB := n1_
    clear n0_ n1_
    have p520 : 0 ≤ (x6_1 : Int) := of_decide_eq_true (by first | (with_reducible assumption) | assumption)
    have q520 : x6_1 < (l1.length : Int) := of_decide_eq_true (by first | (with_reducible assumption) | assumption)
    obtain ⟨ad520, e520, hx520_0, hx520_1⟩ := at_T46 HR1.out x6_1 p520 q520
    have hw520_1 := hx520_1
    have hw520_0 := hx520_0
    cases e520
    replace hx520_0 := (HB.out.cell (World.block_lt_of_cell? w _ hx520_0)).trans hx520_0
    replace hx520_1 := (HB.out.cell (World.block_lt_of_cell? w _ hx520_1)).trans hx520_1
    replace p520 := eq_true p520
    replace q520 := eq_true q520
    have p521 : 0 ≤ (x6_1 : Int) := of_decide_eq_true (by first | (with_reducible assumption) | assumption)
    have q521 : x6_1 < (l1.length : Int) := of_decide_eq_true (by first | (with_reducible assumption) | assumption)
    obtain ⟨ad521, e521, hx521_0, hx521_1⟩ := at_T46 HR1.out x6_1 p521 q521
    have hw521_1 := hx521_1
    have hw521_0 := hx521_0
    obtain rfl : ad520 = ad521 := (by injection e521)
    replace hx521_0 := (HB.out.cell (World.block_lt_of_cell? w _ hx521_0)).trans hx521_0
    replace hx521_1 := (HB.out.cell (World.block_lt_of_cell? w _ hx521_1)).trans hx521_1
    replace p521 := eq_true p521
    replace q521 := eq_true q521
    have p523 : 0 ≤ (x6_1 : Int) := of_decide_eq_true (by first | (with_reducible assumption) | assumption)
    have q523 : x6_1 < (l1.length : Int) := of_decide_eq_true (by first | (with_reducible assumption) | assumption)
    obtain ⟨ad523, e523, hx523_0, hx523_1⟩ := at_T46 HR1.out x6_1 p523 q523
    have hw523_1 := hx523_1
    have hw523_0 := hx523_0
    obtain rfl : ad520 = ad523 := (by injection e523)
    replace hx523_0 := (HB.out.cell (World.block_lt_of_cell? w _ hx523_0)).trans hx523_0
    replace hx523_1 := (HB.out.cell (World.block_lt_of_cell? w _ hx523_1)).trans hx523_1
    replace p523 := eq_true p523
    replace q523 := eq_true q523
    have p525 : 0 ≤ (x6_1 : Int) := of_decide_eq_true (by first | (with_reducible assumption) | assumption)
    have q525 : x6_1 < (l1.length : Int) := of_decide_eq_true (by first | (with_reducible assumption) | assumption)
    obtain ⟨ad525, e525, hx525_0, hx525_1⟩ := at_T46 HR1.out x6_1 p525 q525
    have hw525_1 := hx525_1
    have hw525_0 := hx525_0
    obtain rfl : ad520 = ad525 := (by injection e525)
    replace hx525_0 := (HB.out.cell (World.block_lt_of_cell? w _ hx525_0)).trans hx525_0
    replace hx525_1 := (HB.out.cell (World.block_lt_of_cell? w _ hx525_1)).trans hx525_1
    replace p525 := eq_true p525
    replace q525 := eq_true q525
    refine start_ (n := 31) (S := fun w' => w'.cell? (ad520.add ((x6_1).toNat * 2)) = some (.int .i64 ((rd_T46 l1 x6_1).f0)) ∧ w'.cell? ⟨(ad520.add ((x6_1).toNat * 2)).block, (ad520.add ((x6_1).toNat * 2)).off + 1, none⟩ = some (.int .i64 ((rd_T46 l1 x6_1).f1)) ∧ w'.cell? (ad520.add ((x6_1).toNat * 2)) = some (.int .i64 ((rd_T46 l1 x6_1).f0)) ∧ w'.cell? ⟨(ad520.add ((x6_1).toNat * 2)).block, (ad520.add ((x6_1).toNat * 2)).off + 1, none⟩ = some (.int .i64 ((rd_T46 l1 x6_1).f1)) ∧ w'.cell? (ad520.add ((x6_1).toNat * 2)) = some (.int .i64 ((rd_T46 l1 x6_1).f0)) ∧ w'.cell? ⟨(ad520.add ((x6_1).toNat * 2)).block, (ad520.add ((x6_1).toNat * 2)).off + 1, none⟩ = some (.int .i64 ((rd_T46 l1 x6_1).f1)) ∧ w'.cell? (ad520.add ((x6_1).toNat * 2)) = some (.int .i64 ((rd_T46 l1 x6_1).f0)) ∧ w'.cell? ⟨(ad520.add ((x6_1).toNat * 2)).block, (ad520.add ((x6_1).toNat * 2)).off + 1, none⟩ = some (.int .i64 ((rd_T46 l1 x6_1).f1))) (ds := []) (bv 31 0) (by kernel_rfl) rfl rfl ⟨((HB.out.cell (World.block_lt_of_cell? w _ hw520_0)).trans hw520_0), ((HB.out.cell (World.block_lt_of_cell? w _ hw520_1)).trans hw520_1), ((HB.out.cell (World.block_lt_of_cell? w _ hw521_0)).trans hw521_0), ((HB.out.cell (World.block_lt_of_cell? w _ hw521_1)).trans hw521_1), ((HB.out.cell (World.block_lt_of_cell? w _ hw523_0)).trans hw523_0), ((HB.out.cell (World.block_lt_of_cell? w _ hw523_1)).trans hw523_1), ((HB.out.cell (World.block_lt_of_cell? w _ hw525_0)).trans hw525_0), ((HB.out.cell (World.block_lt_of_cell? w _ hw525_1)).trans hw525_1)⟩ (fun hHeld => ?_); refine with_tabW spec_IsRound.tab5 spec_IsRound.bits5 (fun HT_ HW_ => ?_)
    generalize wr.drew = w16 at HO_5 HB hx520_0 hx520_1 hx521_0 hx521_1 hx523_0 hx523_1 hx525_0 hx525_1 hHeld ⊢
    refine pv_ 31 0 14 1 rfl rfl HT_ ?_; refine pv_ 31 1 15 3 rfl rfl HT_ ?_; refine pv_ 31 2 16 7 rfl rfl HT_ ?_; refine pv_ 31 3 17 15 rfl rfl HT_ ?_; refine pv_ 31 4 18 31 rfl rfl HT_ ?_; refine pv_ 31 6 20 95 rfl rfl HT_ ?_; refine pv_ 31 7 21 223 rfl rfl HT_ ?_; refine pv_ 31 8 22 479 rfl rfl HT_ ?_; refine pv_ 31 9 23 991 rfl rfl HT_ ?_
    refine tv_ 31 5 19 1023 rfl rfl HT_ HW_ hHeld (by rintro w' ⟨s0, s1, s2, s3, s4, s5, s6, s7⟩; go_simp; with_reducible rfl) ?_
    refine tv_ 31 10 24 2047 rfl rfl HT_ HW_ hHeld (by rintro w' ⟨s0, s1, s2, s3, s4, s5, s6, s7⟩; go_simp; with_reducible rfl) ?_
    refine one_ (i := 11) (N := some 25) (bv 31 4095) rfl rfl (one_of HT_.out (by kernel_rfl)) (by decide) (fun K hK => ?_)
    refine goes_ Try.func26 (by kernel_rfl) rfl #[.slice A0 l0.length c0, .int .i64 ((rd_T46 l1 x6_1).f0), .int .i64 ((rd_T46 l1 x6_1).f1)] (by rfl) rfl rfl (by (try simp only [List.map_toArray, List.map_cons, List.map_nil]); first | done | rfl | (simp only [List.length_drop, List.length_take]; rfl)) ?_
    with_reducible refine (spec_MayMeet.calls k1 _ _ l0 ((rd_T46 l1 x6_1).f0) ((rd_T46 l1 x6_1).f1) true _ ?side1 ?side2 A7.out).mono ?_
    (case side1 => repeat (first | exact (Kd.C_below HR0.out HB.out) | (with_reducible refine Kd.C_alloc ?_ _) | (with_reducible refine Kd.C_drewN ?_ _) | (with_reducible refine Kd.C_drew ?_)))
    (case side2 => exact HC0.out)
    rintro e w17 ⟨rfl, hb⟩
    refine ⟨_, rfl, ?_⟩
    have n0_ := Aside0.mk (Kd.R_below (by (with_reducible repeat (first | apply Kd.R_alloc | apply Kd.R_drewN | apply Kd.R_drew)); exact HO_5.out) hb)
    have n1_ := Aside0.mk (below_step (by repeat (first | (with_reducible first | exact HB.out | apply below_alloc | apply pw_below_drewN | apply below_drew1) | exact HB.out)) hb)
    clear HO_5
    clear HB
    have HO_5 := n0_
    have HB := n1_
    clear n0_ n1_
    (try clear hb)
    (try clear hb2)
    (try clear hk)
    (try clear hi)
    obtain ⟨Ao18, co18, eo18⟩ := Kd.R_slice HO_5.out
    (first | subst eo18 | (injection eo18 with f1_ f2_ f3_; have f4_ := f1_.symm; have f5_ := f3_.symm; clear f1_ f2_ f3_; subst f4_; subst f5_))
    refine hK.out _ _ ⟨((HB.out.cell (World.block_lt_of_cell? w _ hw520_0)).trans hw520_0), ((HB.out.cell (World.block_lt_of_cell? w _ hw520_1)).trans hw520_1), ((HB.out.cell (World.block_lt_of_cell? w _ hw521_0)).trans hw521_0), ((HB.out.cell (World.block_lt_of_cell? w _ hw521_1)).trans hw521_1), ((HB.out.cell (World.block_lt_of_cell? w _ hw523_0)).trans hw523_0), ((HB.out.cell (World.block_lt_of_cell? w _ hw523_1)).trans hw523_1), ((HB.out.cell (World.block_lt_of_cell? w _ hw525_0)).trans hw525_0), ((HB.out.cell (World.block_lt_of_cell? w _ hw525_1)).trans hw525_1)⟩ (fun hHeld => ?_)
    clear hK K
    refine nm_ 25 ?_
    refine pv_ 31 12 26 8191 rfl rfl HT_ ?_; refine pv_ 31 13 27 16383 rfl rfl HT_ ?_; refine pv_ 31 14 28 32767 rfl rfl HT_ ?_; refine pv_ 31 15 29 65535 rfl rfl HT_ ?_; refine pv_ 31 16 30 131071 rfl rfl HT_ ?_; refine pv_ 31 17 31 262143 rfl rfl HT_ ?_; refine pv_ 31 18 32 524287 rfl rfl HT_ ?_
    refine tv_ 31 19 33 1048575 rfl rfl HT_ HW_ hHeld (by rintro w' ⟨s0, s1, s2, s3, s4, s5, s6, s7⟩; go_simp; with_reducible rfl) ?_
    refine one_ (i := 20) (N := some 34) (bv 31 2097151) rfl rfl (one_of HT_.out (by kernel_rfl)) (by decide) (fun K hK => ?_)
    refine goes_ Try.func63 (by kernel_rfl) rfl #[.slice Ao18 x5_1.length co18, .int .i64 ((rd_T46 l1 x6_1).f0)] (by rfl) rfl rfl (by (try simp only [List.map_toArray, List.map_cons, List.map_nil]); first | done | rfl | (simp only [List.length_drop, List.length_take]; rfl)) ?_
    with_reducible refine (spec_l4Has.calls k1 _ _ x5_1 ((rd_T46 l1 x6_1).f0) false _ ?side1 ?side2 A9.out).mono ?_
    (case side1 => repeat (first | exact (Kd.R_reads' HO_5.out).2.2 | (with_reducible refine Kd.C_alloc ?_ _) | (with_reducible refine Kd.C_drewN ?_ _) | (with_reducible refine Kd.C_drew ?_)))
    (case side2 => exact (Kd.R_reads' HO_5.out).2.1)
    rintro e w' ⟨rfl, ⟨nd, rfl⟩⟩
    refine ⟨_, rfl, ?_⟩
    refine hK.out _ _ ⟨((HB.out.cell (World.block_lt_of_cell? w _ hw520_0)).trans hw520_0), ((HB.out.cell (World.block_lt_of_cell? w _ hw520_1)).trans hw520_1), ((HB.out.cell (World.block_lt_of_cell? w _ hw521_0)).trans hw521_0), ((HB.out.cell (World.block_lt_of_cell? w _ hw521_1)).trans hw521_1), ((HB.out.cell (World.block_lt_of_cell? w _ hw523_0)).trans hw523_0), ((HB.out.cell (World.block_lt_of_cell? w _ hw523_1)).trans hw523_1), ((HB.out.cell (World.block_lt_of_cell? w _ hw525_0)).trans hw525_0), ((HB.out.cell (World.block_lt_of_cell? w _ hw525_1)).trans hw525_1)⟩ (fun hHeld => ?_)
    clear hK K
    refine nm_ 34 ?_
    refine pv_ 31 21 35 4194303 rfl rfl HT_ ?_; refine pv_ 31 22 36 8388607 rfl rfl HT_ ?_; refine pv_ 31 23 37 16777215 rfl rfl HT_ ?_; refine pv_ 31 24 38 33554431 rfl rfl HT_ ?_; refine pv_ 31 25 39 67108863 rfl rfl HT_ ?_; refine pv_ 31 26 40 134217727 rfl rfl HT_ ?_; refine pv_ 31 27 41 268435455 rfl rfl HT_ ?_
    refine tv_ 31 28 42 536870911 rfl rfl HT_ HW_ hHeld (by rintro w' ⟨s0, s1, s2, s3, s4, s5, s6, s7⟩; go_simp; with_reducible rfl) ?_
    refine one_ (i := 29) (N := some 43) (bv 31 1073741823) rfl rfl (one_of HT_.out (by kernel_rfl)) (by decide) (fun K hK => ?_)
    refine goes_ Try.func63 (by kernel_rfl) rfl #[.slice Ao18 x5_1.length co18, .int .i64 ((rd_T46 l1 x6_1).f1)] (by rfl) rfl rfl (by (try simp only [List.map_toArray, List.map_cons, List.map_nil]); first | done | rfl | (simp only [List.length_drop, List.length_take]; rfl)) ?_
    with_reducible refine (spec_l4Has.calls k1 _ _ x5_1 ((rd_T46 l1 x6_1).f1) true _ ?side1 ?side2 A14.out).mono ?_
    (case side1 => repeat (first | exact (Kd.R_reads' HO_5.out).2.2 | (with_reducible refine Kd.C_alloc ?_ _) | (with_reducible refine Kd.C_drewN ?_ _) | (with_reducible refine Kd.C_drew ?_)))
    (case side2 => exact (Kd.R_reads' HO_5.out).2.1)
    rintro e w' ⟨rfl, ⟨nd, rfl⟩⟩
    refine ⟨_, rfl, ?_⟩
    refine hK.out _ _ ⟨((HB.out.cell (World.block_lt_of_cell? w _ hw520_0)).trans hw520_0), ((HB.out.cell (World.block_lt_of_cell? w _ hw520_1)).trans hw520_1), ((HB.out.cell (World.block_lt_of_cell? w _ hw521_0)).trans hw521_0), ((HB.out.cell (World.block_lt_of_cell? w _ hw521_1)).trans hw521_1), ((HB.out.cell (World.block_lt_of_cell? w _ hw523_0)).trans hw523_0), ((HB.out.cell (World.block_lt_of_cell? w _ hw523_1)).trans hw523_1), ((HB.out.cell (World.block_lt_of_cell? w _ hw525_0)).trans hw525_0), ((HB.out.cell (World.block_lt_of_cell? w _ hw525_1)).trans hw525_1)⟩ (fun hHeld => ?_)
    clear hK K
    refine nm_ 43 ?_
    refine pv_ 31 30 44 2147483647 rfl rfl HT_ ?_
    refine done_ (done_of HT_.out (by kernel_rfl)) ?_
    try go_wp2
    go_ret
    exact ⟨by first | rfl | (simp [errW_none, errW_some] <;> rfl) | (simp [*, errW_none, errW_some] <;> rfl), by repeat (first | (with_reducible first | exact HB.out | apply below_alloc | apply pw_below_drewN | apply below_drew1) | exact HB.out)⟩
   subst c10
   have H1 : (some false) = some r := by rw [if_pos rfl] at H; exact H
   clear H
   have H := H1
   clear H1
   obtain rfl := Option.some.inj H
   try go_wp2
   have n0_ := Aside0.mk (Kd.R_drew HO_5.out)
   have n1_ := Aside0.mk (below_drew1 HB.out)
   clear HO_5
   clear HB
   have HO_5 := n0_
   have HB := n1_
   clear n0_ n1_
   have p520 : 0 ≤ (x6_1 : Int) := of_decide_eq_true (by first | (with_reducible assumption) | assumption)
   have q520 : x6_1 < (l1.length : Int) := of_decide_eq_true (by first | (with_reducible assumption) | assumption)
   obtain ⟨ad520, e520, hx520_0, hx520_1⟩ := at_T46 HR1.out x6_1 p520 q520
   have hw520_1 := hx520_1
   have hw520_0 := hx520_0
   cases e520
   replace hx520_0 := (HB.out.cell (World.block_lt_of_cell? w _ hx520_0)).trans hx520_0
   replace hx520_1 := (HB.out.cell (World.block_lt_of_cell? w _ hx520_1)).trans hx520_1
   replace p520 := eq_true p520
   replace q520 := eq_true q520
   have p521 : 0 ≤ (x6_1 : Int) := of_decide_eq_true (by first | (with_reducible assumption) | assumption)
   have q521 : x6_1 < (l1.length : Int) := of_decide_eq_true (by first | (with_reducible assumption) | assumption)
   obtain ⟨ad521, e521, hx521_0, hx521_1⟩ := at_T46 HR1.out x6_1 p521 q521
   have hw521_1 := hx521_1
   have hw521_0 := hx521_0
   obtain rfl : ad520 = ad521 := (by injection e521)
   replace hx521_0 := (HB.out.cell (World.block_lt_of_cell? w _ hx521_0)).trans hx521_0
   replace hx521_1 := (HB.out.cell (World.block_lt_of_cell? w _ hx521_1)).trans hx521_1
   replace p521 := eq_true p521
   replace q521 := eq_true q521
   have p523 : 0 ≤ (x6_1 : Int) := of_decide_eq_true (by first | (with_reducible assumption) | assumption)
   have q523 : x6_1 < (l1.length : Int) := of_decide_eq_true (by first | (with_reducible assumption) | assumption)
   obtain ⟨ad523, e523, hx523_0, hx523_1⟩ := at_T46 HR1.out x6_1 p523 q523
   have hw523_1 := hx523_1
   have hw523_0 := hx523_0
   obtain rfl : ad520 = ad523 := (by injection e523)
   replace hx523_0 := (HB.out.cell (World.block_lt_of_cell? w _ hx523_0)).trans hx523_0
   replace hx523_1 := (HB.out.cell (World.block_lt_of_cell? w _ hx523_1)).trans hx523_1
   replace p523 := eq_true p523
   replace q523 := eq_true q523
   refine start_ (n := 31) (S := fun w' => w'.cell? (ad520.add ((x6_1).toNat * 2)) = some (.int .i64 ((rd_T46 l1 x6_1).f0)) ∧ w'.cell? ⟨(ad520.add ((x6_1).toNat * 2)).block, (ad520.add ((x6_1).toNat * 2)).off + 1, none⟩ = some (.int .i64 ((rd_T46 l1 x6_1).f1)) ∧ w'.cell? (ad520.add ((x6_1).toNat * 2)) = some (.int .i64 ((rd_T46 l1 x6_1).f0)) ∧ w'.cell? ⟨(ad520.add ((x6_1).toNat * 2)).block, (ad520.add ((x6_1).toNat * 2)).off + 1, none⟩ = some (.int .i64 ((rd_T46 l1 x6_1).f1)) ∧ w'.cell? (ad520.add ((x6_1).toNat * 2)) = some (.int .i64 ((rd_T46 l1 x6_1).f0)) ∧ w'.cell? ⟨(ad520.add ((x6_1).toNat * 2)).block, (ad520.add ((x6_1).toNat * 2)).off + 1, none⟩ = some (.int .i64 ((rd_T46 l1 x6_1).f1))) (ds := []) (bv 31 0) (by kernel_rfl) rfl rfl ⟨((HB.out.cell (World.block_lt_of_cell? w _ hw520_0)).trans hw520_0), ((HB.out.cell (World.block_lt_of_cell? w _ hw520_1)).trans hw520_1), ((HB.out.cell (World.block_lt_of_cell? w _ hw521_0)).trans hw521_0), ((HB.out.cell (World.block_lt_of_cell? w _ hw521_1)).trans hw521_1), ((HB.out.cell (World.block_lt_of_cell? w _ hw523_0)).trans hw523_0), ((HB.out.cell (World.block_lt_of_cell? w _ hw523_1)).trans hw523_1)⟩ (fun hHeld => ?_); refine with_tabW spec_IsRound.tab5 spec_IsRound.bits5 (fun HT_ HW_ => ?_)
   generalize wr.drew = w11 at HO_5 HB hx520_0 hx520_1 hx521_0 hx521_1 hx523_0 hx523_1 hHeld ⊢
   refine pv_ 31 0 14 1 rfl rfl HT_ ?_; refine pv_ 31 1 15 3 rfl rfl HT_ ?_; refine pv_ 31 2 16 7 rfl rfl HT_ ?_; refine pv_ 31 3 17 15 rfl rfl HT_ ?_; refine pv_ 31 4 18 31 rfl rfl HT_ ?_; refine pv_ 31 6 20 95 rfl rfl HT_ ?_; refine pv_ 31 7 21 223 rfl rfl HT_ ?_; refine pv_ 31 8 22 479 rfl rfl HT_ ?_; refine pv_ 31 9 23 991 rfl rfl HT_ ?_
   refine tv_ 31 5 19 1023 rfl rfl HT_ HW_ hHeld (by rintro w' ⟨s0, s1, s2, s3, s4, s5⟩; go_simp; with_reducible rfl) ?_
   refine tv_ 31 10 24 2047 rfl rfl HT_ HW_ hHeld (by rintro w' ⟨s0, s1, s2, s3, s4, s5⟩; go_simp; with_reducible rfl) ?_
   refine one_ (i := 11) (N := some 25) (bv 31 4095) rfl rfl (one_of HT_.out (by kernel_rfl)) (by decide) (fun K hK => ?_)
   refine goes_ Try.func26 (by kernel_rfl) rfl #[.slice A0 l0.length c0, .int .i64 ((rd_T46 l1 x6_1).f0), .int .i64 ((rd_T46 l1 x6_1).f1)] (by rfl) rfl rfl (by (try simp only [List.map_toArray, List.map_cons, List.map_nil]); first | done | rfl | (simp only [List.length_drop, List.length_take]; rfl)) ?_
   with_reducible refine (spec_MayMeet.calls k1 _ _ l0 ((rd_T46 l1 x6_1).f0) ((rd_T46 l1 x6_1).f1) true _ ?side1 ?side2 A7.out).mono ?_
   (case side1 => repeat (first | exact (Kd.C_below HR0.out HB.out) | (with_reducible refine Kd.C_alloc ?_ _) | (with_reducible refine Kd.C_drewN ?_ _) | (with_reducible refine Kd.C_drew ?_)))
   (case side2 => exact HC0.out)
   rintro e w12 ⟨rfl, hb⟩
   refine ⟨_, rfl, ?_⟩
   have n0_ := Aside0.mk (Kd.R_below (by (with_reducible repeat (first | apply Kd.R_alloc | apply Kd.R_drewN | apply Kd.R_drew)); exact HO_5.out) hb)
   have n1_ := Aside0.mk (below_step (by repeat (first | (with_reducible first | exact HB.out | apply below_alloc | apply pw_below_drewN | apply below_drew1) | exact HB.out)) hb)
   clear HO_5
   clear HB
   have HO_5 := n0_
   have HB := n1_
   clear n0_ n1_
   (try clear hb)
   (try clear hb2)
   (try clear hk)
   (try clear hi)
   obtain ⟨Ao13, co13, eo13⟩ := Kd.R_slice HO_5.out
   (first | subst eo13 | (injection eo13 with f1_ f2_ f3_; have f4_ := f1_.symm; have f5_ := f3_.symm; clear f1_ f2_ f3_; subst f4_; subst f5_))
   refine hK.out _ _ ⟨((HB.out.cell (World.block_lt_of_cell? w _ hw520_0)).trans hw520_0), ((HB.out.cell (World.block_lt_of_cell? w _ hw520_1)).trans hw520_1), ((HB.out.cell (World.block_lt_of_cell? w _ hw521_0)).trans hw521_0), ((HB.out.cell (World.block_lt_of_cell? w _ hw521_1)).trans hw521_1), ((HB.out.cell (World.block_lt_of_cell? w _ hw523_0)).trans hw523_0), ((HB.out.cell (World.block_lt_of_cell? w _ hw523_1)).trans hw523_1)⟩ (fun hHeld => ?_)
   clear hK K
   refine nm_ 25 ?_
   refine pv_ 31 12 26 8191 rfl rfl HT_ ?_; refine pv_ 31 13 27 16383 rfl rfl HT_ ?_; refine pv_ 31 14 28 32767 rfl rfl HT_ ?_; refine pv_ 31 15 29 65535 rfl rfl HT_ ?_; refine pv_ 31 16 30 131071 rfl rfl HT_ ?_; refine pv_ 31 17 31 262143 rfl rfl HT_ ?_; refine pv_ 31 18 32 524287 rfl rfl HT_ ?_
   refine tv_ 31 19 33 1048575 rfl rfl HT_ HW_ hHeld (by rintro w' ⟨s0, s1, s2, s3, s4, s5⟩; go_simp; with_reducible rfl) ?_
   refine one_ (i := 20) (N := some 34) (bv 31 2097151) rfl rfl (one_of HT_.out (by kernel_rfl)) (by decide) (fun K hK => ?_)
   refine goes_ Try.func63 (by kernel_rfl) rfl #[.slice Ao13 x5_1.length co13, .int .i64 ((rd_T46 l1 x6_1).f0)] (by rfl) rfl rfl (by (try simp only [List.map_toArray, List.map_cons, List.map_nil]); first | done | rfl | (simp only [List.length_drop, List.length_take]; rfl)) ?_
   with_reducible refine (spec_l4Has.calls k1 _ _ x5_1 ((rd_T46 l1 x6_1).f0) true _ ?side1 ?side2 A9.out).mono ?_
   (case side1 => repeat (first | exact (Kd.R_reads' HO_5.out).2.2 | (with_reducible refine Kd.C_alloc ?_ _) | (with_reducible refine Kd.C_drewN ?_ _) | (with_reducible refine Kd.C_drew ?_)))
   (case side2 => exact (Kd.R_reads' HO_5.out).2.1)
   rintro e w' ⟨rfl, ⟨nd, rfl⟩⟩
   refine ⟨_, rfl, ?_⟩
   refine hK.out _ _ ⟨((HB.out.cell (World.block_lt_of_cell? w _ hw520_0)).trans hw520_0), ((HB.out.cell (World.block_lt_of_cell? w _ hw520_1)).trans hw520_1), ((HB.out.cell (World.block_lt_of_cell? w _ hw521_0)).trans hw521_0), ((HB.out.cell (World.block_lt_of_cell? w _ hw521_1)).trans hw521_1), ((HB.out.cell (World.block_lt_of_cell? w _ hw523_0)).trans hw523_0), ((HB.out.cell (World.block_lt_of_cell? w _ hw523_1)).trans hw523_1)⟩ (fun hHeld => ?_)
   clear hK K
   refine nm_ 34 ?_
   refine pv_ 31 21 35 4194303 rfl rfl HT_ ?_; refine pv_ 31 22 36 8388607 rfl rfl HT_ ?_; refine pu_ 31 23 37 16777215 rfl rfl HT_ ?_; refine pu_ 31 24 38 33554431 rfl rfl HT_ ?_; refine pu_ 31 25 39 67108863 rfl rfl HT_ ?_; refine pu_ 31 26 40 134217727 rfl rfl HT_ ?_; refine pu_ 31 27 41 268435455 rfl rfl HT_ ?_; refine pu_ 31 28 42 536870911 rfl rfl HT_ ?_; refine pu_ 31 29 43 1073741823 rfl rfl HT_ ?_; refine pv_ 31 30 44 2147483647 rfl rfl HT_ ?_
   refine done_ (done_of HT_.out (by kernel_rfl)) ?_
   try go_wp2
   go_ret
   exact ⟨by first | rfl | (simp [errW_none, errW_some] <;> rfl) | (simp [*, errW_none, errW_some] <;> rfl), by repeat (first | (with_reducible first | exact HB.out | apply below_alloc | apply pw_below_drewN | apply below_drew1) | exact HB.out)⟩
end Go.Proofs.Ytiimiogpiflkdaa.A
end

section
namespace Go.Proofs.Ytiimiogpiflkdaa.A
open Go.RowKit Go.Proofs.YtiimiogpiflkdaaW.PrintWords Go.Proofs.YtiimiogpiflkdaaW.PrintLast Go.Proofs.YtiimiogpiflkdaaW.PrintMore
attribute [local go_sem] max2_int min2_int max_two min_two max_three min_three max_four min_four   -- for this text's walks alone
set_option linter.unusedVariables false
set_option linter.unusedSimpArgs false
def impl_times.l0 : Nat → Int → Int → List Int → Int → Int → Option (Int)
  | 0, _, _, _, _, _ => none
  | k + 1, x1, x5, x8, x9, x10 => if x10 < x9 then (if 0 ≤ x10 then (if x10 < (x8.length : Int) then (if (rd x8 x10) = x1 then (impl_times.l0 k x1 (wrap64 (x5 + 1)) x8 x9 (wrap64 (x10 + 1))) else (impl_times.l0 k x1 x5 x8 x9 (wrap64 (x10 + 1)))) else (none)) else (none)) else (some x5)
def impl_times.f (k : Nat) (l0 : List Int) (a1 : Int) : Option (Int) := impl_times.l0 k a1 0 l0 (l0.length : Int) 0
set_option maxHeartbeats 8000000 in
set_option maxRecDepth 100000 in
theorem impl_times.calls (k : Nat) (A0 : Option Addr) (c0 : Nat) (l0 : List Int) (a1 : Int) (r : Int) (w : World) (hr0 : Kd.C (Kd.int .i64) w A0 l0.length l0) (hc0 : l0.length ≤ c0) (h : impl_times.f k l0 a1 = some r) :
  Calls Try.prog 62 #[.slice A0 l0.length c0, .int .i64 a1] w fun e w' => e = .returned (.int .i64 r) ∧ Drawn0 w w' := by
 have HR0 := Aside0.mk hr0
 have HC0 := Aside0.mk hc0
 clear hr0 hc0
 have H : (impl_times.l0 k a1 0 l0 (l0.length : Int) 0) = some r := h
 clear h
 have H' := Aside0.mk H
 clear H
 go_enter Try.func62, Try.ntmps62
 go_wp2
 go_loopg [5, 10] k (fun kq v5 v10 w' => ∃ (x5_1 : Int) (x10_1 : Int), v5 = .int .i64 x5_1 ∧ v10 = .int .i64 x10_1 ∧ Aside0 (impl_times.l0 kq a1 x5_1 l0 (l0.length : Int) x10_1 = some r) ∧ Aside0 (kq ≤ k) ∧ Drawn0 w w')
 case atStart => exact ⟨(0), (0), (by first | rfl | (simp; done) | (simp [*]; done)), (by first | rfl | (simp; done) | (simp [*]; done)), H', ⟨Nat.le_refl _⟩, by repeat (first | exact Drawn0.refl _ | apply Drawn0.step)⟩
 case round =>
  clear H'
  try clear p2
  obtain ⟨x5_1, x10_1, rfl, rfl, HA, HK1, ⟨m1, rfl⟩⟩ := hrel
  cases gk with
  | zero => exact absurd HA.out (by simp [impl_times.l0])
  | succ k1 =>
   have H := HA.out
   clear HA
   simp only [impl_times.l0] at H
   by_cases c3 : x10_1 < (l0.length : Int)
   ·
    rw [if_pos c3] at H
    have c3b0 : decide (x10_1 < (l0.length : Int)) = true := decide_eq_true c3
    clear c3
    by_cases c4 : 0 ≤ x10_1
    ·
     rw [if_pos c4] at H
     have c4b0 : decide (0 ≤ x10_1) = true := decide_eq_true c4
     clear c4
     by_cases c5 : x10_1 < (l0.length : Int)
     ·
      rw [if_pos c5] at H
      have c5b0 : decide (x10_1 < (l0.length : Int)) = true := decide_eq_true c5
      clear c5
      by_cases c6 : (rd l0 x10_1) = a1
      ·
       rw [if_pos c6] at H
       have c6b0 : ((rd l0 x10_1) == a1) = true := beq_iff_eq.mpr c6
       have c6b1 : ((rd l0 x10_1) != a1) = false := bne_eq_false_iff_eq.mpr c6
       clear c6
       have H' := Aside0.mk H
       clear H
       have p166 : 0 ≤ (x10_1 : Int) := of_decide_eq_true (by first | (with_reducible assumption) | assumption)
       have q166 : x10_1 < (l0.length : Int) := of_decide_eq_true (by first | (with_reducible assumption) | assumption)
       obtain ⟨ad166, e166, hx166_0⟩ := Kd.at_int HR0.out x10_1 p166 q166
       cases e166
       replace p166 := eq_true p166
       replace q166 := eq_true q166
       go_wp2
       go_roundg k1
       case measure => have := HK1.out; omega
       case rel => exact ⟨(wrap64 (x5_1 + 1)), (wrap64 (x10_1 + 1)), (by first | rfl | (simp; done) | (simp [*]; done)), (by first | rfl | (simp; done) | (simp [*]; done)), H', ⟨by have := HK1.out; omega⟩, by repeat (first | exact Drawn0.refl _ | apply Drawn0.step)⟩
      ·
       rw [if_neg c6] at H
       have c6b0 : ((rd l0 x10_1) == a1) = false := beq_eq_false_iff_ne.mpr c6
       have c6b1 : ((rd l0 x10_1) != a1) = true := bne_iff_ne.mpr c6
       have H' := Aside0.mk H
       clear H
       have p166 : 0 ≤ (x10_1 : Int) := of_decide_eq_true (by first | (with_reducible assumption) | assumption)
       have q166 : x10_1 < (l0.length : Int) := of_decide_eq_true (by first | (with_reducible assumption) | assumption)
       obtain ⟨ad166, e166, hx166_0⟩ := Kd.at_int HR0.out x10_1 p166 q166
       cases e166
       replace p166 := eq_true p166
       replace q166 := eq_true q166
       go_wp2
       go_roundg k1
       case measure => have := HK1.out; omega
       case rel => exact ⟨(x5_1), (wrap64 (x10_1 + 1)), (by first | rfl | (simp; done) | (simp [*]; done)), (by first | rfl | (simp; done) | (simp [*]; done)), H', ⟨by have := HK1.out; omega⟩, by repeat (first | exact Drawn0.refl _ | apply Drawn0.step)⟩
     ·
      rw [if_neg c5] at H
      exact absurd H (by simp)
    ·
     rw [if_neg c4] at H
     exact absurd H (by simp)
   ·
    rw [if_neg c3] at H
    have c3b0 : decide (x10_1 < (l0.length : Int)) = false := decide_eq_false c3
    clear c3
    obtain rfl := Option.some.inj H
    go_wp2
    go_ret
    exact ⟨by first | rfl | (simp; done) | (simp [*]; done), by repeat (first | exact Drawn0.refl _ | apply Drawn0.step)⟩
end Go.Proofs.Ytiimiogpiflkdaa.A
end

section
namespace Go.Proofs.Ytiimiogpiflkdaa.A
open Go.RowKit Go.Proofs.YtiimiogpiflkdaaW.PrintWords Go.Proofs.YtiimiogpiflkdaaW.PrintLast Go.Proofs.YtiimiogpiflkdaaW.PrintMore
attribute [local go_sem] max2_int min2_int max_two min_two max_three min_three max_four min_four   -- for this text's walks alone
set_option linter.unusedVariables false
set_option linter.unusedSimpArgs false

def fidx {α : Type} (p : α → Bool) (l : List α) : Int := match l.findIdx? p with
  | some i => (i : Int)
  | none => -1
theorem fidx_hit {α : Type} (p : α → Bool) (l : List α) (n : Nat) (h : n < l.length) (hp : p l[n] = true) (hb : ∀ (j : Nat) (hj : j < l.length), j < n → p l[j] = false) : fidx p l = n := by
  have : l.findIdx? p = some n := by
    rw [List.findIdx?_eq_some_iff_getElem]
    exact ⟨h, hp, fun j hj => by rw [hb j (by omega) hj]; simp⟩
  simp [fidx, this]
theorem fidx_miss {α : Type} (p : α → Bool) (l : List α) (hb : ∀ (j : Nat) (hj : j < l.length), p l[j] = false) : fidx p l = -1 := by
  have : l.findIdx? p = none := by
    rw [List.findIdx?_eq_none_iff]
    intro x hx
    obtain ⟨j, hj, rfl⟩ := List.mem_iff_getElem.1 hx
    exact hb j hj
  simp [fidx, this]
set_option maxHeartbeats 2000000 in
set_option maxRecDepth 100000 in
theorem IndexFuncTeam_calls (A0 : Option Addr) (c0 : Nat) (l0 : List S61) (p : S61 → Bool) (lb : Array Value) (g : Nat) (w : World)
    (eg : ∀ args w, (callFunc g args).run Try.prog w = .ok (.enter g args) w)
    (hp : ∀ (x : S61) (v5 : Value) (W : World), Below w.heap.size w W → Calls Try.prog g (#[.agg #[.int .i64 x.f0, .int .i64 x.f1, .int .i64 x.f2, .int .i64 x.f3, .int .i64 x.f4, v5]] ++ lb) W fun e w' => e = .returned (.bool (p x)) ∧ Below w.heap.size w w')
    (hr0 : Kd.C k61 w A0 l0.length l0) :
    Calls Try.prog 56 #[.slice A0 l0.length c0, .func (.func g) #[] lb] w fun e w' => e = .returned (.int .i64 (fidx p l0)) ∧ Below w.heap.size w w' := by
  have hu61 := Try.underlying61
  have HR0 := Aside0.mk hr0
  have HL := Aside0.mk hr0.2.1
  have HP := Aside0.mk hp
  clear hr0 hp
  go_enter Try.func56, Try.ntmps56
  go_wp2
  go_loopg [5, 8] l0.length (fun gg _ v8 w' => ∃ i : Int, v8 = .int .i64 i ∧ Aside0 (0 ≤ i ∧ i ≤ l0.length ∧ l0.length - i ≤ gg) ∧ Aside0 (Below w.heap.size w w') ∧ Aside0 (∀ (j : Nat) (hj : j < l0.length), (j : Int) < i → p l0[j] = false))
  case atStart => exact ⟨0, rfl, ⟨by omega⟩, ⟨Below.refl _ w⟩, ⟨fun j _ hj => by omega⟩⟩
  case round =>
    obtain ⟨i, rfl, HI, HB, HA⟩ := hrel
    by_cases hlt : i < (l0.length : Int)
    · have hltb : decide (i < (l0.length : Int)) = true := decide_eq_true hlt
      have h0 : 0 ≤ i := HI.out.1
      obtain ⟨ad, A5, c5, e0, x0, x1, x2, x3, x4, x5, _⟩ := at_T61 HR0.out i h0 hlt
      cases e0
      have HX := Aside0.mk (HP.out (rd_T61 l0 i) (.slice A5 (rd_T61 l0 i).f5.length c5) _ HB.out)
      have HE : Aside0 (∃ h : i.toNat < l0.length, rd_T61 l0 i = l0[i.toNat]) := ⟨⟨by omega, by simp [rd_T61, show i.toNat < l0.length by omega]⟩⟩
      replace x0 := (HB.out.cell (World.block_lt_of_cell? w _ x0)).trans x0
      replace x1 := (HB.out.cell (World.block_lt_of_cell? w _ x1)).trans x1
      replace x2 := (HB.out.cell (World.block_lt_of_cell? w _ x2)).trans x2
      replace x3 := (HB.out.cell (World.block_lt_of_cell? w _ x3)).trans x3
      replace x4 := (HB.out.cell (World.block_lt_of_cell? w _ x4)).trans x4
      replace x5 := (HB.out.cell (World.block_lt_of_cell? w _ x5)).trans x5
      replace h0 := eq_true h0
      replace hlt := eq_true hlt
      cases hq : p (rd_T61 l0 i) with
      | true =>
        have HQ2 : Aside0 (p (rd_T61 l0 i) = true) := ⟨hq⟩
        have hcall := HX.out
        rw [hq] at hcall
        clear hq
        go_wp2_with (go_at_fn g; refine hcall.mono ?_; rintro e w' ⟨rfl, hb'⟩)
        go_ret
        refine ⟨?_, hb'⟩
        obtain ⟨hj, he⟩ := HE.out
        have := HI.out
        have hQ := HQ2.out
        rw [he] at hQ
        rw [fidx_hit p l0 i.toNat hj hQ (fun j hj hl => HA.out j hj (by omega)), show ((i.toNat : Nat) : Int) = i by omega]; rfl
      | false =>
        have HQ2 : Aside0 (p (rd_T61 l0 i) = false) := ⟨hq⟩
        have hcall := HX.out
        rw [hq] at hcall
        clear hq
        have HW : Aside0 (wrap64 (i + 1) = i + 1) := ⟨by have := HL.out; have := HI.out; have := of_eq_true hlt; unfold wrap64; omega⟩
        have HLT : Aside0 (i < (l0.length : Int)) := ⟨of_eq_true hlt⟩
        go_wp2_with (go_at_fn g; refine hcall.mono ?_; rintro e w' ⟨rfl, hb'⟩)
        go_roundg (l0.length - (i.toNat + 1))
        case measure => have := HI.out; have := HLT.out; omega
        case rel =>
          refine ⟨i + 1, by rw [HW.out], ⟨by have := HI.out; have := HLT.out; omega⟩, ⟨hb'⟩, ⟨fun j hj hjn => ?_⟩⟩
          obtain ⟨hj2, he⟩ := HE.out
          by_cases e : (j : Int) = i
          · have hQ := HQ2.out
            rw [he] at hQ
            have : i.toNat = j := by omega
            subst this
            exact hQ
          · exact HA.out j hj (by omega)
    · have hltb : decide (i < (l0.length : Int)) = false := decide_eq_false hlt
      have HLT : Aside0 (¬ i < (l0.length : Int)) := ⟨hlt⟩
      clear hlt
      go_wp2
      go_ret
      exact ⟨by rw [fidx_miss p l0 (fun j hj => HA.out j hj (by have := HLT.out; omega))]; rfl, HB.out⟩
set_option maxHeartbeats 2000000 in
set_option maxRecDepth 100000 in
theorem FindTeam_pred (a1 : Int) (B : Nat) (w : World) (hB : B < w.heap.size) (hcell : w.cell? ⟨B, 0, none⟩ = some (.int .i64 a1)) (x : S61) (v5 : Value) (W : World) (hb : Below w.heap.size w W) :
    Calls Try.prog 57 (#[.agg #[.int .i64 x.f0, .int .i64 x.f1, .int .i64 x.f2, .int .i64 x.f3, .int .i64 x.f4, v5]] ++ #[.pointer (some ⟨B, 0, none⟩)]) W fun e w' => e = .returned (.bool (decide (x.f0 = a1))) ∧ Below w.heap.size w w' := by
  have hu61 := Try.underlying61
  have hc : W.cell? ⟨B, 0, none⟩ = some (.int .i64 a1) := (hb.cell (p := ⟨B, 0, none⟩) hB).trans hcell
  have hBW : B < W.heap.size := Nat.lt_of_lt_of_le hB hb.size
  have hne : B ≠ W.heap.size := by omega
  have HB := Aside0.mk hb
  clear hb hcell
  show Calls Try.prog 57 #[.agg #[.int .i64 x.f0, .int .i64 x.f1, .int .i64 x.f2, .int .i64 x.f3, .int .i64 x.f4, v5], .pointer (some ⟨B, 0, none⟩)] W _
  go_enter Try.func57, Try.ntmps57
  go_wp2
  all_goals (go_ret; exact ⟨by first | (simp_all; done) | (have e : (x.f0 == a1) = decide (x.f0 = a1) := Bool.eq_iff_iff.2 (by simp); simp_all), HB.out.alloc HB.out.size _⟩)
def impl_FindTeam.f (l0 : List (S61)) (a1 : Int) : Option (Int) := some (fidx (fun t => decide (t.f0 = a1)) l0)
set_option maxHeartbeats 2000000 in
set_option maxRecDepth 100000 in
theorem impl_FindTeam.calls (A0 : Option Addr) (c0 : Nat) (l0 : List (S61)) (a1 : Int) (r : Int) (w : World) (hr0 : Kd.C k61 w A0 l0.length l0) (hc0 : l0.length ≤ c0) (h : impl_FindTeam.f l0 a1 = some r) :
  Calls Try.prog 18 #[.slice A0 l0.length c0, .int .i64 a1] w fun e w' => e = .returned (.int .i64 r) ∧ Below w.heap.size w w' := by
 have eg : ∀ args w, (callFunc 57 args).run Try.prog w = .ok (.enter 57 args) w := enters_of Try.func57 (by kernel_rfl) rfl
 have hb0 : Below w.heap.size w (w.alloc (.cells #[.int .i64 a1] 3)) := (Below.refl _ w).alloc (Nat.le_refl _) _
 have hcon := IndexFuncTeam_calls A0 c0 l0 (fun t => decide (t.f0 = a1)) #[.pointer (some ⟨w.heap.size, 0, none⟩)] 57 (w.alloc (.cells #[.int .i64 a1] 3)) eg
  (fun x v5 W hW => FindTeam_pred a1 w.heap.size _ (by simp) (by simp) x v5 W hW) (Kd.C_below hr0 hb0)
 have HH : Aside0 (impl_FindTeam.f l0 a1 = some r) := ⟨h⟩
 have HB := Aside0.mk hb0
 clear h hr0 hb0 eg
 have e : fidx (fun t : S61 => decide (t.f0 = a1)) l0 = r := Option.some.inj HH.out
 rw [e] at hcon
 clear e HH
 go_enter Try.func18, Try.ntmps18
 go_wp2_with (go_at_call 56; refine hcon.mono ?_; rintro e w' ⟨rfl, hb'⟩)
 go_ret
 exact ⟨rfl, HB.out.trans (hb'.mono (by simp))⟩
end Go.Proofs.Ytiimiogpiflkdaa.A
end

section
namespace Go.Proofs.Ytiimiogpiflkdaa.A
open Go.RowKit Go.Proofs.YtiimiogpiflkdaaW.PrintWords Go.Proofs.YtiimiogpiflkdaaW.PrintLast Go.Proofs.YtiimiogpiflkdaaW.PrintMore
attribute [local go_sem] max2_int min2_int max_two min_two max_three min_three max_four min_four   -- for this text's walks alone
set_option linter.unusedVariables false
set_option linter.unusedSimpArgs false
def impl_InRange.f (a0 : Int) (a1 : Int) (a2 : Int) : Option (Bool) := if a1 ≤ a0 then (some (decide (a0 ≤ a2))) else (some false)
set_option maxHeartbeats 8000000 in
set_option maxRecDepth 100000 in
theorem impl_InRange.calls (a0 : Int) (a1 : Int) (a2 : Int) (r : Bool) (w : World) (h : impl_InRange.f a0 a1 a2 = some r) :
  Calls Try.prog 61 #[.int .i64 a0, .int .i64 a1, .int .i64 a2] w fun e w' => e = .returned (.bool r) ∧ Drawn0 w w' := by
 have H : (if a1 ≤ a0 then (some (decide (a0 ≤ a2))) else (some false)) = some r := h
 clear h
 by_cases c4 : a1 ≤ a0
 ·
  rw [if_pos c4] at H
  have c4b0 : decide (a1 ≤ a0) = true := decide_eq_true c4
  clear c4
  obtain rfl := Option.some.inj H
  go_enter Try.func61, Try.ntmps61
  go_wp2
  go_ret
  exact ⟨by first | rfl | (simp; done) | (simp [*]; done), by repeat (first | exact Drawn0.refl _ | apply Drawn0.step)⟩
 ·
  rw [if_neg c4] at H
  have c4b0 : decide (a1 ≤ a0) = false := decide_eq_false c4
  clear c4
  obtain rfl := Option.some.inj H
  go_enter Try.func61, Try.ntmps61
  go_wp2
  go_ret
  exact ⟨by first | rfl | (simp; done) | (simp [*]; done), by repeat (first | exact Drawn0.refl _ | apply Drawn0.step)⟩
end Go.Proofs.Ytiimiogpiflkdaa.A
end
