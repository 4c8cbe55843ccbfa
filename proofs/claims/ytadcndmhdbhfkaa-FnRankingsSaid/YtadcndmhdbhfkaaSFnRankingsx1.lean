/- What the row FnRankings rests on, put together: A129, A130, A131, A132, A133, A134, A135, A136, A137, LOpen, LRankD0, LRankQ, A59, A60, LRunO, LRank2I, LRank3I, LPointsI, A48, LDraw, LXFnRankings. No condition. -/
import Derived.Test.YtadcndmhdbhfkaaSFnRankingsx0
import Derived.Deep.Slices
import Derived.Deep.Fields
import Derived.ChangeSame
import Derived.Lib.SmallJoins
section
namespace Go.Proofs.Ytadcndmhdbhfkaa.A
open Go.RowKit Go.Proofs.YtadcndmhdbhfkaaW.PrintWords Go.Proofs.YtadcndmhdbhfkaaW.PrintLast Go.Proofs.YtadcndmhdbhfkaaW.PrintMore
attribute [local go_sem] max2_int min2_int max_two min_two max_three min_three max_four min_four   -- for this text's walks alone
set_option linter.unusedVariables false
set_option linter.unusedSimpArgs false
def spec_l17Any.l0 : Nat → Int → List (List Int) → Int → List Int → Int → Int → Option ((List (List Int)) × Int × Int × Int)
  | 0, _, _, _, _, _, _ => none
  | k + 1, x4, x5, x6, x1000, x1001, x1002 => if x6 > 0 then ((spec_l17Rank.f k x1000 x1001 x1002 x4).bind fun bt946 => (if x5.length < 5864062014805 then (spec_l17Any.l0 k x4 (x5 ++ [bt946.1]) (wrap64 (x6 - 1)) x1000 bt946.2.1 bt946.2.2) else (none))) else ((spec_l1Below.f x1000 x1001 x1002 10).bind fun bt954 => (if bt954.1 = 0 then ((spec_l1Int.f x1000 bt954.2.1 bt954.2.2 (([0, 8, 9, (-1)] : List Int))).bind fun bt960 => (some (x5, bt960.1, bt960.2.1, bt960.2.2))) else (if bt954.1 = 1 then (if x5.length < 5864062014805 then (some ((x5 ++ [(([0, 0] : List Int))]), x4, bt954.2.1, bt954.2.2)) else (none)) else (some (x5, x4, bt954.2.1, bt954.2.2)))))
def spec_l17Any.f (k : Nat) (s0_0 : List Int) (s0_1 : Int) (s0_2 : Int) : Option ((List (List Int)) × Int × Int × Int) := (spec_l1Below.f s0_0 s0_1 s0_2 5).bind fun bt937 => ((spec_l1Below.f s0_0 bt937.2.1 bt937.2.2 8).bind fun bt943 => (spec_l17Any.l0 k (wrap64 (1 + bt937.1)) (([] : List (List Int))) bt943.1 s0_0 bt943.2.1 bt943.2.2))
set_option maxHeartbeats 8000000 in
set_option maxRecDepth 100000 in
theorem spec_l17Any.calls (k : Nat) (g : Nat) (s0_0 : List Int) (s0_1 : Int) (s0_2 : Int) (r1 : List (List Int)) (r2 : Int) (r3 : Int) (r4 : Int) (w0 w : World) (hI : IsS105 w0 w g s0_0 s0_1 s0_2) (hB : Below w0.heap.size w0 w) (h : spec_l17Any.f k s0_0 s0_1 s0_2 = some (r1, r2, r3, r4)) :
  Calls Try.prog 104 #[.pointer (some ⟨g, 0, none⟩)] w fun e w' => ∃ v0_ : Value, e = .returned (.tuple #[v0_, .int .i64 r2]) ∧ Kd.S (Kd.slice 3 (Kd.int .i64)) 23 w' w.heap.size (fun _ => True) v0_ r1 ∧ IsS105 w0 w' g s0_0 r3 r4 ∧ Below w0.heap.size w0 w' ∧ KeepBut w w' g none := by
 have HI0 := Aside0.mk hI
 have HK := Aside0.mk (KeepBut.refl w g none)
 have HL := Aside0.mk hB.size
 clear hI
 have HW0 := Aside0.mk hB.size
 have HB := Aside0.mk hB
 clear hB
 have H : ((spec_l1Below.f s0_0 s0_1 s0_2 5).bind fun bt937 => ((spec_l1Below.f s0_0 bt937.2.1 bt937.2.2 8).bind fun bt943 => (spec_l17Any.l0 k (wrap64 (1 + bt937.1)) (([] : List (List Int))) bt943.1 s0_0 bt943.2.1 bt943.2.2))) = some (r1, r2, r3, r4) := h
 clear h
 replace H := Option.bind_eq_some_iff.mp H
 obtain ⟨⟨t937, t938, t939⟩, A20, H⟩ := H
 replace H : ((spec_l1Below.f s0_0 t938 t939 8).bind fun bt943 => (spec_l17Any.l0 k (wrap64 (1 + t937)) (([] : List (List Int))) bt943.1 s0_0 bt943.2.1 bt943.2.2)) = some (r1, r2, r3, r4) := H
 have A2 := Aside0.mk A20
 clear A20
 obtain ⟨y940, hy940⟩ : ∃ y_ : List (List Int), y_ = (([] : List (List Int))) := ⟨_, rfl⟩
 replace H : ((spec_l1Below.f s0_0 t938 t939 8).bind fun bt943 => (spec_l17Any.l0 k (wrap64 (1 + t937)) y940 bt943.1 s0_0 bt943.2.1 bt943.2.2)) = some (r1, r2, r3, r4) := by first | (rw [hy940]; with_reducible exact H) | (have H2_ := (Option.bind_some _ _).symm.trans H; rw [hy940]; with_reducible exact H2_) | (have H2_ := (Option.bind_some _ _).symm.trans H; with_reducible exact H2_) | with_reducible exact H | (rw [hy940]; exact H) | exact H
 have Ny940 := Aside0.mk hy940
 clear hy940
 replace H := Option.bind_eq_some_iff.mp H
 obtain ⟨⟨t943, t944, t945⟩, A30, H⟩ := H
 replace H : (spec_l17Any.l0 k (wrap64 (1 + t937)) y940 t943 s0_0 t944 t945) = some (r1, r2, r3, r4) := H
 have A3 := Aside0.mk A30
 clear A30
 have H' := Aside0.mk H
 clear H
 go_enter Try.func104, Try.ntmps104
 go_wp2_with (first | ((with_reducible refine gate_callee (f := 79) rfl ?_); refine goesL_ (some 8) rfl rfl Try.func79 (by kernel_rfl) rfl #[.pointer (some ⟨g, 0, none⟩), .int .i64 5] rfl (by (try simp only [List.map_toArray, List.map_cons, List.map_nil]); first | done | rfl | (simp only [List.length_drop, List.length_take]; rfl)) ?_; (with_reducible refine (spec_l1Below.calls g s0_0 s0_1 s0_2 5 t937 t938 t939 w0 _ ?side1 ?side2 A2.out).mono ?_); (case side1 => repeat (first | (with_reducible first | exact HI0.out | apply IsS105.alloc | apply IsS105.drewN | apply IsS105.drew | apply IsS105.set_1 | apply IsS105.set_2) | exact HI0.out)); (case side2 => repeat (first | (with_reducible first | exact HB.out | apply below_alloc | apply pw_below_drewN | apply below_drew1 | refine below_set ?_ (IsS105.ge HI0.out)) | exact HB.out)); rintro e w4 ⟨rfl, hi, hb, hk⟩; refine ⟨_, rfl, ?_⟩; have n0_ := Aside0.mk (KeepBut.trans (by repeat (first | (with_reducible first | exact HK.out | apply KeepBut.set_ | apply keep_drewN | apply keep_drew | apply keep_alloc) | exact HK.out)) hk (.inl rfl)); have n1_ := Aside0.mk (hb); have n2_ := Aside0.mk (hi); clear HK; clear HB; clear HI0; have HK := n0_; have HB := n1_; have HI0 := n2_; clear n0_ n1_ n2_; (try clear hb); (try clear hb2); (try clear hk); (try clear hi)) | ((with_reducible refine gate_dst (N := 10) rfl ?_); refine Kd.S_lit (Kd.slice 3 (Kd.int .i64)) _ 23 ?hg (N := 10) ?hd (xs := ([] : List (List Int))) (inner := []) (ok := fun _ => True) (okp := fun _ => True) ?hr ?hp (fun _ hk => hk) trivial (Below.refl _ _) (Nat.le_refl _) (by simp) ?_; (case hd => rfl); (case hg => rfl); (case hr => first | (go_simp; done) | (go_simp; rfl)); (case hp => exact (Reps.none _ _)); intro v941 w5 ho6 hb hg_ hnew_; clear hg_ hnew_; (first | rw [← Ny940.out] at ho6 | (simp only [Int.reduceToNat] at ho6; rw [← Ny940.out] at ho6)); have n0_ := Aside0.mk (Kd.S_lower ho6 (keep_size (w := w) (g := g) (row := none) (by repeat (first | (with_reducible first | exact HK.out | apply KeepBut.set_ | apply keep_drewN | apply keep_drew | apply keep_alloc) | exact HK.out)))); have n1_ := Aside0.mk (IsS105.below (by repeat (first | (with_reducible first | exact HI0.out | apply IsS105.alloc | apply IsS105.drewN | apply IsS105.drew | apply IsS105.set_1 | apply IsS105.set_2) | exact HI0.out)) hb); have n2_ := Aside0.mk (KeepBut.trans (by repeat (first | (with_reducible first | exact HK.out | apply KeepBut.set_ | apply keep_drewN | apply keep_drew | apply keep_alloc) | exact HK.out)) (KeepBut.of_below hb g none) (.inl rfl)); have n3_ := Aside0.mk (below_step (by repeat (first | (with_reducible first | exact HB.out | apply below_alloc | apply pw_below_drewN | apply below_drew1 | refine below_set ?_ (IsS105.ge HI0.out)) | exact HB.out)) hb); clear HI0; clear HK; clear HB; have HO942 := n0_; have HI0 := n1_; have HK := n2_; have HB := n3_; clear n0_ n1_ n2_ n3_; clear hb ho6) | ((with_reducible refine gate_callee (f := 79) rfl ?_); refine goesL_ (some 12) rfl rfl Try.func79 (by kernel_rfl) rfl #[.pointer (some ⟨g, 0, none⟩), .int .i64 8] rfl (by (try simp only [List.map_toArray, List.map_cons, List.map_nil]); first | done | rfl | (simp only [List.length_drop, List.length_take]; rfl)) ?_; (with_reducible refine (spec_l1Below.calls g s0_0 t938 t939 8 t943 t944 t945 w0 _ ?side1 ?side2 A3.out).mono ?_); (case side1 => repeat (first | (with_reducible first | exact HI0.out | apply IsS105.alloc | apply IsS105.drewN | apply IsS105.drew | apply IsS105.set_1 | apply IsS105.set_2) | exact HI0.out)); (case side2 => repeat (first | (with_reducible first | exact HB.out | apply below_alloc | apply pw_below_drewN | apply below_drew1 | refine below_set ?_ (IsS105.ge HI0.out)) | exact HB.out)); rintro e w7 ⟨rfl, hi, hb, hk⟩; refine ⟨_, rfl, ?_⟩; have n0_ := Aside0.mk (Kd.S_mono (Kd.S_keep (IsS105.apartS (show IsS105 w0 _ g s0_0 t938 t939 from by repeat (first | (with_reducible first | exact HI0.out | apply IsS105.alloc | apply IsS105.drewN | apply IsS105.drew | apply IsS105.set_1 | apply IsS105.set_2) | exact HI0.out)) (by (with_reducible repeat (first | apply Kd.S_alloc | apply Kd.S_drewN | apply Kd.S_drew)); exact HO942.out) (by decide)) hk (fun _ h => h.2)) (fun _ h => h.1)); have n1_ := Aside0.mk (KeepBut.trans (by repeat (first | (with_reducible first | exact HK.out | apply KeepBut.set_ | apply keep_drewN | apply keep_drew | apply keep_alloc) | exact HK.out)) hk (.inl rfl)); have n2_ := Aside0.mk (hb); have n3_ := Aside0.mk (hi); clear HO942; clear HK; clear HB; clear HI0; have HO942 := n0_; have HK := n1_; have HB := n2_; have HI0 := n3_; clear n0_ n1_ n2_ n3_; (try clear hb); (try clear hb2); (try clear hk); (try clear hi)))
 go_loopg [5, 6] k (fun kq v5 v6 w' => ∃ (x5_1 : List (List Int)) (x6_1 : Int) (x1001_1 : Int) (x1002_1 : Int), v6 = .int .i64 x6_1 ∧ Aside0 (spec_l17Any.l0 kq (wrap64 (1 + t937)) x5_1 x6_1 s0_0 x1001_1 x1002_1 = some (r1, r2, r3, r4)) ∧ Aside0 (kq ≤ k) ∧ Aside0 (Kd.S (Kd.slice 3 (Kd.int .i64)) 23 w' w.heap.size (fun _ => True) v5 x5_1) ∧ Aside0 (IsS105 w0 w' g s0_0 x1001_1 x1002_1) ∧ Aside0 (KeepBut w w' g none) ∧ Aside0 (Below w0.heap.size w0 w'))
 case atStart => exact ⟨(y940), (t943), (t944), (t945), (by first | rfl | (simp; done) | (simp [*]; done)), H', ⟨Nat.le_refl _⟩, ⟨by (with_reducible repeat (first | apply Kd.S_alloc | apply Kd.S_drewN | apply Kd.S_drew)); exact HO942.out⟩, ⟨by repeat (first | (with_reducible first | exact HI0.out | apply IsS105.alloc | apply IsS105.drewN | apply IsS105.drew | apply IsS105.set_1 | apply IsS105.set_2) | exact HI0.out)⟩, ⟨by repeat (first | (with_reducible first | exact HK.out | apply KeepBut.set_ | apply keep_drewN | apply keep_drew | apply keep_alloc) | exact HK.out)⟩, ⟨by repeat (first | (with_reducible first | exact HB.out | apply below_alloc | apply pw_below_drewN | apply below_drew1 | refine below_set ?_ (IsS105.ge HI0.out)) | exact HB.out)⟩⟩
 case round =>
  clear H'
  try clear c1
  try clear p2
  try clear p6
  try clear c7
  obtain ⟨x5_1, x6_1, x1001_1, x1002_1, rfl, HA, HK1, HO_5, HI0, HK, HB⟩ := hrel
  cases gk with
  | zero => exact absurd HA.out (by simp [spec_l17Any.l0])
  | succ k1 =>
   have H := HA.out
   clear HA
   simp only [spec_l17Any.l0] at H
   by_cases c8 : x6_1 > 0
   ·
    rw [if_pos c8] at H
    have c8b0 : decide (0 < x6_1) = true := decide_eq_true c8
    clear c8
    replace H := Option.bind_eq_some_iff.mp H
    obtain ⟨⟨t946, t949, t950⟩, A90, H⟩ := H
    replace H : (if x5_1.length < 5864062014805 then (spec_l17Any.l0 k1 (wrap64 (1 + t937)) (x5_1 ++ [t946]) (wrap64 (x6_1 - 1)) s0_0 t949 t950) else (none)) = some (r1, r2, r3, r4) := H
    have A9 := Aside0.mk A90
    clear A90
    by_cases c10 : x5_1.length < 5864062014805
    ·
     rw [if_pos c10] at H
     have LMc10 := Aside0.mk c10
     clear c10
     obtain ⟨y951, hy951⟩ : ∃ y_ : List (List Int), y_ = (x5_1 ++ [t946]) := ⟨_, rfl⟩
     replace H : (spec_l17Any.l0 k1 (wrap64 (1 + t937)) y951 (wrap64 (x6_1 - 1)) s0_0 t949 t950) = some (r1, r2, r3, r4) := by first | (rw [hy951]; with_reducible exact H) | (have H2_ := (Option.bind_some _ _).symm.trans H; rw [hy951]; with_reducible exact H2_) | (have H2_ := (Option.bind_some _ _).symm.trans H; with_reducible exact H2_) | with_reducible exact H | (rw [hy951]; exact H) | exact H
     have Ny951 := Aside0.mk hy951
     clear hy951
     have H' := Aside0.mk H
     clear H
     go_wp2_with (first | ((with_reducible refine gate_callee (f := 118) rfl ?_); refine goesL_ (some 20) rfl rfl Try.func118 (by kernel_rfl) rfl #[.pointer (some ⟨g, 0, none⟩), .int .i64 (wrap64 (1 + t937))] rfl (by (try simp only [List.map_toArray, List.map_cons, List.map_nil]); first | done | rfl | (simp only [List.length_drop, List.length_take]; rfl)) ?_; (with_reducible refine (spec_l17Rank.calls k1 g s0_0 x1001_1 x1002_1 (wrap64 (1 + t937)) t946 t949 t950 w0 _ ?side1 ?side2 A9.out).mono ?_); (case side1 => repeat (first | (with_reducible first | exact HI0.out | apply IsS105.alloc | apply IsS105.drewN | apply IsS105.drew | apply IsS105.set_1 | apply IsS105.set_2) | exact HI0.out)); (case side2 => repeat (first | (with_reducible first | exact HB.out | apply below_alloc | apply pw_below_drewN | apply below_drew1 | refine below_set ?_ (IsS105.ge HI0.out)) | exact HB.out)); rintro e w11 ⟨v947, rfl, ho0, hi, hb, hk⟩; refine ⟨_, rfl, ?_⟩; have n0_ := Aside0.mk (Kd.S_mono (Kd.S_told (Kd.S_oldK (IsS105.apartS (show IsS105 w0 _ g s0_0 x1001_1 x1002_1 from by repeat (first | (with_reducible first | exact HI0.out | apply IsS105.alloc | apply IsS105.drewN | apply IsS105.drew | apply IsS105.set_1 | apply IsS105.set_2) | exact HI0.out)) (by (with_reducible repeat (first | apply Kd.S_alloc | apply Kd.S_drewN | apply Kd.S_drew)); exact HO_5.out) (by decide)) hk) (Kd.R_base ho0)) (fun _ h_ => h_.1)); have n1_ := Aside0.mk (Kd.R_lower ho0 (keep_size (w := w) (g := g) (row := none) (by repeat (first | (with_reducible first | exact HK.out | apply KeepBut.set_ | apply keep_drewN | apply keep_drew | apply keep_alloc) | exact HK.out)))); have n2_ := Aside0.mk (KeepBut.trans (by repeat (first | (with_reducible first | exact HK.out | apply KeepBut.set_ | apply keep_drewN | apply keep_drew | apply keep_alloc) | exact HK.out)) hk (.inl rfl)); have n3_ := Aside0.mk (hb); have n4_ := Aside0.mk (hi); clear HO_5; clear HK; clear HB; clear HI0; have HO_5 := n0_; have HO948 := n1_; have HK := n2_; have HB := n3_; have HI0 := n4_; clear n0_ n1_ n2_ n3_ n4_; (try clear hb); (try clear hb2); (try clear hk); (try clear hi); (try clear ho0); obtain ⟨Ao13, co13, eo13⟩ := Kd.R_slice HO948.out; subst eo13) | ((with_reducible refine gate_builtin (b := .append) (xs := #[.tmp 17, .tmp 21]) rfl ?_); at_builtin; refine Kd.S_append (Kd.slice 3 (Kd.int .i64)) w.heap.size rfl (.tmp 17) (.tmp 21) 47 23 (.slice none 0 0) 24 rfl Try.underlying47 info23 rfl (by decide) (by omega) u5 x5_1 t946 [.slice Ao13 t946.length co13] (fun _ => True) (fun k_ => some k_ = (.slice Ao13 t946.length co13 : Value).ownBlock) rfl rfl ?aP (fun k_ hk_ => ((Kd.R_mono (ok' := fun k_ => ((fun _ => True)) k_ ∧ some k_ ≠ (u5 : Value).ownBlock) (Kd.R_apart' (HO948.out) (Kd.S_typed HO_5.out) (by decide)) (fun k_ hk => ⟨trivial, hk.2⟩))).1 k_ hk_.symm) ?aF ?aO (Below.refl _ _) ?aS ?aL ?_; (case aP => exact Kd.M_row (Kd.R_mono (Kd.R_tight rfl (Kd.R_mono (ok' := fun k_ => ((fun _ => True)) k_ ∧ some k_ ≠ (u5 : Value).ownBlock) (Kd.R_apart' (HO948.out) (Kd.S_typed HO_5.out) (by decide)) (fun k_ hk => ⟨trivial, hk.2⟩))) (fun _ h_ => h_))); (case aF => exact (fun _ _ => trivial)); (case aO => exact (by (with_reducible repeat (first | apply Kd.S_alloc | apply Kd.S_drewN | apply Kd.S_drew)); exact Kd.S_mono HO_5.out (fun k_ hk => ⟨trivial, fun e_ => hk.2 e_⟩))); (case aS => exact (keep_size (w := w) (g := g) (row := none) (by repeat (first | (with_reducible first | exact HK.out | apply KeepBut.set_ | apply keep_drewN | apply keep_drew | apply keep_alloc) | exact HK.out)))); (case aL => have := LMc10.out; omega); intro v952 w12 ho hb hg hat; rw [← Ny951.out] at ho; have n0_ := Aside0.mk (IsS105.grown (by repeat (first | (with_reducible first | exact HI0.out | apply IsS105.alloc | apply IsS105.drewN | apply IsS105.drew | apply IsS105.set_1 | apply IsS105.set_2) | exact HI0.out)) hg (IsS105.own_neS HI0.out HO_5.out (by decide))); have n1_ := Aside0.mk (below_weaken (by repeat (first | (with_reducible first | exact HB.out | apply below_alloc | apply pw_below_drewN | apply below_drew1 | refine below_set ?_ (IsS105.ge HI0.out)) | exact HB.out)) HL.out hb); have n2_ := Aside0.mk (KeepBut.trans (by repeat (first | (with_reducible first | exact HK.out | apply KeepBut.set_ | apply keep_drewN | apply keep_drew | apply keep_alloc) | exact HK.out)) (KeepBut.of_grown hg g) (Kd.S_base2 HO_5.out)); have n3_ := Aside0.mk (ho); clear HI0; clear HB; clear HK; clear HO_5; clear HO948; have HI0 := n0_; have HB := n1_; have HK := n2_; have HO953 := n3_; clear n0_ n1_ n2_ n3_; clear ho hb hg hat))
     go_roundg k1
     case measure => have := HK1.out; omega
     case rel => exact ⟨(y951), (wrap64 (x6_1 - 1)), (t949), (t950), (by first | rfl | (simp; done) | (simp [*]; done)), H', ⟨by have := HK1.out; omega⟩, ⟨by (with_reducible repeat (first | apply Kd.S_alloc | apply Kd.S_drewN | apply Kd.S_drew)); exact HO953.out⟩, ⟨by repeat (first | (with_reducible first | exact HI0.out | apply IsS105.alloc | apply IsS105.drewN | apply IsS105.drew | apply IsS105.set_1 | apply IsS105.set_2) | exact HI0.out)⟩, ⟨by repeat (first | (with_reducible first | exact HK.out | apply KeepBut.set_ | apply keep_drewN | apply keep_drew | apply keep_alloc) | exact HK.out)⟩, ⟨by repeat (first | (with_reducible first | exact HB.out | apply below_alloc | apply pw_below_drewN | apply below_drew1 | refine below_set ?_ (IsS105.ge HI0.out)) | exact HB.out)⟩⟩
    ·
     rw [if_neg c10] at H
     exact absurd H (by simp)
   ·
    rw [if_neg c8] at H
    have c8b0 : decide (0 < x6_1) = false := decide_eq_false c8
    clear c8
    replace H := Option.bind_eq_some_iff.mp H
    obtain ⟨⟨t954, t955, t956⟩, A140, H⟩ := H
    replace H : (if t954 = 0 then ((spec_l1Int.f s0_0 t955 t956 (([0, 8, 9, (-1)] : List Int))).bind fun bt960 => (some (x5_1, bt960.1, bt960.2.1, bt960.2.2))) else (if t954 = 1 then (if x5_1.length < 5864062014805 then (some ((x5_1 ++ [(([0, 0] : List Int))]), (wrap64 (1 + t937)), t955, t956)) else (none)) else (some (x5_1, (wrap64 (1 + t937)), t955, t956)))) = some (r1, r2, r3, r4) := H
    have A14 := Aside0.mk A140
    clear A140
    by_cases c15 : t954 = 0
    ·
     rw [if_pos c15] at H
     have c15b0 : (t954 == 0) = true := beq_iff_eq.mpr c15
     have c15b1 : (t954 != 0) = false := bne_eq_false_iff_eq.mpr c15
     clear c15
     obtain ⟨y957, hy957⟩ : ∃ y_ : List Int, y_ = (([0, 8, 9, (-1)] : List Int)) := ⟨_, rfl⟩
     replace H : ((spec_l1Int.f s0_0 t955 t956 y957).bind fun bt960 => (some (x5_1, bt960.1, bt960.2.1, bt960.2.2))) = some (r1, r2, r3, r4) := by first | (rw [hy957]; with_reducible exact H) | (have H2_ := (Option.bind_some _ _).symm.trans H; rw [hy957]; with_reducible exact H2_) | (have H2_ := (Option.bind_some _ _).symm.trans H; with_reducible exact H2_) | with_reducible exact H | (rw [hy957]; exact H) | exact H
     have Ny957 := Aside0.mk hy957
     clear hy957
     replace H := Option.bind_eq_some_iff.mp H
     obtain ⟨⟨t960, t961, t962⟩, A160, H⟩ := H
     replace H : (some (x5_1, t960, t961, t962)) = some (r1, r2, r3, r4) := H
     have A16 := Aside0.mk A160
     clear A160
     simp only [Option.some.injEq, Prod.mk.injEq] at H
     obtain ⟨rfl, rfl, rfl, rfl⟩ := H
     go_wp2_with (first | ((with_reducible refine gate_callee (f := 79) rfl ?_); refine goesL_ (some 24) rfl rfl Try.func79 (by kernel_rfl) rfl #[.pointer (some ⟨g, 0, none⟩), .int .i64 10] rfl (by (try simp only [List.map_toArray, List.map_cons, List.map_nil]); first | done | rfl | (simp only [List.length_drop, List.length_take]; rfl)) ?_; (with_reducible refine (spec_l1Below.calls g s0_0 x1001_1 x1002_1 10 t954 t955 t956 w0 _ ?side1 ?side2 A14.out).mono ?_); (case side1 => repeat (first | (with_reducible first | exact HI0.out | apply IsS105.alloc | apply IsS105.drewN | apply IsS105.drew | apply IsS105.set_1 | apply IsS105.set_2) | exact HI0.out)); (case side2 => repeat (first | (with_reducible first | exact HB.out | apply below_alloc | apply pw_below_drewN | apply below_drew1 | refine below_set ?_ (IsS105.ge HI0.out)) | exact HB.out)); rintro e w17 ⟨rfl, hi, hb, hk⟩; refine ⟨_, rfl, ?_⟩; have n0_ := Aside0.mk (Kd.S_mono (Kd.S_keep (IsS105.apartS (show IsS105 w0 _ g s0_0 x1001_1 x1002_1 from by repeat (first | (with_reducible first | exact HI0.out | apply IsS105.alloc | apply IsS105.drewN | apply IsS105.drew | apply IsS105.set_1 | apply IsS105.set_2) | exact HI0.out)) (by (with_reducible repeat (first | apply Kd.S_alloc | apply Kd.S_drewN | apply Kd.S_drew)); exact HO_5.out) (by decide)) hk (fun _ h => h.2)) (fun _ h => h.1)); have n1_ := Aside0.mk (KeepBut.trans (by repeat (first | (with_reducible first | exact HK.out | apply KeepBut.set_ | apply keep_drewN | apply keep_drew | apply keep_alloc) | exact HK.out)) hk (.inl rfl)); have n2_ := Aside0.mk (hb); have n3_ := Aside0.mk (hi); clear HO_5; clear HK; clear HB; clear HI0; have HO_5 := n0_; have HK := n1_; have HB := n2_; have HI0 := n3_; clear n0_ n1_ n2_ n3_; (try clear hb); (try clear hb2); (try clear hk); (try clear hi)) | ((with_reducible refine gate_dst (N := 28) rfl ?_); refine Kd.R_lit (Kd.int .i64) _ 3 ?hg (N := 28) ?hd (xs := ([0, 8, 9, (-1)] : List Int)) (inner := [.int .i64 0, .int .i64 8, .int .i64 9, .int .i64 (-1)]) (ok := fun _ => True) (okp := fun _ => True) ?hr ?hp (fun _ hk => hk) trivial (Below.refl _ _) (Nat.le_refl _) (by simp) ?_; (case hd => rfl); (case hg => rfl); (case hr => first | (go_simp; done) | (go_simp; rfl)); (case hp => exact (Reps.one (show Kd.M (Kd.int .i64) _ _ _ 0 [.int .i64 0] from rfl) (Reps.one (show Kd.M (Kd.int .i64) _ _ _ 8 [.int .i64 8] from rfl) (Reps.one (show Kd.M (Kd.int .i64) _ _ _ 9 [.int .i64 9] from rfl) (Reps.one (show Kd.M (Kd.int .i64) _ _ _ (-1) [.int .i64 (-1)] from rfl) (Reps.none _ _)))))); intro v958 w18 ho19 hb hg_ hnew_; clear hg_ hnew_; (first | rw [← Ny957.out] at ho19 | (simp only [Int.reduceToNat] at ho19; rw [← Ny957.out] at ho19)); have n0_ := Aside0.mk (Kd.S_elder' (by (with_reducible repeat (first | apply Kd.S_alloc | apply Kd.S_drewN | apply Kd.S_drew)); exact HO_5.out) (Kd.R_base ho19) hb); have n1_ := Aside0.mk (Kd.R_lower ho19 (keep_size (w := w) (g := g) (row := none) (by repeat (first | (with_reducible first | exact HK.out | apply KeepBut.set_ | apply keep_drewN | apply keep_drew | apply keep_alloc) | exact HK.out)))); have n2_ := Aside0.mk (IsS105.below (by repeat (first | (with_reducible first | exact HI0.out | apply IsS105.alloc | apply IsS105.drewN | apply IsS105.drew | apply IsS105.set_1 | apply IsS105.set_2) | exact HI0.out)) hb); have n3_ := Aside0.mk (KeepBut.trans (by repeat (first | (with_reducible first | exact HK.out | apply KeepBut.set_ | apply keep_drewN | apply keep_drew | apply keep_alloc) | exact HK.out)) (KeepBut.of_below hb g none) (.inl rfl)); have n4_ := Aside0.mk (below_step (by repeat (first | (with_reducible first | exact HB.out | apply below_alloc | apply pw_below_drewN | apply below_drew1 | refine below_set ?_ (IsS105.ge HI0.out)) | exact HB.out)) hb); clear HO_5; clear HI0; clear HK; clear HB; have HO_5 := n0_; have HO959 := n1_; have HI0 := n2_; have HK := n3_; have HB := n4_; clear n0_ n1_ n2_ n3_ n4_; clear hb ho19; obtain ⟨Ao20, co20, eo20⟩ := Kd.R_slice HO959.out; subst eo20) | ((with_reducible refine gate_callee (f := 110) rfl ?_); refine goesL_ (some 29) rfl rfl Try.func110 (by kernel_rfl) rfl #[.pointer (some ⟨g, 0, none⟩), .slice Ao20 y957.length co20] rfl (by (try simp only [List.map_toArray, List.map_cons, List.map_nil]); first | done | rfl | (simp only [List.length_drop, List.length_take]; rfl)) ?_; (with_reducible refine (spec_l1Int.calls g s0_0 t955 t956 _ _ y957 t960 t961 t962 w0 _ ?side1 ?side2 ?side3 ?side4 ?side5 A16.out).mono ?_); (case side1 => repeat (first | (with_reducible first | exact HI0.out | apply IsS105.alloc | apply IsS105.drewN | apply IsS105.drew | apply IsS105.set_1 | apply IsS105.set_2) | exact HI0.out)); (case side2 => repeat (first | (with_reducible first | exact HB.out | apply below_alloc | apply pw_below_drewN | apply below_drew1 | refine below_set ?_ (IsS105.ge HI0.out)) | exact HB.out)); (case side3 => repeat (first | exact (Kd.R_reads' HO959.out).2.2 | (with_reducible refine Kd.C_alloc ?_ _) | (with_reducible refine Kd.C_drewN ?_ _) | (with_reducible refine Kd.C_drew ?_))); (case side4 => exact (Kd.R_reads' HO959.out).2.1); (case side5 => exact far_slice (IsS105.own_ne HI0.out HO959.out (by decide))); rintro e w21 ⟨rfl, hi, hb, hk⟩; refine ⟨_, rfl, ?_⟩; have n0_ := Aside0.mk (Kd.S_mono (Kd.S_keep (IsS105.apartS (show IsS105 w0 _ g s0_0 t955 t956 from by repeat (first | (with_reducible first | exact HI0.out | apply IsS105.alloc | apply IsS105.drewN | apply IsS105.drew | apply IsS105.set_1 | apply IsS105.set_2) | exact HI0.out)) (by (with_reducible repeat (first | apply Kd.S_alloc | apply Kd.S_drewN | apply Kd.S_drew)); exact HO_5.out) (by decide)) hk (fun _ h => h.2)) (fun _ h => h.1)); have n1_ := Aside0.mk (Kd.R_mono (Kd.R_keep (IsS105.apart (show IsS105 w0 _ g s0_0 t955 t956 from by repeat (first | (with_reducible first | exact HI0.out | apply IsS105.alloc | apply IsS105.drewN | apply IsS105.drew | apply IsS105.set_1 | apply IsS105.set_2) | exact HI0.out)) (by (with_reducible repeat (first | apply Kd.R_alloc | apply Kd.R_drewN | apply Kd.R_drew)); exact HO959.out) (by decide)) hk (fun _ h => h.2)) (fun _ h => h.1)); have n2_ := Aside0.mk (KeepBut.trans (by repeat (first | (with_reducible first | exact HK.out | apply KeepBut.set_ | apply keep_drewN | apply keep_drew | apply keep_alloc) | exact HK.out)) hk (.inl rfl)); have n3_ := Aside0.mk (hb); have n4_ := Aside0.mk (hi); clear HO_5; clear HO959; clear HK; clear HB; clear HI0; have HO_5 := n0_; have HO959 := n1_; have HK := n2_; have HB := n3_; have HI0 := n4_; clear n0_ n1_ n2_ n3_ n4_; (try clear hb); (try clear hb2); (try clear hk); (try clear hi)))
     go_ret2
     exact ⟨_, by first | rfl | (simp [errW_none, errW_some] <;> rfl) | (simp [*, errW_none, errW_some] <;> rfl), by (with_reducible repeat (first | apply Kd.S_alloc | apply Kd.S_drewN | apply Kd.S_drew)); exact Kd.S_mono HO_5.out (fun _ hk => trivial), by repeat (first | (with_reducible first | exact HI0.out | apply IsS105.alloc | apply IsS105.drewN | apply IsS105.drew | apply IsS105.set_1 | apply IsS105.set_2) | exact HI0.out), by repeat (first | (with_reducible first | exact HB.out | apply below_alloc | apply pw_below_drewN | apply below_drew1 | refine below_set ?_ (IsS105.ge HI0.out)) | exact HB.out), by repeat (first | (with_reducible first | exact HK.out | apply KeepBut.set_ | apply keep_drewN | apply keep_drew | apply keep_alloc) | exact HK.out)⟩
    ·
     rw [if_neg c15] at H
     have c15b0 : (t954 == 0) = false := beq_eq_false_iff_ne.mpr c15
     have c15b1 : (t954 != 0) = true := bne_iff_ne.mpr c15
     by_cases c22 : t954 = 1
     ·
      rw [if_pos c22] at H
      have c22b0 : (t954 == 1) = true := beq_iff_eq.mpr c22
      have c22b1 : (t954 != 1) = false := bne_eq_false_iff_eq.mpr c22
      clear c22
      obtain ⟨y963, hy963⟩ : ∃ y_ : List Int, y_ = (([0, 0] : List Int)) := ⟨_, rfl⟩
      replace H : (if x5_1.length < 5864062014805 then (some ((x5_1 ++ [y963]), (wrap64 (1 + t937)), t955, t956)) else (none)) = some (r1, r2, r3, r4) := by first | (rw [hy963]; with_reducible exact H) | (have H2_ := (Option.bind_some _ _).symm.trans H; rw [hy963]; with_reducible exact H2_) | (have H2_ := (Option.bind_some _ _).symm.trans H; with_reducible exact H2_) | with_reducible exact H | (rw [hy963]; exact H) | exact H
      have Ny963 := Aside0.mk hy963
      clear hy963
      by_cases c23 : x5_1.length < 5864062014805
      ·
       rw [if_pos c23] at H
       have LMc23 := Aside0.mk c23
       clear c23
       obtain ⟨y966, hy966⟩ : ∃ y_ : List (List Int), y_ = (x5_1 ++ [y963]) := ⟨_, rfl⟩
       replace H : (some (y966, (wrap64 (1 + t937)), t955, t956)) = some (r1, r2, r3, r4) := by first | (rw [hy966]; with_reducible exact H) | (have H2_ := (Option.bind_some _ _).symm.trans H; rw [hy966]; with_reducible exact H2_) | (have H2_ := (Option.bind_some _ _).symm.trans H; with_reducible exact H2_) | with_reducible exact H | (rw [hy966]; exact H) | exact H
       have Ny966 := Aside0.mk hy966
       clear hy966
       simp only [Option.some.injEq, Prod.mk.injEq] at H
       obtain ⟨rfl, rfl, rfl, rfl⟩ := H
       go_wp2_with (first | ((with_reducible refine gate_callee (f := 79) rfl ?_); refine goesL_ (some 24) rfl rfl Try.func79 (by kernel_rfl) rfl #[.pointer (some ⟨g, 0, none⟩), .int .i64 10] rfl (by (try simp only [List.map_toArray, List.map_cons, List.map_nil]); first | done | rfl | (simp only [List.length_drop, List.length_take]; rfl)) ?_; (with_reducible refine (spec_l1Below.calls g s0_0 x1001_1 x1002_1 10 t954 t955 t956 w0 _ ?side1 ?side2 A14.out).mono ?_); (case side1 => repeat (first | (with_reducible first | exact HI0.out | apply IsS105.alloc | apply IsS105.drewN | apply IsS105.drew | apply IsS105.set_1 | apply IsS105.set_2) | exact HI0.out)); (case side2 => repeat (first | (with_reducible first | exact HB.out | apply below_alloc | apply pw_below_drewN | apply below_drew1 | refine below_set ?_ (IsS105.ge HI0.out)) | exact HB.out)); rintro e w24 ⟨rfl, hi, hb, hk⟩; refine ⟨_, rfl, ?_⟩; have n0_ := Aside0.mk (Kd.S_mono (Kd.S_keep (IsS105.apartS (show IsS105 w0 _ g s0_0 x1001_1 x1002_1 from by repeat (first | (with_reducible first | exact HI0.out | apply IsS105.alloc | apply IsS105.drewN | apply IsS105.drew | apply IsS105.set_1 | apply IsS105.set_2) | exact HI0.out)) (by (with_reducible repeat (first | apply Kd.S_alloc | apply Kd.S_drewN | apply Kd.S_drew)); exact HO_5.out) (by decide)) hk (fun _ h => h.2)) (fun _ h => h.1)); have n1_ := Aside0.mk (KeepBut.trans (by repeat (first | (with_reducible first | exact HK.out | apply KeepBut.set_ | apply keep_drewN | apply keep_drew | apply keep_alloc) | exact HK.out)) hk (.inl rfl)); have n2_ := Aside0.mk (hb); have n3_ := Aside0.mk (hi); clear HO_5; clear HK; clear HB; clear HI0; have HO_5 := n0_; have HK := n1_; have HB := n2_; have HI0 := n3_; clear n0_ n1_ n2_ n3_; (try clear hb); (try clear hb2); (try clear hk); (try clear hi)) | ((with_reducible refine gate_dst (N := 33) rfl ?_); refine Kd.R_lit (Kd.int .i64) _ 3 ?hg (N := 33) ?hd (xs := ([0, 0] : List Int)) (inner := [.int .i64 0, .int .i64 0]) (ok := fun _ => True) (okp := fun _ => True) ?hr ?hp (fun _ hk => hk) trivial (Below.refl _ _) (Nat.le_refl _) (by simp) ?_; (case hd => rfl); (case hg => rfl); (case hr => first | (go_simp; done) | (go_simp; rfl)); (case hp => exact (Reps.one (show Kd.M (Kd.int .i64) _ _ _ 0 [.int .i64 0] from rfl) (Reps.one (show Kd.M (Kd.int .i64) _ _ _ 0 [.int .i64 0] from rfl) (Reps.none _ _)))); intro v964 w25 ho26 hb hg_ hnew_; clear hg_ hnew_; (first | rw [← Ny963.out] at ho26 | (simp only [Int.reduceToNat] at ho26; rw [← Ny963.out] at ho26)); have n0_ := Aside0.mk (Kd.S_elder' (by (with_reducible repeat (first | apply Kd.S_alloc | apply Kd.S_drewN | apply Kd.S_drew)); exact HO_5.out) (Kd.R_base ho26) hb); have n1_ := Aside0.mk (Kd.R_lower ho26 (keep_size (w := w) (g := g) (row := none) (by repeat (first | (with_reducible first | exact HK.out | apply KeepBut.set_ | apply keep_drewN | apply keep_drew | apply keep_alloc) | exact HK.out)))); have n2_ := Aside0.mk (IsS105.below (by repeat (first | (with_reducible first | exact HI0.out | apply IsS105.alloc | apply IsS105.drewN | apply IsS105.drew | apply IsS105.set_1 | apply IsS105.set_2) | exact HI0.out)) hb); have n3_ := Aside0.mk (KeepBut.trans (by repeat (first | (with_reducible first | exact HK.out | apply KeepBut.set_ | apply keep_drewN | apply keep_drew | apply keep_alloc) | exact HK.out)) (KeepBut.of_below hb g none) (.inl rfl)); have n4_ := Aside0.mk (below_step (by repeat (first | (with_reducible first | exact HB.out | apply below_alloc | apply pw_below_drewN | apply below_drew1 | refine below_set ?_ (IsS105.ge HI0.out)) | exact HB.out)) hb); clear HO_5; clear HI0; clear HK; clear HB; have HO_5 := n0_; have HO965 := n1_; have HI0 := n2_; have HK := n3_; have HB := n4_; clear n0_ n1_ n2_ n3_ n4_; clear hb ho26; obtain ⟨Ao28, co28, eo28⟩ := Kd.R_slice HO965.out; subst eo28) | ((with_reducible refine gate_builtin (b := .append) (xs := #[.tmp 32, .tmp 34]) rfl ?_); at_builtin; refine Kd.S_append (Kd.slice 3 (Kd.int .i64)) w.heap.size rfl (.tmp 32) (.tmp 34) 47 23 (.slice none 0 0) 24 rfl Try.underlying47 info23 rfl (by decide) (by omega) u5 x5_1 y963 [.slice Ao28 y963.length co28] (fun _ => True) (fun k_ => some k_ = (.slice Ao28 y963.length co28 : Value).ownBlock) rfl rfl ?aP (fun k_ hk_ => ((Kd.R_mono (ok' := fun k_ => ((fun _ => True)) k_ ∧ some k_ ≠ (u5 : Value).ownBlock) (Kd.R_apart' (HO965.out) (Kd.S_typed HO_5.out) (by decide)) (fun k_ hk => ⟨trivial, hk.2⟩))).1 k_ hk_.symm) ?aF ?aO (Below.refl _ _) ?aS ?aL ?_; (case aP => exact Kd.M_row (Kd.R_mono (Kd.R_tight rfl (Kd.R_mono (ok' := fun k_ => ((fun _ => True)) k_ ∧ some k_ ≠ (u5 : Value).ownBlock) (Kd.R_apart' (HO965.out) (Kd.S_typed HO_5.out) (by decide)) (fun k_ hk => ⟨trivial, hk.2⟩))) (fun _ h_ => h_))); (case aF => exact (fun _ _ => trivial)); (case aO => exact (by (with_reducible repeat (first | apply Kd.S_alloc | apply Kd.S_drewN | apply Kd.S_drew)); exact Kd.S_mono HO_5.out (fun k_ hk => ⟨trivial, fun e_ => hk.2 e_⟩))); (case aS => exact (keep_size (w := w) (g := g) (row := none) (by repeat (first | (with_reducible first | exact HK.out | apply KeepBut.set_ | apply keep_drewN | apply keep_drew | apply keep_alloc) | exact HK.out)))); (case aL => have := LMc23.out; omega); intro v967 w27 ho hb hg hat; rw [← Ny966.out] at ho; have n0_ := Aside0.mk (IsS105.grown (by repeat (first | (with_reducible first | exact HI0.out | apply IsS105.alloc | apply IsS105.drewN | apply IsS105.drew | apply IsS105.set_1 | apply IsS105.set_2) | exact HI0.out)) hg (IsS105.own_neS HI0.out HO_5.out (by decide))); have n1_ := Aside0.mk (below_weaken (by repeat (first | (with_reducible first | exact HB.out | apply below_alloc | apply pw_below_drewN | apply below_drew1 | refine below_set ?_ (IsS105.ge HI0.out)) | exact HB.out)) HL.out hb); have n2_ := Aside0.mk (KeepBut.trans (by repeat (first | (with_reducible first | exact HK.out | apply KeepBut.set_ | apply keep_drewN | apply keep_drew | apply keep_alloc) | exact HK.out)) (KeepBut.of_grown hg g) (Kd.S_base2 HO_5.out)); have n3_ := Aside0.mk (ho); clear HI0; clear HB; clear HK; clear HO_5; clear HO965; have HI0 := n0_; have HB := n1_; have HK := n2_; have HO968 := n3_; clear n0_ n1_ n2_ n3_; clear ho hb hg hat))
       go_ret2
       exact ⟨_, by first | rfl | (simp [errW_none, errW_some] <;> rfl) | (simp [*, errW_none, errW_some] <;> rfl), by (with_reducible repeat (first | apply Kd.S_alloc | apply Kd.S_drewN | apply Kd.S_drew)); exact HO968.out, by repeat (first | (with_reducible first | exact HI0.out | apply IsS105.alloc | apply IsS105.drewN | apply IsS105.drew | apply IsS105.set_1 | apply IsS105.set_2) | exact HI0.out), by repeat (first | (with_reducible first | exact HB.out | apply below_alloc | apply pw_below_drewN | apply below_drew1 | refine below_set ?_ (IsS105.ge HI0.out)) | exact HB.out), by repeat (first | (with_reducible first | exact HK.out | apply KeepBut.set_ | apply keep_drewN | apply keep_drew | apply keep_alloc) | exact HK.out)⟩
      ·
       rw [if_neg c23] at H
       exact absurd H (by simp)
     ·
      rw [if_neg c22] at H
      have c22b0 : (t954 == 1) = false := beq_eq_false_iff_ne.mpr c22
      have c22b1 : (t954 != 1) = true := bne_iff_ne.mpr c22
      simp only [Option.some.injEq, Prod.mk.injEq] at H
      obtain ⟨rfl, rfl, rfl, rfl⟩ := H
      go_wp2_with (first | ((with_reducible refine gate_callee (f := 79) rfl ?_); refine goesL_ (some 24) rfl rfl Try.func79 (by kernel_rfl) rfl #[.pointer (some ⟨g, 0, none⟩), .int .i64 10] rfl (by (try simp only [List.map_toArray, List.map_cons, List.map_nil]); first | done | rfl | (simp only [List.length_drop, List.length_take]; rfl)) ?_; (with_reducible refine (spec_l1Below.calls g s0_0 x1001_1 x1002_1 10 t954 t955 t956 w0 _ ?side1 ?side2 A14.out).mono ?_); (case side1 => repeat (first | (with_reducible first | exact HI0.out | apply IsS105.alloc | apply IsS105.drewN | apply IsS105.drew | apply IsS105.set_1 | apply IsS105.set_2) | exact HI0.out)); (case side2 => repeat (first | (with_reducible first | exact HB.out | apply below_alloc | apply pw_below_drewN | apply below_drew1 | refine below_set ?_ (IsS105.ge HI0.out)) | exact HB.out)); rintro e w29 ⟨rfl, hi, hb, hk⟩; refine ⟨_, rfl, ?_⟩; have n0_ := Aside0.mk (Kd.S_mono (Kd.S_keep (IsS105.apartS (show IsS105 w0 _ g s0_0 x1001_1 x1002_1 from by repeat (first | (with_reducible first | exact HI0.out | apply IsS105.alloc | apply IsS105.drewN | apply IsS105.drew | apply IsS105.set_1 | apply IsS105.set_2) | exact HI0.out)) (by (with_reducible repeat (first | apply Kd.S_alloc | apply Kd.S_drewN | apply Kd.S_drew)); exact HO_5.out) (by decide)) hk (fun _ h => h.2)) (fun _ h => h.1)); have n1_ := Aside0.mk (KeepBut.trans (by repeat (first | (with_reducible first | exact HK.out | apply KeepBut.set_ | apply keep_drewN | apply keep_drew | apply keep_alloc) | exact HK.out)) hk (.inl rfl)); have n2_ := Aside0.mk (hb); have n3_ := Aside0.mk (hi); clear HO_5; clear HK; clear HB; clear HI0; have HO_5 := n0_; have HK := n1_; have HB := n2_; have HI0 := n3_; clear n0_ n1_ n2_ n3_; (try clear hb); (try clear hb2); (try clear hk); (try clear hi)))
      go_ret2
      exact ⟨_, by first | rfl | (simp [errW_none, errW_some] <;> rfl) | (simp [*, errW_none, errW_some] <;> rfl), by (with_reducible repeat (first | apply Kd.S_alloc | apply Kd.S_drewN | apply Kd.S_drew)); exact HO_5.out, by repeat (first | (with_reducible first | exact HI0.out | apply IsS105.alloc | apply IsS105.drewN | apply IsS105.drew | apply IsS105.set_1 | apply IsS105.set_2) | exact HI0.out), by repeat (first | (with_reducible first | exact HB.out | apply below_alloc | apply pw_below_drewN | apply below_drew1 | refine below_set ?_ (IsS105.ge HI0.out)) | exact HB.out), by repeat (first | (with_reducible first | exact HK.out | apply KeepBut.set_ | apply keep_drewN | apply keep_drew | apply keep_alloc) | exact HK.out)⟩
end Go.Proofs.Ytadcndmhdbhfkaa.A
end

section
namespace Go.Proofs.Ytadcndmhdbhfkaa.A
open Go.RowKit Go.Proofs.YtadcndmhdbhfkaaW.PrintWords Go.Proofs.YtadcndmhdbhfkaaW.PrintLast Go.Proofs.YtadcndmhdbhfkaaW.PrintMore
attribute [local go_sem] max2_int min2_int max_two min_two max_three min_three max_four min_four   -- for this text's walks alone
set_option linter.unusedVariables false
set_option linter.unusedSimpArgs false
def spec_DrawAreRankings.f (k : Nat) (l0 : List Int) : Option ((List (List Int)) × Int) := (spec_l1New.f k l0).bind fun bt969 => ((spec_l17Any.f k bt969.1 bt969.2.1 bt969.2.2).bind fun bt973 => (some (bt973.1, bt973.2.1)))
set_option maxHeartbeats 8000000 in
set_option maxRecDepth 100000 in
theorem spec_DrawAreRankings.calls (k : Nat) (A0 : Option Addr) (c0 : Nat) (l0 : List Int) (r1 : List (List Int)) (r2 : Int) (w : World) (hr0 : Kd.C (Kd.int .u8) w A0 l0.length l0) (hc0 : l0.length ≤ c0) (h : spec_DrawAreRankings.f k l0 = some (r1, r2)) :
  Calls Try.prog 102 #[.slice A0 l0.length c0] w fun e w' => ∃ v0_ : Value, e = .returned (.tuple #[v0_, .int .i64 r2]) ∧ Kd.S (Kd.slice 3 (Kd.int .i64)) 23 w' w.heap.size (fun _ => True) v0_ r1 ∧ Below w.heap.size w w' := by
 have HR0 := Aside0.mk hr0
 have HC0 := Aside0.mk hc0
 clear hr0 hc0
 have HB := Aside0.mk (Below.refl w.heap.size w)
 have H : ((spec_l1New.f k l0).bind fun bt969 => ((spec_l17Any.f k bt969.1 bt969.2.1 bt969.2.2).bind fun bt973 => (some (bt973.1, bt973.2.1)))) = some (r1, r2) := h
 clear h
 replace H := Option.bind_eq_some_iff.mp H
 obtain ⟨⟨t969, t970, t971⟩, A20, H⟩ := H
 replace H : ((spec_l17Any.f k t969 t970 t971).bind fun bt973 => (some (bt973.1, bt973.2.1))) = some (r1, r2) := H
 have A2 := Aside0.mk A20
 clear A20
 replace H := Option.bind_eq_some_iff.mp H
 obtain ⟨⟨t973, t976, t977, t978⟩, A30, H⟩ := H
 replace H : (some (t973, t976)) = some (r1, r2) := H
 have A3 := Aside0.mk A30
 clear A30
 simp only [Option.some.injEq, Prod.mk.injEq] at H
 obtain ⟨rfl, rfl⟩ := H
 go_enter Try.func102, Try.ntmps102
 go_wp2_with (first | ((with_reducible refine gate_callee (f := 75) rfl ?_); refine goesL_ (some 6) rfl rfl Try.func75 (by kernel_rfl) rfl #[.slice A0 l0.length c0] rfl (by (try simp only [List.map_toArray, List.map_cons, List.map_nil]); first | done | rfl | (simp only [List.length_drop, List.length_take]; rfl)) ?_; (with_reducible refine (spec_l1New.calls k _ _ l0 t969 t970 t971 w _ ?side1 ?side2 ?side3 A2.out).mono ?_); (case side1 => repeat (first | (with_reducible first | exact HB.out | apply below_alloc | apply pw_below_drewN | apply below_drew1) | exact HB.out)); (case side2 => exact HR0.out); (case side3 => exact HC0.out); rintro e w4 ⟨g972, rfl, hi, hb, hb2⟩; refine ⟨_, rfl, ?_⟩; have n0_ := Aside0.mk (hb); have n1_ := Aside0.mk (hi); clear HB; have HB := n0_; have HI972 := n1_; clear n0_ n1_; (try clear hb); (try clear hb2); (try clear hk); (try clear hi)) | ((with_reducible refine gate_callee (f := 104) rfl ?_); refine goesL_ (some 8) rfl rfl Try.func104 (by kernel_rfl) rfl #[.pointer (some ⟨g972, 0, none⟩)] rfl (by (try simp only [List.map_toArray, List.map_cons, List.map_nil]); first | done | rfl | (simp only [List.length_drop, List.length_take]; rfl)) ?_; (with_reducible refine (spec_l17Any.calls k g972 t969 t970 t971 t973 t976 t977 t978 w _ ?side1 ?side2 A3.out).mono ?_); (case side1 => repeat (first | (with_reducible first | exact HI972.out | apply IsS105.alloc | apply IsS105.drewN | apply IsS105.drew | apply IsS105.set_1 | apply IsS105.set_2) | exact HI972.out)); (case side2 => repeat (first | (with_reducible first | exact HB.out | apply below_alloc | apply pw_below_drewN | apply below_drew1 | refine below_set ?_ (IsS105.ge HI972.out)) | exact HB.out)); rintro e w5 ⟨v974, rfl, ho0, hi, hb, hk⟩; refine ⟨_, rfl, ?_⟩; have n0_ := Aside0.mk (Kd.S_lower ho0 (below_size (by repeat (first | (with_reducible first | exact HB.out | apply below_alloc | apply pw_below_drewN | apply below_drew1 | refine below_set ?_ (IsS105.ge HI972.out)) | exact HB.out)))); have n1_ := Aside0.mk (hb); have n2_ := Aside0.mk (hi); clear HB; clear HI972; have HO975 := n0_; have HB := n1_; have HI972 := n2_; clear n0_ n1_ n2_; (try clear hb); (try clear hb2); (try clear hk); (try clear hi); (try clear ho0)))
 go_ret2
 exact ⟨_, by first | rfl | (simp [errW_none, errW_some] <;> rfl) | (simp [*, errW_none, errW_some] <;> rfl), by (with_reducible repeat (first | apply Kd.S_alloc | apply Kd.S_drewN | apply Kd.S_drew)); exact HO975.out, by repeat (first | (with_reducible first | exact HB.out | apply below_alloc | apply pw_below_drewN | apply below_drew1 | refine below_set ?_ (IsS105.ge HI972.out)) | exact HB.out)⟩
end Go.Proofs.Ytadcndmhdbhfkaa.A
end

section
namespace Go.Proofs.Ytadcndmhdbhfkaa.A
open Go.RowKit Go.Proofs.YtadcndmhdbhfkaaW.PrintWords Go.Proofs.YtadcndmhdbhfkaaW.PrintLast Go.Proofs.YtadcndmhdbhfkaaW.PrintMore
attribute [local go_sem] max2_int min2_int max_two min_two max_three min_three max_four min_four   -- for this text's walks alone
set_option linter.unusedVariables false
set_option linter.unusedSimpArgs false
def spec_DrawRunOff.f (k : Nat) (l0 : List Int) : Option ((List (List Int)) × Int) := (spec_DrawAreRankings.f k l0).bind fun bt979 => (some (bt979.1, bt979.2))
set_option maxHeartbeats 8000000 in
set_option maxRecDepth 100000 in
theorem spec_DrawRunOff.calls (k : Nat) (A0 : Option Addr) (c0 : Nat) (l0 : List Int) (r1 : List (List Int)) (r2 : Int) (w : World) (hr0 : Kd.C (Kd.int .u8) w A0 l0.length l0) (hc0 : l0.length ≤ c0) (h : spec_DrawRunOff.f k l0 = some (r1, r2)) :
  Calls Try.prog 54 #[.slice A0 l0.length c0] w fun e w' => ∃ v0_ : Value, e = .returned (.tuple #[v0_, .int .i64 r2]) ∧ Kd.S (Kd.slice 3 (Kd.int .i64)) 23 w' w.heap.size (fun _ => True) v0_ r1 ∧ Below w.heap.size w w' := by
 have HR0 := Aside0.mk hr0
 have HC0 := Aside0.mk hc0
 clear hr0 hc0
 have HB := Aside0.mk (Below.refl w.heap.size w)
 have H : ((spec_DrawAreRankings.f k l0).bind fun bt979 => (some (bt979.1, bt979.2))) = some (r1, r2) := h
 clear h
 replace H := Option.bind_eq_some_iff.mp H
 obtain ⟨⟨t979, t980⟩, A20, H⟩ := H
 replace H : (some (t979, t980)) = some (r1, r2) := H
 have A2 := Aside0.mk A20
 clear A20
 simp only [Option.some.injEq, Prod.mk.injEq] at H
 obtain ⟨rfl, rfl⟩ := H
 go_enter Try.func54, Try.ntmps54
 go_wp2_with (first | ((with_reducible refine gate_callee (f := 102) rfl ?_); refine goesL_ (some 5) rfl rfl Try.func102 (by kernel_rfl) rfl #[.slice A0 l0.length c0] rfl (by (try simp only [List.map_toArray, List.map_cons, List.map_nil]); first | done | rfl | (simp only [List.length_drop, List.length_take]; rfl)) ?_; (with_reducible refine (spec_DrawAreRankings.calls k _ _ l0 t979 t980 _ ?side1 ?side2 A2.out).mono ?_); (case side1 => repeat (first | exact HR0.out | (with_reducible refine Kd.C_alloc ?_ _) | (with_reducible refine Kd.C_drewN ?_ _) | (with_reducible refine Kd.C_drew ?_))); (case side2 => exact HC0.out); rintro e w3 ⟨v981, rfl, ho0, hb⟩; refine ⟨_, rfl, ?_⟩; have n0_ := Aside0.mk (Kd.S_lower ho0 (below_size (by repeat (first | (with_reducible first | exact HB.out | apply below_alloc | apply pw_below_drewN | apply below_drew1) | exact HB.out)))); have n1_ := Aside0.mk (below_step (by repeat (first | (with_reducible first | exact HB.out | apply below_alloc | apply pw_below_drewN | apply below_drew1) | exact HB.out)) hb); clear HB; have HO982 := n0_; have HB := n1_; clear n0_ n1_; (try clear hb); (try clear hb2); (try clear hk); (try clear hi); (try clear ho0)))
 go_ret2
 exact ⟨_, by first | rfl | (simp [errW_none, errW_some] <;> rfl) | (simp [*, errW_none, errW_some] <;> rfl), by (with_reducible repeat (first | apply Kd.S_alloc | apply Kd.S_drewN | apply Kd.S_drew)); exact HO982.out, by repeat (first | (with_reducible first | exact HB.out | apply below_alloc | apply pw_below_drewN | apply below_drew1) | exact HB.out)⟩
end Go.Proofs.Ytadcndmhdbhfkaa.A
end

section
namespace Go.Proofs.Ytadcndmhdbhfkaa.A
open Go.RowKit Go.Proofs.YtadcndmhdbhfkaaW.PrintWords Go.Proofs.YtadcndmhdbhfkaaW.PrintLast Go.Proofs.YtadcndmhdbhfkaaW.PrintMore
attribute [local go_sem] max2_int min2_int max_two min_two max_three min_three max_four min_four   -- for this text's walks alone
set_option linter.unusedVariables false
set_option linter.unusedSimpArgs false
mutual
def impl_PlacePoints.l0 : Nat → Int → List Int → List (List Int) → Int → Int → Option (List Int)
  | 0, _, _, _, _, _ => none
  | k + 1, x1, x5, x17, x18, x19 => if x19 < x18 then (if 0 ≤ x19 then (if x19 < (x17.length : Int) then (impl_PlacePoints.l1 k x1 x5 x17 x18 x19 (rd_L4 x17 x19) ((rd_L4 x17 x19).length : Int) 0) else (none)) else (none)) else (some x5)
def impl_PlacePoints.l1 : Nat → Int → List Int → List (List Int) → Int → Int → List Int → Int → Int → Option (List Int)
  | 0, _, _, _, _, _, _, _, _ => none
  | k + 1, x1, x5, x17, x18, x19, x23, x24, x25 => if x25 < x24 then (if 0 ≤ x25 then (if x25 < (x23.length : Int) then (if 0 ≤ (rd x23 x25) then (if (rd x23 x25) < (x5.length : Int) then (impl_PlacePoints.l1 k x1 (x5.set ((rd x23 x25) : Int).toNat (wrap64 ((rd x5 (rd x23 x25)) + (wrap64 ((wrap64 (x1 - 1)) - x25))))) x17 x18 x19 x23 x24 (wrap64 (x25 + 1))) else (none)) else (none)) else (none)) else (none)) else (impl_PlacePoints.l0 k x1 x5 x17 x18 (wrap64 (x19 + 1)))
end
def impl_PlacePoints.f (k : Nat) (l0 : List (List Int)) (a1 : Int) : Option (List Int) := (impl_AreRankings.f k l0 a1).bind fun t978 => (if t978 = true then (if 0 ≤ a1 then (if (a1 : Int).toNat ≤ 35184372088832 then (impl_PlacePoints.l0 k a1 (List.replicate (a1 : Int).toNat 0) l0 (l0.length : Int) 0) else (none)) else (none)) else (some (([] : List Int))))
set_option maxHeartbeats 8000000 in
set_option maxRecDepth 100000 in
theorem impl_PlacePoints.calls (k : Nat) (A0 : Option Addr) (c0 : Nat) (l0 : List (List Int)) (a1 : Int) (r : List Int) (w : World) (hr0 : Kd.C (Kd.slice 3 (Kd.int .i64)) w A0 l0.length l0) (hc0 : l0.length ≤ c0) (h : impl_PlacePoints.f k l0 a1 = some r) :
  Calls Try.prog 55 #[.slice A0 l0.length c0, .int .i64 a1] w fun e w' => ∃ v0_ : Value, e = .returned (v0_) ∧ Kd.R (Kd.int .i64) 3 w' w.heap.size (fun _ => True) v0_ r ∧ Below w.heap.size w w' := by
 have HR0 := Aside0.mk hr0
 have HC0 := Aside0.mk hc0
 clear hr0 hc0
 have HB := Aside0.mk (Below.refl w.heap.size w)
 have H : ((impl_AreRankings.f k l0 a1).bind fun t978 => (if t978 = true then (if 0 ≤ a1 then (if (a1 : Int).toNat ≤ 35184372088832 then (impl_PlacePoints.l0 k a1 (List.replicate (a1 : Int).toNat 0) l0 (l0.length : Int) 0) else (none)) else (none)) else (some (([] : List Int))))) = some r := h
 clear h
 replace H := Option.bind_eq_some_iff.mp H
 obtain ⟨t978, A30, H⟩ := H
 replace H : (if t978 = true then (if 0 ≤ a1 then (if (a1 : Int).toNat ≤ 35184372088832 then (impl_PlacePoints.l0 k a1 (List.replicate (a1 : Int).toNat 0) l0 (l0.length : Int) 0) else (none)) else (none)) else (some (([] : List Int)))) = some r := H
 have A3 := Aside0.mk A30
 clear A30
 by_cases c4 : t978 = true
 ·
  subst c4
  have H1 : (if 0 ≤ a1 then (if (a1 : Int).toNat ≤ 35184372088832 then (impl_PlacePoints.l0 k a1 (List.replicate (a1 : Int).toNat 0) l0 (l0.length : Int) 0) else (none)) else (none)) = some r := by rw [if_pos rfl] at H; exact H
  clear H
  have H := H1
  clear H1
  by_cases c5 : 0 ≤ a1
  ·
   rw [if_pos c5] at H
   have c5b0 := eq_true c5
   have c5b1 : decide (0 ≤ a1) = true := decide_eq_true c5
   clear c5
   by_cases c6 : (a1 : Int).toNat ≤ 35184372088832
   ·
    rw [if_pos c6] at H
    have c6b0 := eq_true c6
    have c6b1 : decide ((a1 : Int).toNat ≤ 35184372088832) = true := decide_eq_true c6
    clear c6
    obtain ⟨y982, hy982⟩ : ∃ y_ : List Int, y_ = (List.replicate (a1 : Int).toNat 0) := ⟨_, rfl⟩
    replace H : (impl_PlacePoints.l0 k a1 y982 l0 (l0.length : Int) 0) = some r := by first | (rw [hy982]; with_reducible exact H) | (have H2_ := (Option.bind_some _ _).symm.trans H; rw [hy982]; with_reducible exact H2_) | (have H2_ := (Option.bind_some _ _).symm.trans H; with_reducible exact H2_) | with_reducible exact H | (rw [hy982]; exact H) | exact H
    have Ny982 := Aside0.mk hy982
    clear hy982
    have H' := Aside0.mk H
    clear H
    go_enter Try.func55, Try.ntmps55
    go_wp2_with (first | ((with_reducible refine gate_callee (f := 57) rfl ?_); refine goesL_ (some 12) rfl rfl Try.func57 (by kernel_rfl) rfl #[.slice A0 l0.length c0, .int .i64 a1] rfl (by (try simp only [List.map_toArray, List.map_cons, List.map_nil]); first | done | rfl | (simp only [List.length_drop, List.length_take]; rfl)) ?_; (with_reducible refine (impl_AreRankings.calls k _ _ l0 a1 true _ ?side1 ?side2 A3.out).mono ?_); (case side1 => repeat (first | exact HR0.out | (with_reducible refine Kd.C_alloc ?_ _) | (with_reducible refine Kd.C_drewN ?_ _) | (with_reducible refine Kd.C_drew ?_))); (case side2 => exact HC0.out); rintro e w' ⟨rfl, ⟨nd, rfl⟩⟩; refine ⟨_, rfl, ?_⟩) | ((with_reducible refine gate_dst (N := 16) rfl ?_); refine Kd.R_make (Kd.int .i64) _ 3 rfl (N := 16) rfl 23 _ _ rfl a1 rfl rfl Try.underlying23 (.int .i64 0) 8 info3 rfl (by decide) (by omega) 0 (ok := fun _ => True) (okp := fun _ => True) rfl (fun _ hk => hk) trivial (of_decide_eq_true (by first | (with_reducible assumption) | assumption)) (Nat.le_trans (Nat.mul_le_mul_right _ (of_decide_eq_true (by first | (with_reducible assumption) | assumption) : a1.toNat ≤ 35184372088832)) (by omega)) (Below.refl _ _) (Nat.le_refl _) ?_; intro v983 w7 ho8 hb hg_ hnew_; clear hg_ hnew_; (first | rw [← Ny982.out] at ho8 | (simp only [Int.reduceToNat] at ho8; rw [← Ny982.out] at ho8)); have n0_ := Aside0.mk (Kd.R_lower ho8 (below_size (by repeat (first | (with_reducible first | exact HB.out | apply below_alloc | apply pw_below_drewN | apply below_drew1) | exact HB.out)))); have n1_ := Aside0.mk (below_step (by repeat (first | (with_reducible first | exact HB.out | apply below_alloc | apply pw_below_drewN | apply below_drew1) | exact HB.out)) hb); clear HB; have HO984 := n0_; have HB := n1_; clear n0_ n1_; clear hb ho8))
    go_loopg [19] k (fun kq v19 w' => ∃ (x5_1 : List Int) (x19_1 : Int), v19 = .int .i64 x19_1 ∧ Aside0 (impl_PlacePoints.l0 kq a1 x5_1 l0 (l0.length : Int) x19_1 = some r) ∧ Aside0 (kq ≤ k) ∧ Aside0 (Kd.R (Kd.int .i64) 3 w' w.heap.size (fun _ => True) v983 x5_1) ∧ Aside0 (Below w.heap.size w w'))
    case atStart => exact ⟨(y982), (0), (by first | rfl | (simp; done) | (simp [*]; done)), H', ⟨Nat.le_refl _⟩, ⟨by (with_reducible repeat (first | apply Kd.R_alloc | apply Kd.R_drewN | apply Kd.R_drew)); exact HO984.out⟩, ⟨by repeat (first | (with_reducible first | exact HB.out | apply below_alloc | apply pw_below_drewN | apply below_drew1) | exact HB.out)⟩⟩
    case round =>
     clear H'
     try clear p2
     try clear c4
     try clear c5
     try clear c5b0
     try clear c5b1
     try clear c6
     try clear c6b0
     try clear c6b1
     obtain ⟨x5_1, x19_1, rfl, HA, HK1, HO_5, HB⟩ := hrel
     cases gk with
     | zero => exact absurd HA.out (by simp [impl_PlacePoints.l0])
     | succ k1 =>
      have H := HA.out
      clear HA
      simp only [impl_PlacePoints.l0] at H
      by_cases c9 : x19_1 < (l0.length : Int)
      ·
       rw [if_pos c9] at H
       have c9b0 : decide (x19_1 < (l0.length : Int)) = true := decide_eq_true c9
       clear c9
       by_cases c10 : 0 ≤ x19_1
       ·
        rw [if_pos c10] at H
        have c10b0 : decide (0 ≤ x19_1) = true := decide_eq_true c10
        clear c10
        by_cases c11 : x19_1 < (l0.length : Int)
        ·
         rw [if_pos c11] at H
         have c11b0 : decide (x19_1 < (l0.length : Int)) = true := decide_eq_true c11
         clear c11
         have H' := Aside0.mk H
         clear H
         have p985 : 0 ≤ (x19_1 : Int) := of_decide_eq_true (by first | (with_reducible assumption) | assumption)
         have q985 : x19_1 < (l0.length : Int) := of_decide_eq_true (by first | (with_reducible assumption) | assumption)
         obtain ⟨ad985, A985_0, c985_0, e985, hx985_0, hl985_0, hi985_0⟩ := at_L4 HR0.out x19_1 p985 q985
         cases e985
         replace hx985_0 := (HB.out.cell (World.block_lt_of_cell? w _ hx985_0)).trans hx985_0
         have HR985_0 := Aside0.mk hi985_0
         have HC985_0 := Aside0.mk hl985_0
         clear hi985_0 hl985_0
         replace p985 := eq_true p985
         replace q985 := eq_true q985
         go_wp2
         go_loopg [25] k1 (fun kq v25 w' => ∃ (x5_2 : List Int) (x25_2 : Int), v25 = .int .i64 x25_2 ∧ Aside0 (impl_PlacePoints.l1 kq a1 x5_2 l0 (l0.length : Int) x19_1 (rd_L4 l0 x19_1) ((rd_L4 l0 x19_1).length : Int) x25_2 = some r) ∧ Aside0 (kq ≤ k1) ∧ Aside0 (Kd.R (Kd.int .i64) 3 w' w.heap.size (fun _ => True) v983 x5_2) ∧ Aside0 (Below w.heap.size w w'))
         case atStart => exact ⟨(x5_1), (0), (by first | rfl | (simp; done) | (simp [*]; done)), H', ⟨Nat.le_refl _⟩, ⟨by (with_reducible repeat (first | apply Kd.R_alloc | apply Kd.R_drewN | apply Kd.R_drew)); exact HO_5.out⟩, ⟨by repeat (first | (with_reducible first | exact HB.out | apply below_alloc | apply pw_below_drewN | apply below_drew1) | exact HB.out)⟩⟩
         case round =>
          clear H'
          try clear c1
          try clear p2
          try clear c4
          try clear c5
          try clear c5b0
          try clear c5b1
          try clear c6
          try clear c6b0
          try clear c6b1
          try clear c9
          try clear c9b0
          try clear p9
          try clear q9
          try clear hx9
          try clear c10
          try clear c10b0
          try clear c11
          try clear c11b0
          try clear hx985_0
          try clear p2
          try clear p985
          try clear q985
          obtain ⟨x5_2, x25_2, rfl, HA, HK2, HO_5, HB⟩ := hrel
          cases gk with
          | zero => exact absurd HA.out (by simp [impl_PlacePoints.l1])
          | succ k2 =>
           have H := HA.out
           clear HA
           simp only [impl_PlacePoints.l1] at H
           by_cases c12 : x25_2 < ((rd_L4 l0 x19_1).length : Int)
           ·
            rw [if_pos c12] at H
            have c12b0 : decide (x25_2 < ((rd_L4 l0 x19_1).length : Int)) = true := decide_eq_true c12
            clear c12
            by_cases c13 : 0 ≤ x25_2
            ·
             rw [if_pos c13] at H
             have c13b0 : decide (0 ≤ x25_2) = true := decide_eq_true c13
             clear c13
             by_cases c14 : x25_2 < ((rd_L4 l0 x19_1).length : Int)
             ·
              rw [if_pos c14] at H
              have c14b0 : decide (x25_2 < ((rd_L4 l0 x19_1).length : Int)) = true := decide_eq_true c14
              clear c14
              by_cases c15 : 0 ≤ (rd (rd_L4 l0 x19_1) x25_2)
              ·
               rw [if_pos c15] at H
               have c15b0 : decide (0 ≤ (rd (rd_L4 l0 x19_1) x25_2)) = true := decide_eq_true c15
               clear c15
               by_cases c16 : (rd (rd_L4 l0 x19_1) x25_2) < (x5_2.length : Int)
               ·
                rw [if_pos c16] at H
                have c16b0 : decide ((rd (rd_L4 l0 x19_1) x25_2) < (x5_2.length : Int)) = true := decide_eq_true c16
                clear c16
                obtain ⟨y988, hy988⟩ : ∃ y_ : List Int, y_ = (x5_2.set ((rd (rd_L4 l0 x19_1) x25_2) : Int).toNat (wrap64 ((rd x5_2 (rd (rd_L4 l0 x19_1) x25_2)) + (wrap64 ((wrap64 (a1 - 1)) - x25_2))))) := ⟨_, rfl⟩
                replace H : (impl_PlacePoints.l1 k2 a1 y988 l0 (l0.length : Int) x19_1 (rd_L4 l0 x19_1) ((rd_L4 l0 x19_1).length : Int) (wrap64 (x25_2 + 1))) = some r := by first | (rw [hy988]; with_reducible exact H) | (have H2_ := (Option.bind_some _ _).symm.trans H; rw [hy988]; with_reducible exact H2_) | (have H2_ := (Option.bind_some _ _).symm.trans H; with_reducible exact H2_) | with_reducible exact H | (rw [hy988]; exact H) | exact H
                have Ny988 := Aside0.mk hy988
                clear hy988
                have H' := Aside0.mk H
                clear H
                have p986 : 0 ≤ (x25_2 : Int) := of_decide_eq_true (by first | (with_reducible assumption) | assumption)
                have q986 : x25_2 < ((rd_L4 l0 x19_1).length : Int) := of_decide_eq_true (by first | (with_reducible assumption) | assumption)
                obtain ⟨ad986, e986, hx986_0⟩ := Kd.at_int HR985_0.out x25_2 p986 q986
                cases e986
                replace hx986_0 := (HB.out.cell (World.block_lt_of_cell? w _ hx986_0)).trans hx986_0
                replace p986 := eq_true p986
                replace q986 := eq_true q986
                obtain ⟨Ao18, co18, eo18⟩ := Kd.R_slice HO_5.out
                subst eo18
                have p987 : 0 ≤ ((rd (rd_L4 l0 x19_1) x25_2) : Int) := of_decide_eq_true (by first | (with_reducible assumption) | assumption)
                have q987 : (rd (rd_L4 l0 x19_1) x25_2) < (x5_2.length : Int) := of_decide_eq_true (by first | (with_reducible assumption) | assumption)
                obtain ⟨ad987, e987, hx987_0⟩ := Kd.at_int (Kd.R_reads' HO_5.out).2.2 (rd (rd_L4 l0 x19_1) x25_2) p987 q987
                cases e987
                replace p987 := eq_true p987
                replace q987 := eq_true q987
                have p17 : 0 ≤ ((rd (rd_L4 l0 x19_1) x25_2) : Int) := of_decide_eq_true (by first | (with_reducible assumption) | assumption)
                have q17 : ((rd (rd_L4 l0 x19_1) x25_2) : Int) < ((x5_2.length : Int) : Int) := of_decide_eq_true (by first | (with_reducible assumption) | assumption)
                obtain ⟨go17, co17, eo17, gb17, gl17, cl17, HG17⟩ := Kd.R_form HO_5.out (by omega)
                (first | cases eo17 | (injection eo17 with ea_ en_ ec_; (first | subst ea_ | (injection ea_ with ea_; subst ea_)); subst ec_; clear en_))
                have GB17 := Aside0.mk gb17
                have GG17 := Aside0.mk HG17
                clear gb17 gl17 HG17
                (first | simp only [add_plain] at hx987_0 | skip)
                obtain ⟨hx17_0, hf17_0⟩ := Kd.R_celln 0 HO_5.out ((rd (rd_L4 l0 x19_1) x25_2) : Int) p17 q17
                replace p17 := eq_true p17
                replace q17 := eq_true q17
                have HP19 := Kd.R_putg HO_5.out ((rd (rd_L4 l0 x19_1) x25_2) : Int) (wrap64 ((rd x5_2 (rd (rd_L4 l0 x19_1) x25_2)) + (wrap64 ((wrap64 (a1 - 1)) - x25_2))))
                go_wp2_with (first | ((with_reducible refine gate_store (t := 3) (p := 39) rfl ?_); refine store_event (t := 3) (p := 39) (v := ?vo_w20) (w1 := (wr.setCell ⟨go17, ((rd (rd_L4 l0 x19_1) x25_2) : Int).toNat, none⟩ (.int .i64 (wrap64 ((rd x5_2 (rd (rd_L4 l0 x19_1) x25_2)) + (wrap64 ((wrap64 (a1 - 1)) - x25_2))))))) ?hg ?ho ?hn ?hr ?_; (case ho => rfl); (case hg => rfl); (case hn => rfl); (case hr => first | (go_simp; done) | (go_simp; rfl)); intro w20 hw; have hg : wr.grownBy w20 (some go17) := (by rw [hw]; exact HP19.2); have hp_ : Kd.R (Kd.int .i64) 3 w20 w.heap.size (fun _ => True) (.slice (some ⟨go17, 0, none⟩) x5_2.length co18) y988 := (by rw [hw, Ny988.out]; exact HP19.1); clear HP19; have n0_ := Aside0.mk (hp_); have n1_ := Aside0.mk ((by rw [hw]; exact below_set (HB.out) GB17.out : Below w.heap.size w w20)); clear HO_5; clear HB; have HO_5 := n0_; have HB := n1_; clear n0_ n1_; clear hg hw hp_))
                go_roundg k2
                case measure => have := HK1.out; have := HK2.out; omega
                case rel => exact ⟨(y988), (wrap64 (x25_2 + 1)), (by first | rfl | (simp; done) | (simp [*]; done)), H', ⟨by have := HK1.out; have := HK2.out; omega⟩, ⟨by (with_reducible repeat (first | apply Kd.R_alloc | apply Kd.R_drewN | apply Kd.R_drew)); exact HO_5.out⟩, ⟨by repeat (first | (with_reducible first | exact HB.out | apply below_alloc | apply pw_below_drewN | apply below_drew1) | exact HB.out)⟩⟩
               ·
                rw [if_neg c16] at H
                exact absurd H (by simp)
              ·
               rw [if_neg c15] at H
               exact absurd H (by simp)
             ·
              rw [if_neg c14] at H
              exact absurd H (by simp)
            ·
             rw [if_neg c13] at H
             exact absurd H (by simp)
           ·
            rw [if_neg c12] at H
            have c12b0 : decide (x25_2 < ((rd_L4 l0 x19_1).length : Int)) = false := decide_eq_false c12
            clear c12
            have H' := Aside0.mk H
            clear H
            go_wp2
            go_roundg k2
            case measure => have := HK1.out; have := HK2.out; omega
            case rel => exact ⟨(x5_2), (wrap64 (x19_1 + 1)), (by first | rfl | (simp; done) | (simp [*]; done)), H', ⟨by have := HK1.out; have := HK2.out; omega⟩, ⟨by (with_reducible repeat (first | apply Kd.R_alloc | apply Kd.R_drewN | apply Kd.R_drew)); exact HO_5.out⟩, ⟨by repeat (first | (with_reducible first | exact HB.out | apply below_alloc | apply pw_below_drewN | apply below_drew1) | exact HB.out)⟩⟩
        ·
         rw [if_neg c11] at H
         exact absurd H (by simp)
       ·
        rw [if_neg c10] at H
        exact absurd H (by simp)
      ·
       rw [if_neg c9] at H
       have c9b0 : decide (x19_1 < (l0.length : Int)) = false := decide_eq_false c9
       clear c9
       obtain rfl := Option.some.inj H
       go_wp2
       go_ret
       exact ⟨_, by first | rfl | (simp [errW_none, errW_some] <;> rfl) | (simp [*, errW_none, errW_some] <;> rfl), by (with_reducible repeat (first | apply Kd.R_alloc | apply Kd.R_drewN | apply Kd.R_drew)); exact HO_5.out, by repeat (first | (with_reducible first | exact HB.out | apply below_alloc | apply pw_below_drewN | apply below_drew1) | exact HB.out)⟩
   ·
    rw [if_neg c6] at H
    exact absurd H (by simp)
  ·
   rw [if_neg c5] at H
   exact absurd H (by simp)
 ·
  replace c4 := Bool.eq_false_iff.mpr c4
  subst c4
  have H1 : (some (([] : List Int))) = some r := by rw [if_neg (show ¬ (false = true) by decide)] at H; exact H
  clear H
  have H := H1
  clear H1
  obtain ⟨y979, hy979⟩ : ∃ y_ : List Int, y_ = (([] : List Int)) := ⟨_, rfl⟩
  replace H : (some y979) = some r := by first | (rw [hy979]; with_reducible exact H) | (have H2_ := (Option.bind_some _ _).symm.trans H; rw [hy979]; with_reducible exact H2_) | (have H2_ := (Option.bind_some _ _).symm.trans H; with_reducible exact H2_) | with_reducible exact H | (rw [hy979]; exact H) | exact H
  have Ny979 := Aside0.mk hy979
  clear hy979
  obtain rfl := Option.some.inj H
  go_enter Try.func55, Try.ntmps55
  go_wp2_with (first | ((with_reducible refine gate_callee (f := 57) rfl ?_); refine goesL_ (some 12) rfl rfl Try.func57 (by kernel_rfl) rfl #[.slice A0 l0.length c0, .int .i64 a1] rfl (by (try simp only [List.map_toArray, List.map_cons, List.map_nil]); first | done | rfl | (simp only [List.length_drop, List.length_take]; rfl)) ?_; (with_reducible refine (impl_AreRankings.calls k _ _ l0 a1 false _ ?side1 ?side2 A3.out).mono ?_); (case side1 => repeat (first | exact HR0.out | (with_reducible refine Kd.C_alloc ?_ _) | (with_reducible refine Kd.C_drewN ?_ _) | (with_reducible refine Kd.C_drew ?_))); (case side2 => exact HC0.out); rintro e w' ⟨rfl, ⟨nd, rfl⟩⟩; refine ⟨_, rfl, ?_⟩) | ((with_reducible refine gate_dst (N := 14) rfl ?_); refine Kd.R_lit (Kd.int .i64) _ 3 ?hg (N := 14) ?hd (xs := ([] : List Int)) (inner := []) (ok := fun _ => True) (okp := fun _ => True) ?hr ?hp (fun _ hk => hk) trivial (Below.refl _ _) (Nat.le_refl _) (by simp) ?_; (case hd => rfl); (case hg => rfl); (case hr => first | (go_simp; done) | (go_simp; rfl)); (case hp => exact (Reps.none _ _)); intro v980 w21 ho22 hb hg_ hnew_; clear hg_ hnew_; (first | rw [← Ny979.out] at ho22 | (simp only [Int.reduceToNat] at ho22; rw [← Ny979.out] at ho22)); have n0_ := Aside0.mk (Kd.R_lower ho22 (below_size (by repeat (first | (with_reducible first | exact HB.out | apply below_alloc | apply pw_below_drewN | apply below_drew1) | exact HB.out)))); have n1_ := Aside0.mk (below_step (by repeat (first | (with_reducible first | exact HB.out | apply below_alloc | apply pw_below_drewN | apply below_drew1) | exact HB.out)) hb); clear HB; have HO981 := n0_; have HB := n1_; clear n0_ n1_; clear hb ho22))
  go_ret
  exact ⟨_, by first | rfl | (simp [errW_none, errW_some] <;> rfl) | (simp [*, errW_none, errW_some] <;> rfl), by (with_reducible repeat (first | apply Kd.R_alloc | apply Kd.R_drewN | apply Kd.R_drew)); exact HO981.out, by repeat (first | (with_reducible first | exact HB.out | apply below_alloc | apply pw_below_drewN | apply below_drew1) | exact HB.out)⟩
end Go.Proofs.Ytadcndmhdbhfkaa.A
end

section
namespace Go.Proofs.Ytadcndmhdbhfkaa.A
open Go.RowKit Go.Proofs.YtadcndmhdbhfkaaW.PrintWords Go.Proofs.YtadcndmhdbhfkaaW.PrintLast Go.Proofs.YtadcndmhdbhfkaaW.PrintMore
attribute [local go_sem] max2_int min2_int max_two min_two max_three min_three max_four min_four   -- for this text's walks alone
set_option linter.unusedVariables false
set_option linter.unusedSimpArgs false
def impl_Prefer.l0 : Nat → Int → Int → Int → List (List Int) → Int → Int → Option (Int)
  | 0, _, _, _, _, _, _ => none
  | k + 1, x1, x2, x7, x12, x13, x14 => if x14 < x13 then (if 0 ≤ x14 then (if x14 < (x12.length : Int) then ((slices_Index_int_int.f k (rd_L4 x12 x14) x1).bind fun t990 => ((slices_Index_int_int.f k (rd_L4 x12 x14) x2).bind fun t991 => (if t990 ≥ 0 then (if t991 ≥ 0 then (if t990 < t991 then (impl_Prefer.l0 k x1 x2 (wrap64 (x7 + 1)) x12 x13 (wrap64 (x14 + 1))) else (impl_Prefer.l0 k x1 x2 x7 x12 x13 (wrap64 (x14 + 1)))) else (impl_Prefer.l0 k x1 x2 x7 x12 x13 (wrap64 (x14 + 1)))) else (impl_Prefer.l0 k x1 x2 x7 x12 x13 (wrap64 (x14 + 1)))))) else (none)) else (none)) else (some x7)
def impl_Prefer.f (k : Nat) (l0 : List (List Int)) (a1 : Int) (a2 : Int) : Option (Int) := impl_Prefer.l0 k a1 a2 0 l0 (l0.length : Int) 0
set_option maxHeartbeats 8000000 in
set_option maxRecDepth 100000 in
theorem impl_Prefer.calls (k : Nat) (A0 : Option Addr) (c0 : Nat) (l0 : List (List Int)) (a1 : Int) (a2 : Int) (r : Int) (w : World) (hr0 : Kd.C (Kd.slice 3 (Kd.int .i64)) w A0 l0.length l0) (hc0 : l0.length ≤ c0) (h : impl_Prefer.f k l0 a1 a2 = some r) :
  Calls Try.prog 59 #[.slice A0 l0.length c0, .int .i64 a1, .int .i64 a2] w fun e w' => e = .returned (.int .i64 r) ∧ Drawn0 w w' := by
 have HR0 := Aside0.mk hr0
 have HC0 := Aside0.mk hc0
 clear hr0 hc0
 have H : (impl_Prefer.l0 k a1 a2 0 l0 (l0.length : Int) 0) = some r := h
 clear h
 have H' := Aside0.mk H
 clear H
 go_enter Try.func59, Try.ntmps59
 go_wp2
 go_loopg [7, 14] k (fun kq v7 v14 w' => ∃ (x7_1 : Int) (x14_1 : Int), v7 = .int .i64 x7_1 ∧ v14 = .int .i64 x14_1 ∧ Aside0 (impl_Prefer.l0 kq a1 a2 x7_1 l0 (l0.length : Int) x14_1 = some r) ∧ Aside0 (kq ≤ k) ∧ Drawn0 w w')
 case atStart => exact ⟨(0), (0), (by first | rfl | (simp; done) | (simp [*]; done)), (by first | rfl | (simp; done) | (simp [*]; done)), H', ⟨Nat.le_refl _⟩, by repeat (first | exact Drawn0.refl _ | apply Drawn0.step)⟩
 case round =>
  clear H'
  try clear p2
  obtain ⟨x7_1, x14_1, rfl, rfl, HA, HK1, ⟨m1, rfl⟩⟩ := hrel
  cases gk with
  | zero => exact absurd HA.out (by simp [impl_Prefer.l0])
  | succ k1 =>
   have H := HA.out
   clear HA
   simp only [impl_Prefer.l0] at H
   by_cases c4 : x14_1 < (l0.length : Int)
   ·
    rw [if_pos c4] at H
    have c4b0 : decide (x14_1 < (l0.length : Int)) = true := decide_eq_true c4
    clear c4
    by_cases c5 : 0 ≤ x14_1
    ·
     rw [if_pos c5] at H
     have c5b0 : decide (0 ≤ x14_1) = true := decide_eq_true c5
     clear c5
     by_cases c6 : x14_1 < (l0.length : Int)
     ·
      rw [if_pos c6] at H
      have c6b0 : decide (x14_1 < (l0.length : Int)) = true := decide_eq_true c6
      clear c6
      replace H := Option.bind_eq_some_iff.mp H
      obtain ⟨t990, A70, H⟩ := H
      replace H : ((slices_Index_int_int.f k1 (rd_L4 l0 x14_1) a2).bind fun t991 => (if t990 ≥ 0 then (if t991 ≥ 0 then (if t990 < t991 then (impl_Prefer.l0 k1 a1 a2 (wrap64 (x7_1 + 1)) l0 (l0.length : Int) (wrap64 (x14_1 + 1))) else (impl_Prefer.l0 k1 a1 a2 x7_1 l0 (l0.length : Int) (wrap64 (x14_1 + 1)))) else (impl_Prefer.l0 k1 a1 a2 x7_1 l0 (l0.length : Int) (wrap64 (x14_1 + 1)))) else (impl_Prefer.l0 k1 a1 a2 x7_1 l0 (l0.length : Int) (wrap64 (x14_1 + 1))))) = some r := H
      have A7 := Aside0.mk A70
      clear A70
      replace H := Option.bind_eq_some_iff.mp H
      obtain ⟨t991, A80, H⟩ := H
      replace H : (if t990 ≥ 0 then (if t991 ≥ 0 then (if t990 < t991 then (impl_Prefer.l0 k1 a1 a2 (wrap64 (x7_1 + 1)) l0 (l0.length : Int) (wrap64 (x14_1 + 1))) else (impl_Prefer.l0 k1 a1 a2 x7_1 l0 (l0.length : Int) (wrap64 (x14_1 + 1)))) else (impl_Prefer.l0 k1 a1 a2 x7_1 l0 (l0.length : Int) (wrap64 (x14_1 + 1)))) else (impl_Prefer.l0 k1 a1 a2 x7_1 l0 (l0.length : Int) (wrap64 (x14_1 + 1)))) = some r := H
      have A8 := Aside0.mk A80
      clear A80
      by_cases c9 : t990 ≥ 0
      ·
       rw [if_pos c9] at H
       have c9b0 : decide (0 ≤ t990) = true := decide_eq_true c9
       clear c9
       by_cases c10 : t991 ≥ 0
       ·
        rw [if_pos c10] at H
        have c10b0 : decide (0 ≤ t991) = true := decide_eq_true c10
        clear c10
        by_cases c11 : t990 < t991
        ·
         rw [if_pos c11] at H
         have c11b0 : decide (t990 < t991) = true := decide_eq_true c11
         clear c11
         have H' := Aside0.mk H
         clear H
         have p989 : 0 ≤ (x14_1 : Int) := of_decide_eq_true (by first | (with_reducible assumption) | assumption)
         have q989 : x14_1 < (l0.length : Int) := of_decide_eq_true (by first | (with_reducible assumption) | assumption)
         obtain ⟨ad989, A989_0, c989_0, e989, hx989_0, hl989_0, hi989_0⟩ := at_L4 HR0.out x14_1 p989 q989
         cases e989
         have HR989_0 := Aside0.mk hi989_0
         have HC989_0 := Aside0.mk hl989_0
         clear hi989_0 hl989_0
         replace p989 := eq_true p989
         replace q989 := eq_true q989
         go_wp2_with (first | ((with_reducible refine gate_callee (f := 103) rfl ?_); refine goesL_ (some 20) rfl rfl Try.func103 (by kernel_rfl) rfl #[.slice A989_0 (rd_L4 l0 x14_1).length c989_0, .int .i64 a1] rfl (by (try simp only [List.map_toArray, List.map_cons, List.map_nil]); first | done | rfl | (simp only [List.length_drop, List.length_take]; rfl)) ?_; (with_reducible refine (slices_Index_int_int.calls k1 _ _ (rd_L4 l0 x14_1) a1 t990 _ ?side1 ?side2 A7.out).mono ?_); (case side1 => repeat (first | exact HR989_0.out | (with_reducible refine Kd.C_alloc ?_ _) | (with_reducible refine Kd.C_drewN ?_ _) | (with_reducible refine Kd.C_drew ?_))); (case side2 => exact HC989_0.out); rintro e w' ⟨rfl, ⟨nd, rfl⟩⟩; refine ⟨_, rfl, ?_⟩) | ((with_reducible refine gate_callee (f := 103) rfl ?_); refine goesL_ (some 23) rfl rfl Try.func103 (by kernel_rfl) rfl #[.slice A989_0 (rd_L4 l0 x14_1).length c989_0, .int .i64 a2] rfl (by (try simp only [List.map_toArray, List.map_cons, List.map_nil]); first | done | rfl | (simp only [List.length_drop, List.length_take]; rfl)) ?_; (with_reducible refine (slices_Index_int_int.calls k1 _ _ (rd_L4 l0 x14_1) a2 t991 _ ?side1 ?side2 A8.out).mono ?_); (case side1 => repeat (first | exact HR989_0.out | (with_reducible refine Kd.C_alloc ?_ _) | (with_reducible refine Kd.C_drewN ?_ _) | (with_reducible refine Kd.C_drew ?_))); (case side2 => exact HC989_0.out); rintro e w' ⟨rfl, ⟨nd, rfl⟩⟩; refine ⟨_, rfl, ?_⟩))
         go_roundg k1
         case measure => have := HK1.out; omega
         case rel => exact ⟨(wrap64 (x7_1 + 1)), (wrap64 (x14_1 + 1)), (by first | rfl | (simp; done) | (simp [*]; done)), (by first | rfl | (simp; done) | (simp [*]; done)), H', ⟨by have := HK1.out; omega⟩, by repeat (first | exact Drawn0.refl _ | apply Drawn0.step)⟩
        ·
         rw [if_neg c11] at H
         have c11b0 : decide (t990 < t991) = false := decide_eq_false c11
         clear c11
         have H' := Aside0.mk H
         clear H
         have p989 : 0 ≤ (x14_1 : Int) := of_decide_eq_true (by first | (with_reducible assumption) | assumption)
         have q989 : x14_1 < (l0.length : Int) := of_decide_eq_true (by first | (with_reducible assumption) | assumption)
         obtain ⟨ad989, A989_0, c989_0, e989, hx989_0, hl989_0, hi989_0⟩ := at_L4 HR0.out x14_1 p989 q989
         cases e989
         have HR989_0 := Aside0.mk hi989_0
         have HC989_0 := Aside0.mk hl989_0
         clear hi989_0 hl989_0
         replace p989 := eq_true p989
         replace q989 := eq_true q989
         go_wp2_with (first | ((with_reducible refine gate_callee (f := 103) rfl ?_); refine goesL_ (some 20) rfl rfl Try.func103 (by kernel_rfl) rfl #[.slice A989_0 (rd_L4 l0 x14_1).length c989_0, .int .i64 a1] rfl (by (try simp only [List.map_toArray, List.map_cons, List.map_nil]); first | done | rfl | (simp only [List.length_drop, List.length_take]; rfl)) ?_; (with_reducible refine (slices_Index_int_int.calls k1 _ _ (rd_L4 l0 x14_1) a1 t990 _ ?side1 ?side2 A7.out).mono ?_); (case side1 => repeat (first | exact HR989_0.out | (with_reducible refine Kd.C_alloc ?_ _) | (with_reducible refine Kd.C_drewN ?_ _) | (with_reducible refine Kd.C_drew ?_))); (case side2 => exact HC989_0.out); rintro e w' ⟨rfl, ⟨nd, rfl⟩⟩; refine ⟨_, rfl, ?_⟩) | ((with_reducible refine gate_callee (f := 103) rfl ?_); refine goesL_ (some 23) rfl rfl Try.func103 (by kernel_rfl) rfl #[.slice A989_0 (rd_L4 l0 x14_1).length c989_0, .int .i64 a2] rfl (by (try simp only [List.map_toArray, List.map_cons, List.map_nil]); first | done | rfl | (simp only [List.length_drop, List.length_take]; rfl)) ?_; (with_reducible refine (slices_Index_int_int.calls k1 _ _ (rd_L4 l0 x14_1) a2 t991 _ ?side1 ?side2 A8.out).mono ?_); (case side1 => repeat (first | exact HR989_0.out | (with_reducible refine Kd.C_alloc ?_ _) | (with_reducible refine Kd.C_drewN ?_ _) | (with_reducible refine Kd.C_drew ?_))); (case side2 => exact HC989_0.out); rintro e w' ⟨rfl, ⟨nd, rfl⟩⟩; refine ⟨_, rfl, ?_⟩))
         go_roundg k1
         case measure => have := HK1.out; omega
         case rel => exact ⟨(x7_1), (wrap64 (x14_1 + 1)), (by first | rfl | (simp; done) | (simp [*]; done)), (by first | rfl | (simp; done) | (simp [*]; done)), H', ⟨by have := HK1.out; omega⟩, by repeat (first | exact Drawn0.refl _ | apply Drawn0.step)⟩
       ·
        rw [if_neg c10] at H
        have c10b0 : decide (0 ≤ t991) = false := decide_eq_false c10
        clear c10
        have H' := Aside0.mk H
        clear H
        have p989 : 0 ≤ (x14_1 : Int) := of_decide_eq_true (by first | (with_reducible assumption) | assumption)
        have q989 : x14_1 < (l0.length : Int) := of_decide_eq_true (by first | (with_reducible assumption) | assumption)
        obtain ⟨ad989, A989_0, c989_0, e989, hx989_0, hl989_0, hi989_0⟩ := at_L4 HR0.out x14_1 p989 q989
        cases e989
        have HR989_0 := Aside0.mk hi989_0
        have HC989_0 := Aside0.mk hl989_0
        clear hi989_0 hl989_0
        replace p989 := eq_true p989
        replace q989 := eq_true q989
        go_wp2_with (first | ((with_reducible refine gate_callee (f := 103) rfl ?_); refine goesL_ (some 20) rfl rfl Try.func103 (by kernel_rfl) rfl #[.slice A989_0 (rd_L4 l0 x14_1).length c989_0, .int .i64 a1] rfl (by (try simp only [List.map_toArray, List.map_cons, List.map_nil]); first | done | rfl | (simp only [List.length_drop, List.length_take]; rfl)) ?_; (with_reducible refine (slices_Index_int_int.calls k1 _ _ (rd_L4 l0 x14_1) a1 t990 _ ?side1 ?side2 A7.out).mono ?_); (case side1 => repeat (first | exact HR989_0.out | (with_reducible refine Kd.C_alloc ?_ _) | (with_reducible refine Kd.C_drewN ?_ _) | (with_reducible refine Kd.C_drew ?_))); (case side2 => exact HC989_0.out); rintro e w' ⟨rfl, ⟨nd, rfl⟩⟩; refine ⟨_, rfl, ?_⟩) | ((with_reducible refine gate_callee (f := 103) rfl ?_); refine goesL_ (some 23) rfl rfl Try.func103 (by kernel_rfl) rfl #[.slice A989_0 (rd_L4 l0 x14_1).length c989_0, .int .i64 a2] rfl (by (try simp only [List.map_toArray, List.map_cons, List.map_nil]); first | done | rfl | (simp only [List.length_drop, List.length_take]; rfl)) ?_; (with_reducible refine (slices_Index_int_int.calls k1 _ _ (rd_L4 l0 x14_1) a2 t991 _ ?side1 ?side2 A8.out).mono ?_); (case side1 => repeat (first | exact HR989_0.out | (with_reducible refine Kd.C_alloc ?_ _) | (with_reducible refine Kd.C_drewN ?_ _) | (with_reducible refine Kd.C_drew ?_))); (case side2 => exact HC989_0.out); rintro e w' ⟨rfl, ⟨nd, rfl⟩⟩; refine ⟨_, rfl, ?_⟩))
        go_roundg k1
        case measure => have := HK1.out; omega
        case rel => exact ⟨(x7_1), (wrap64 (x14_1 + 1)), (by first | rfl | (simp; done) | (simp [*]; done)), (by first | rfl | (simp; done) | (simp [*]; done)), H', ⟨by have := HK1.out; omega⟩, by repeat (first | exact Drawn0.refl _ | apply Drawn0.step)⟩
      ·
       rw [if_neg c9] at H
       have c9b0 : decide (0 ≤ t990) = false := decide_eq_false c9
       clear c9
       have H' := Aside0.mk H
       clear H
       have p989 : 0 ≤ (x14_1 : Int) := of_decide_eq_true (by first | (with_reducible assumption) | assumption)
       have q989 : x14_1 < (l0.length : Int) := of_decide_eq_true (by first | (with_reducible assumption) | assumption)
       obtain ⟨ad989, A989_0, c989_0, e989, hx989_0, hl989_0, hi989_0⟩ := at_L4 HR0.out x14_1 p989 q989
       cases e989
       have HR989_0 := Aside0.mk hi989_0
       have HC989_0 := Aside0.mk hl989_0
       clear hi989_0 hl989_0
       replace p989 := eq_true p989
       replace q989 := eq_true q989
       go_wp2_with (first | ((with_reducible refine gate_callee (f := 103) rfl ?_); refine goesL_ (some 20) rfl rfl Try.func103 (by kernel_rfl) rfl #[.slice A989_0 (rd_L4 l0 x14_1).length c989_0, .int .i64 a1] rfl (by (try simp only [List.map_toArray, List.map_cons, List.map_nil]); first | done | rfl | (simp only [List.length_drop, List.length_take]; rfl)) ?_; (with_reducible refine (slices_Index_int_int.calls k1 _ _ (rd_L4 l0 x14_1) a1 t990 _ ?side1 ?side2 A7.out).mono ?_); (case side1 => repeat (first | exact HR989_0.out | (with_reducible refine Kd.C_alloc ?_ _) | (with_reducible refine Kd.C_drewN ?_ _) | (with_reducible refine Kd.C_drew ?_))); (case side2 => exact HC989_0.out); rintro e w' ⟨rfl, ⟨nd, rfl⟩⟩; refine ⟨_, rfl, ?_⟩) | ((with_reducible refine gate_callee (f := 103) rfl ?_); refine goesL_ (some 23) rfl rfl Try.func103 (by kernel_rfl) rfl #[.slice A989_0 (rd_L4 l0 x14_1).length c989_0, .int .i64 a2] rfl (by (try simp only [List.map_toArray, List.map_cons, List.map_nil]); first | done | rfl | (simp only [List.length_drop, List.length_take]; rfl)) ?_; (with_reducible refine (slices_Index_int_int.calls k1 _ _ (rd_L4 l0 x14_1) a2 t991 _ ?side1 ?side2 A8.out).mono ?_); (case side1 => repeat (first | exact HR989_0.out | (with_reducible refine Kd.C_alloc ?_ _) | (with_reducible refine Kd.C_drewN ?_ _) | (with_reducible refine Kd.C_drew ?_))); (case side2 => exact HC989_0.out); rintro e w' ⟨rfl, ⟨nd, rfl⟩⟩; refine ⟨_, rfl, ?_⟩))
       go_roundg k1
       case measure => have := HK1.out; omega
       case rel => exact ⟨(x7_1), (wrap64 (x14_1 + 1)), (by first | rfl | (simp; done) | (simp [*]; done)), (by first | rfl | (simp; done) | (simp [*]; done)), H', ⟨by have := HK1.out; omega⟩, by repeat (first | exact Drawn0.refl _ | apply Drawn0.step)⟩
     ·
      rw [if_neg c6] at H
      exact absurd H (by simp)
    ·
     rw [if_neg c5] at H
     exact absurd H (by simp)
   ·
    rw [if_neg c4] at H
    have c4b0 : decide (x14_1 < (l0.length : Int)) = false := decide_eq_false c4
    clear c4
    obtain rfl := Option.some.inj H
    go_wp2
    go_ret
    exact ⟨by first | rfl | (simp; done) | (simp [*]; done), by repeat (first | exact Drawn0.refl _ | apply Drawn0.step)⟩
end Go.Proofs.Ytadcndmhdbhfkaa.A
end

section
namespace Go.Proofs.Ytadcndmhdbhfkaa.A
open Go.RowKit Go.Proofs.YtadcndmhdbhfkaaW.PrintWords Go.Proofs.YtadcndmhdbhfkaaW.PrintLast Go.Proofs.YtadcndmhdbhfkaaW.PrintMore
attribute [local go_sem] max2_int min2_int max_two min_two max_three min_three max_four min_four   -- for this text's walks alone
set_option linter.unusedVariables false
set_option linter.unusedSimpArgs false
mutual
def impl_PairWinner.l0 : Nat → List (List Int) → Int → Int → Int → Option (Int)
  | 0, _, _, _, _ => none
  | k + 1, x0, x1, x12, x13 => if x13 < x12 then (impl_PairWinner.l1 k x0 x1 x13 true x12 x13 x1 0) else (some (-1))
def impl_PairWinner.l1 : Nat → List (List Int) → Int → Int → Bool → Int → Int → Int → Int → Option (Int)
  | 0, _, _, _, _, _, _, _, _ => none
  | k + 1, x0, x1, x5, x6, x12, x13, x16, x17 => if x17 < x16 then (if x6 = true then (if x5 = x17 then (impl_PairWinner.l1 k x0 x1 x5 true x12 x13 x16 (wrap64 (x17 + 1))) else ((impl_Prefer.f k x0 x5 x17).bind fun t993 => ((impl_Prefer.f k x0 x17 x5).bind fun t994 => (impl_PairWinner.l1 k x0 x1 x5 (decide (t993 > t994)) x12 x13 x16 (wrap64 (x17 + 1)))))) else (impl_PairWinner.l1 k x0 x1 x5 false x12 x13 x16 (wrap64 (x17 + 1)))) else (if x6 = true then (some x5) else (impl_PairWinner.l0 k x0 x1 x12 (wrap64 (x13 + 1))))
end
def impl_PairWinner.f (k : Nat) (l0 : List (List Int)) (a1 : Int) : Option (Int) := (impl_AreRankings.f k l0 a1).bind fun t992 => (if t992 = true then (impl_PairWinner.l0 k l0 a1 a1 0) else (some (-1)))
set_option maxHeartbeats 8000000 in
set_option maxRecDepth 100000 in
theorem impl_PairWinner.calls (k : Nat) (A0 : Option Addr) (c0 : Nat) (l0 : List (List Int)) (a1 : Int) (r : Int) (w : World) (hr0 : Kd.C (Kd.slice 3 (Kd.int .i64)) w A0 l0.length l0) (hc0 : l0.length ≤ c0) (h : impl_PairWinner.f k l0 a1 = some r) :
  Calls Try.prog 56 #[.slice A0 l0.length c0, .int .i64 a1] w fun e w' => e = .returned (.int .i64 r) ∧ Drawn0 w w' := by
 have HR0 := Aside0.mk hr0
 have HC0 := Aside0.mk hc0
 clear hr0 hc0
 have H : ((impl_AreRankings.f k l0 a1).bind fun t992 => (if t992 = true then (impl_PairWinner.l0 k l0 a1 a1 0) else (some (-1)))) = some r := h
 clear h
 replace H := Option.bind_eq_some_iff.mp H
 obtain ⟨t992, A30, H⟩ := H
 replace H : (if t992 = true then (impl_PairWinner.l0 k l0 a1 a1 0) else (some (-1))) = some r := H
 have A3 := Aside0.mk A30
 clear A30
 by_cases c4 : t992 = true
 ·
  subst c4
  have H1 : (impl_PairWinner.l0 k l0 a1 a1 0) = some r := by rw [if_pos rfl] at H; exact H
  clear H
  have H := H1
  clear H1
  have H' := Aside0.mk H
  clear H
  go_enter Try.func56, Try.ntmps56
  go_wp2_with (first | ((with_reducible refine gate_callee (f := 57) rfl ?_); refine goesL_ (some 10) rfl rfl Try.func57 (by kernel_rfl) rfl #[.slice A0 l0.length c0, .int .i64 a1] rfl (by (try simp only [List.map_toArray, List.map_cons, List.map_nil]); first | done | rfl | (simp only [List.length_drop, List.length_take]; rfl)) ?_; (with_reducible refine (impl_AreRankings.calls k _ _ l0 a1 true _ ?side1 ?side2 A3.out).mono ?_); (case side1 => repeat (first | exact HR0.out | (with_reducible refine Kd.C_alloc ?_ _) | (with_reducible refine Kd.C_drewN ?_ _) | (with_reducible refine Kd.C_drew ?_))); (case side2 => exact HC0.out); rintro e w' ⟨rfl, ⟨nd, rfl⟩⟩; refine ⟨_, rfl, ?_⟩))
  go_loopg [13] k (fun kq v13 w' => ∃ (x13_1 : Int), v13 = .int .i64 x13_1 ∧ Aside0 (impl_PairWinner.l0 kq l0 a1 a1 x13_1 = some r) ∧ Aside0 (kq ≤ k) ∧ Drawn0 w w')
  case atStart => exact ⟨(0), (by first | rfl | (simp; done) | (simp [*]; done)), H', ⟨Nat.le_refl _⟩, by repeat (first | exact Drawn0.refl _ | apply Drawn0.step)⟩
  case round =>
   clear H'
   try clear p2
   try clear c4
   obtain ⟨x13_1, rfl, HA, HK1, ⟨m1, rfl⟩⟩ := hrel
   cases gk with
   | zero => exact absurd HA.out (by simp [impl_PairWinner.l0])
   | succ k1 =>
    have H := HA.out
    clear HA
    simp only [impl_PairWinner.l0] at H
    by_cases c5 : x13_1 < a1
    ·
     rw [if_pos c5] at H
     have c5b0 : decide (x13_1 < a1) = true := decide_eq_true c5
     clear c5
     have H' := Aside0.mk H
     clear H
     go_wp2
     go_loopg [6, 17] k1 (fun kq v6 v17 w' => ∃ (x6_2 : Bool) (x17_2 : Int), v6 = .bool x6_2 ∧ v17 = .int .i64 x17_2 ∧ Aside0 (impl_PairWinner.l1 kq l0 a1 x13_1 x6_2 a1 x13_1 a1 x17_2 = some r) ∧ Aside0 (kq ≤ k1) ∧ Drawn0 w w')
     case atStart => exact ⟨(true), (0), (by first | rfl | (simp; done) | (simp [*]; done)), (by first | rfl | (simp; done) | (simp [*]; done)), H', ⟨Nat.le_refl _⟩, by repeat (first | exact Drawn0.refl _ | apply Drawn0.step)⟩
     case round =>
      clear H'
      try clear p2
      try clear c4
      try clear c5
      try clear c5b0
      try clear p2
      obtain ⟨x6_2, x17_2, rfl, rfl, HA, HK2, ⟨m2, rfl⟩⟩ := hrel
      cases gk with
      | zero => exact absurd HA.out (by simp [impl_PairWinner.l1])
      | succ k2 =>
       have H := HA.out
       clear HA
       simp only [impl_PairWinner.l1] at H
       by_cases c6 : x17_2 < a1
       ·
        rw [if_pos c6] at H
        have c6b0 : decide (x17_2 < a1) = true := decide_eq_true c6
        clear c6
        by_cases c7 : x6_2 = true
        ·
         subst c7
         have H1 : (if x13_1 = x17_2 then (impl_PairWinner.l1 k2 l0 a1 x13_1 true a1 x13_1 a1 (wrap64 (x17_2 + 1))) else ((impl_Prefer.f k2 l0 x13_1 x17_2).bind fun t993 => ((impl_Prefer.f k2 l0 x17_2 x13_1).bind fun t994 => (impl_PairWinner.l1 k2 l0 a1 x13_1 (decide (t993 > t994)) a1 x13_1 a1 (wrap64 (x17_2 + 1)))))) = some r := by rw [if_pos rfl] at H; exact H
         clear H
         have H := H1
         clear H1
         by_cases c8 : x13_1 = x17_2
         ·
          rw [if_pos c8] at H
          have c8b0 : (x13_1 == x17_2) = true := beq_iff_eq.mpr c8
          have c8b1 : (x13_1 != x17_2) = false := bne_eq_false_iff_eq.mpr c8
          clear c8
          have H' := Aside0.mk H
          clear H
          go_wp2
          go_roundg k2
          case measure => have := HK1.out; have := HK2.out; omega
          case rel => exact ⟨(true), (wrap64 (x17_2 + 1)), (by first | rfl | (simp; done) | (simp [*]; done)), (by first | rfl | (simp; done) | (simp [*]; done)), H', ⟨by have := HK1.out; have := HK2.out; omega⟩, by repeat (first | exact Drawn0.refl _ | apply Drawn0.step)⟩
         ·
          rw [if_neg c8] at H
          have c8b0 : (x13_1 == x17_2) = false := beq_eq_false_iff_ne.mpr c8
          have c8b1 : (x13_1 != x17_2) = true := bne_iff_ne.mpr c8
          replace H := Option.bind_eq_some_iff.mp H
          obtain ⟨t993, A90, H⟩ := H
          replace H : ((impl_Prefer.f k2 l0 x17_2 x13_1).bind fun t994 => (impl_PairWinner.l1 k2 l0 a1 x13_1 (decide (t993 > t994)) a1 x13_1 a1 (wrap64 (x17_2 + 1)))) = some r := H
          have A9 := Aside0.mk A90
          clear A90
          replace H := Option.bind_eq_some_iff.mp H
          obtain ⟨t994, A100, H⟩ := H
          replace H : (impl_PairWinner.l1 k2 l0 a1 x13_1 (decide (t993 > t994)) a1 x13_1 a1 (wrap64 (x17_2 + 1))) = some r := H
          have A10 := Aside0.mk A100
          clear A100
          have H' := Aside0.mk H
          clear H
          go_wp2_with (first | (go_at_call 59; (with_reducible refine (impl_Prefer.calls k2 _ _ l0 x13_1 x17_2 t993 _ ?side1 ?side2 A9.out).mono ?_); (case side1 => repeat (first | exact HR0.out | (with_reducible refine Kd.C_alloc ?_ _) | (with_reducible refine Kd.C_drewN ?_ _) | (with_reducible refine Kd.C_drew ?_))); (case side2 => exact HC0.out); rintro e w' ⟨rfl, ⟨nd, rfl⟩⟩) | (go_at_call 59; (with_reducible refine (impl_Prefer.calls k2 _ _ l0 x17_2 x13_1 t994 _ ?side1 ?side2 A10.out).mono ?_); (case side1 => repeat (first | exact HR0.out | (with_reducible refine Kd.C_alloc ?_ _) | (with_reducible refine Kd.C_drewN ?_ _) | (with_reducible refine Kd.C_drew ?_))); (case side2 => exact HC0.out); rintro e w' ⟨rfl, ⟨nd, rfl⟩⟩))
          go_roundg k2
          case measure => have := HK1.out; have := HK2.out; omega
          case rel => exact ⟨(decide (t993 > t994)), (wrap64 (x17_2 + 1)), (by first | rfl | (simp; done) | (simp [*]; done)), (by first | rfl | (simp; done) | (simp [*]; done)), H', ⟨by have := HK1.out; have := HK2.out; omega⟩, by repeat (first | exact Drawn0.refl _ | apply Drawn0.step)⟩
        ·
         replace c7 := Bool.eq_false_iff.mpr c7
         subst c7
         have H1 : (impl_PairWinner.l1 k2 l0 a1 x13_1 false a1 x13_1 a1 (wrap64 (x17_2 + 1))) = some r := by rw [if_neg (show ¬ (false = true) by decide)] at H; exact H
         clear H
         have H := H1
         clear H1
         have H' := Aside0.mk H
         clear H
         go_wp2
         go_roundg k2
         case measure => have := HK1.out; have := HK2.out; omega
         case rel => exact ⟨(false), (wrap64 (x17_2 + 1)), (by first | rfl | (simp; done) | (simp [*]; done)), (by first | rfl | (simp; done) | (simp [*]; done)), H', ⟨by have := HK1.out; have := HK2.out; omega⟩, by repeat (first | exact Drawn0.refl _ | apply Drawn0.step)⟩
       ·
        rw [if_neg c6] at H
        have c6b0 : decide (x17_2 < a1) = false := decide_eq_false c6
        clear c6
        by_cases c11 : x6_2 = true
        ·
         subst c11
         have H1 : (some x13_1) = some r := by rw [if_pos rfl] at H; exact H
         clear H
         have H := H1
         clear H1
         obtain rfl := Option.some.inj H
         go_wp2
         go_ret
         exact ⟨by first | rfl | (simp; done) | (simp [*]; done), by repeat (first | exact Drawn0.refl _ | apply Drawn0.step)⟩
        ·
         replace c11 := Bool.eq_false_iff.mpr c11
         subst c11
         have H1 : (impl_PairWinner.l0 k2 l0 a1 a1 (wrap64 (x13_1 + 1))) = some r := by rw [if_neg (show ¬ (false = true) by decide)] at H; exact H
         clear H
         have H := H1
         clear H1
         have H' := Aside0.mk H
         clear H
         go_wp2
         go_roundg k2
         case measure => have := HK1.out; have := HK2.out; omega
         case rel => exact ⟨(wrap64 (x13_1 + 1)), (by first | rfl | (simp; done) | (simp [*]; done)), H', ⟨by have := HK1.out; have := HK2.out; omega⟩, by repeat (first | exact Drawn0.refl _ | apply Drawn0.step)⟩
    ·
     rw [if_neg c5] at H
     have c5b0 : decide (x13_1 < a1) = false := decide_eq_false c5
     clear c5
     obtain rfl := Option.some.inj H
     go_wp2
     go_ret
     exact ⟨by first | rfl | (simp; done) | (simp [*]; done), by repeat (first | exact Drawn0.refl _ | apply Drawn0.step)⟩
 ·
  replace c4 := Bool.eq_false_iff.mpr c4
  subst c4
  have H1 : (some (-1)) = some r := by rw [if_neg (show ¬ (false = true) by decide)] at H; exact H
  clear H
  have H := H1
  clear H1
  obtain rfl := Option.some.inj H
  go_enter Try.func56, Try.ntmps56
  go_wp2_with (first | ((with_reducible refine gate_callee (f := 57) rfl ?_); refine goesL_ (some 10) rfl rfl Try.func57 (by kernel_rfl) rfl #[.slice A0 l0.length c0, .int .i64 a1] rfl (by (try simp only [List.map_toArray, List.map_cons, List.map_nil]); first | done | rfl | (simp only [List.length_drop, List.length_take]; rfl)) ?_; (with_reducible refine (impl_AreRankings.calls k _ _ l0 a1 false _ ?side1 ?side2 A3.out).mono ?_); (case side1 => repeat (first | exact HR0.out | (with_reducible refine Kd.C_alloc ?_ _) | (with_reducible refine Kd.C_drewN ?_ _) | (with_reducible refine Kd.C_drew ?_))); (case side2 => exact HC0.out); rintro e w' ⟨rfl, ⟨nd, rfl⟩⟩; refine ⟨_, rfl, ?_⟩))
  go_ret
  exact ⟨by first | rfl | (simp; done) | (simp [*]; done), by repeat (first | exact Drawn0.refl _ | apply Drawn0.step)⟩
end Go.Proofs.Ytadcndmhdbhfkaa.A
end

section
namespace Go.Proofs.Ytadcndmhdbhfkaa.A
open Go.RowKit Go.Proofs.YtadcndmhdbhfkaaW.PrintWords Go.Proofs.YtadcndmhdbhfkaaW.PrintLast Go.Proofs.YtadcndmhdbhfkaaW.PrintMore
attribute [local go_sem] max2_int min2_int max_two min_two max_three min_three max_four min_four   -- for this text's walks alone
set_option linter.unusedVariables false
set_option linter.unusedSimpArgs false
def laws_sum.l0 : Nat → List Int → Int → Int → Option (Int)
  | 0, _, _, _ => none
  | k + 1, x0, x3, x4 => if x4 < (x0.length : Int) then (if 0 ≤ x4 then (laws_sum.l0 k x0 (wrap64 (x3 + (rd x0 x4))) (wrap64 (x4 + 1))) else (none)) else (some x3)
def laws_sum.f (k : Nat) (l0 : List Int) : Option (Int) := laws_sum.l0 k l0 0 0
set_option maxHeartbeats 8000000 in
set_option maxRecDepth 100000 in
theorem laws_sum.calls (k : Nat) (A0 : Option Addr) (c0 : Nat) (l0 : List Int) (r : Int) (w : World) (hr0 : Kd.C (Kd.int .i64) w A0 l0.length l0) (hc0 : l0.length ≤ c0) (h : laws_sum.f k l0 = some r) :
  Calls Try.prog 58 #[.slice A0 l0.length c0] w fun e w' => e = .returned (.int .i64 r) ∧ Drawn0 w w' := by
 have HR0 := Aside0.mk hr0
 have HC0 := Aside0.mk hc0
 clear hr0 hc0
 have H : (laws_sum.l0 k l0 0 0) = some r := h
 clear h
 have H' := Aside0.mk H
 clear H
 go_enter Try.func58, Try.ntmps58
 go_wp2
 go_loopg [3, 4] k (fun kq v3 v4 w' => ∃ (x3_1 : Int) (x4_1 : Int), v3 = .int .i64 x3_1 ∧ v4 = .int .i64 x4_1 ∧ Aside0 (laws_sum.l0 kq l0 x3_1 x4_1 = some r) ∧ Aside0 (kq ≤ k) ∧ Drawn0 w w')
 case atStart => exact ⟨(0), (0), (by first | rfl | (simp; done) | (simp [*]; done)), (by first | rfl | (simp; done) | (simp [*]; done)), H', ⟨Nat.le_refl _⟩, by repeat (first | exact Drawn0.refl _ | apply Drawn0.step)⟩
 case round =>
  clear H'
  obtain ⟨x3_1, x4_1, rfl, rfl, HA, HK1, ⟨m1, rfl⟩⟩ := hrel
  cases gk with
  | zero => exact absurd HA.out (by simp [laws_sum.l0])
  | succ k1 =>
   have H := HA.out
   clear HA
   simp only [laws_sum.l0] at H
   by_cases c2 : x4_1 < (l0.length : Int)
   ·
    rw [if_pos c2] at H
    have c2b0 : decide (x4_1 < (l0.length : Int)) = true := decide_eq_true c2
    clear c2
    by_cases c3 : 0 ≤ x4_1
    ·
     rw [if_pos c3] at H
     have c3b0 : decide (0 ≤ x4_1) = true := decide_eq_true c3
     clear c3
     have H' := Aside0.mk H
     clear H
     have p995 : 0 ≤ (x4_1 : Int) := of_decide_eq_true (by first | (with_reducible assumption) | assumption)
     have q995 : x4_1 < (l0.length : Int) := of_decide_eq_true (by first | (with_reducible assumption) | assumption)
     obtain ⟨ad995, e995, hx995_0⟩ := Kd.at_int HR0.out x4_1 p995 q995
     cases e995
     replace p995 := eq_true p995
     replace q995 := eq_true q995
     go_wp2
     go_roundg k1
     case measure => have := HK1.out; omega
     case rel => exact ⟨(wrap64 (x3_1 + (rd l0 x4_1))), (wrap64 (x4_1 + 1)), (by first | rfl | (simp; done) | (simp [*]; done)), (by first | rfl | (simp; done) | (simp [*]; done)), H', ⟨by have := HK1.out; omega⟩, by repeat (first | exact Drawn0.refl _ | apply Drawn0.step)⟩
    ·
     rw [if_neg c3] at H
     exact absurd H (by simp)
   ·
    rw [if_neg c2] at H
    have c2b0 : decide (x4_1 < (l0.length : Int)) = false := decide_eq_false c2
    clear c2
    obtain rfl := Option.some.inj H
    go_wp2
    go_ret
    exact ⟨by first | rfl | (simp; done) | (simp [*]; done), by repeat (first | exact Drawn0.refl _ | apply Drawn0.step)⟩
end Go.Proofs.Ytadcndmhdbhfkaa.A
end

section
namespace Go.Proofs.Ytadcndmhdbhfkaa.A
open Go.RowKit Go.Proofs.YtadcndmhdbhfkaaW.PrintWords Go.Proofs.YtadcndmhdbhfkaaW.PrintLast Go.Proofs.YtadcndmhdbhfkaaW.PrintMore
attribute [local go_sem] max2_int min2_int max_two min_two max_three min_three max_four min_four   -- for this text's walks alone
set_option linter.unusedVariables false
set_option linter.unusedSimpArgs false
def spec_DrawIsRanking.f (k : Nat) (l0 : List Int) : Option (List Int × Int) := (spec_l1New.f k l0).bind fun bt1001 => ((spec_l17Any.f k bt1001.1 bt1001.2.1 bt1001.2.2).bind fun bt1005 => (if (bt1005.1.length : Int) = 0 then (some ((([0] : List Int)), bt1005.2.1)) else (if 0 ≤ (wrap64 ((bt1005.1.length : Int) - 1)) then (if (wrap64 ((bt1005.1.length : Int) - 1)) < (bt1005.1.length : Int) then (some (rd_L4 bt1005.1 (wrap64 ((bt1005.1.length : Int) - 1)), bt1005.2.1)) else (none)) else (none))))
set_option maxHeartbeats 8000000 in
set_option maxRecDepth 100000 in
theorem spec_DrawIsRanking.calls (k : Nat) (A0 : Option Addr) (c0 : Nat) (l0 : List Int) (r1 : List Int) (r2 : Int) (w : World) (hr0 : Kd.C (Kd.int .u8) w A0 l0.length l0) (hc0 : l0.length ≤ c0) (h : spec_DrawIsRanking.f k l0 = some (r1, r2)) :
  Calls Try.prog 60 #[.slice A0 l0.length c0] w fun e w' => ∃ v0_ : Value, e = .returned (.tuple #[v0_, .int .i64 r2]) ∧ Kd.R (Kd.int .i64) 3 w' w.heap.size (fun _ => True) v0_ r1 ∧ Below w.heap.size w w' := by
 have HR0 := Aside0.mk hr0
 have HC0 := Aside0.mk hc0
 clear hr0 hc0
 have HB := Aside0.mk (Below.refl w.heap.size w)
 have H : ((spec_l1New.f k l0).bind fun bt1001 => ((spec_l17Any.f k bt1001.1 bt1001.2.1 bt1001.2.2).bind fun bt1005 => (if (bt1005.1.length : Int) = 0 then (some ((([0] : List Int)), bt1005.2.1)) else (if 0 ≤ (wrap64 ((bt1005.1.length : Int) - 1)) then (if (wrap64 ((bt1005.1.length : Int) - 1)) < (bt1005.1.length : Int) then (some (rd_L4 bt1005.1 (wrap64 ((bt1005.1.length : Int) - 1)), bt1005.2.1)) else (none)) else (none))))) = some (r1, r2) := h
 clear h
 replace H := Option.bind_eq_some_iff.mp H
 obtain ⟨⟨t1001, t1002, t1003⟩, A20, H⟩ := H
 replace H : ((spec_l17Any.f k t1001 t1002 t1003).bind fun bt1005 => (if (bt1005.1.length : Int) = 0 then (some ((([0] : List Int)), bt1005.2.1)) else (if 0 ≤ (wrap64 ((bt1005.1.length : Int) - 1)) then (if (wrap64 ((bt1005.1.length : Int) - 1)) < (bt1005.1.length : Int) then (some (rd_L4 bt1005.1 (wrap64 ((bt1005.1.length : Int) - 1)), bt1005.2.1)) else (none)) else (none)))) = some (r1, r2) := H
 have A2 := Aside0.mk A20
 clear A20
 replace H := Option.bind_eq_some_iff.mp H
 obtain ⟨⟨t1005, t1008, t1009, t1010⟩, A30, H⟩ := H
 replace H : (if (t1005.length : Int) = 0 then (some ((([0] : List Int)), t1008)) else (if 0 ≤ (wrap64 ((t1005.length : Int) - 1)) then (if (wrap64 ((t1005.length : Int) - 1)) < (t1005.length : Int) then (some (rd_L4 t1005 (wrap64 ((t1005.length : Int) - 1)), t1008)) else (none)) else (none))) = some (r1, r2) := H
 have A3 := Aside0.mk A30
 clear A30
 by_cases c4 : (t1005.length : Int) = 0
 ·
  rw [if_pos c4] at H
  have c4b0 : ((t1005.length : Int) == 0) = true := beq_iff_eq.mpr c4
  have c4b1 : ((t1005.length : Int) != 0) = false := bne_eq_false_iff_eq.mpr c4
  clear c4
  obtain ⟨y1011, hy1011⟩ : ∃ y_ : List Int, y_ = (([0] : List Int)) := ⟨_, rfl⟩
  replace H : (some (y1011, t1008)) = some (r1, r2) := by first | (rw [hy1011]; with_reducible exact H) | (have H2_ := (Option.bind_some _ _).symm.trans H; rw [hy1011]; with_reducible exact H2_) | (have H2_ := (Option.bind_some _ _).symm.trans H; with_reducible exact H2_) | with_reducible exact H | (rw [hy1011]; exact H) | exact H
  have Ny1011 := Aside0.mk hy1011
  clear hy1011
  simp only [Option.some.injEq, Prod.mk.injEq] at H
  obtain ⟨rfl, rfl⟩ := H
  go_enter Try.func60, Try.ntmps60
  go_wp2_with (first | ((with_reducible refine gate_callee (f := 75) rfl ?_); refine goesL_ (some 8) rfl rfl Try.func75 (by kernel_rfl) rfl #[.slice A0 l0.length c0] rfl (by (try simp only [List.map_toArray, List.map_cons, List.map_nil]); first | done | rfl | (simp only [List.length_drop, List.length_take]; rfl)) ?_; (with_reducible refine (spec_l1New.calls k _ _ l0 t1001 t1002 t1003 w _ ?side1 ?side2 ?side3 A2.out).mono ?_); (case side1 => repeat (first | (with_reducible first | exact HB.out | apply below_alloc | apply pw_below_drewN | apply below_drew1) | exact HB.out)); (case side2 => exact HR0.out); (case side3 => exact HC0.out); rintro e w5 ⟨g1004, rfl, hi, hb, hb2⟩; refine ⟨_, rfl, ?_⟩; have n0_ := Aside0.mk (hb); have n1_ := Aside0.mk (hi); clear HB; have HB := n0_; have HI1004 := n1_; clear n0_ n1_; (try clear hb); (try clear hb2); (try clear hk); (try clear hi)) | ((with_reducible refine gate_callee (f := 104) rfl ?_); refine goesL_ (some 11) rfl rfl Try.func104 (by kernel_rfl) rfl #[.pointer (some ⟨g1004, 0, none⟩)] rfl (by (try simp only [List.map_toArray, List.map_cons, List.map_nil]); first | done | rfl | (simp only [List.length_drop, List.length_take]; rfl)) ?_; (with_reducible refine (spec_l17Any.calls k g1004 t1001 t1002 t1003 t1005 t1008 t1009 t1010 w _ ?side1 ?side2 A3.out).mono ?_); (case side1 => repeat (first | (with_reducible first | exact HI1004.out | apply IsS105.alloc | apply IsS105.drewN | apply IsS105.drew | apply IsS105.set_1 | apply IsS105.set_2) | exact HI1004.out)); (case side2 => repeat (first | (with_reducible first | exact HB.out | apply below_alloc | apply pw_below_drewN | apply below_drew1 | refine below_set ?_ (IsS105.ge HI1004.out)) | exact HB.out)); rintro e w6 ⟨v1006, rfl, ho0, hi, hb, hk⟩; refine ⟨_, rfl, ?_⟩; have n0_ := Aside0.mk (Kd.S_lower ho0 (below_size (by repeat (first | (with_reducible first | exact HB.out | apply below_alloc | apply pw_below_drewN | apply below_drew1 | refine below_set ?_ (IsS105.ge HI1004.out)) | exact HB.out)))); have n1_ := Aside0.mk (hb); have n2_ := Aside0.mk (hi); clear HB; clear HI1004; have HO1007 := n0_; have HB := n1_; have HI1004 := n2_; clear n0_ n1_ n2_; (try clear hb); (try clear hb2); (try clear hk); (try clear hi); (try clear ho0); obtain ⟨Ao7, co7, eo7⟩ := Kd.S_slice HO1007.out; subst eo7) | ((with_reducible refine gate_dst (N := 17) rfl ?_); refine Kd.R_lit (Kd.int .i64) _ 3 ?hg (N := 17) ?hd (xs := ([0] : List Int)) (inner := [.int .i64 0]) (ok := fun _ => True) (okp := fun _ => True) ?hr ?hp (fun _ hk => hk) trivial (Below.refl _ _) (Nat.le_refl _) (by simp) ?_; (case hd => rfl); (case hg => rfl); (case hr => first | (go_simp; done) | (go_simp; rfl)); (case hp => exact (Reps.one (show Kd.M (Kd.int .i64) _ _ _ 0 [.int .i64 0] from rfl) (Reps.none _ _))); intro v1012 w8 ho9 hb hg_ hnew_; clear hg_ hnew_; (first | rw [← Ny1011.out] at ho9 | (simp only [Int.reduceToNat] at ho9; rw [← Ny1011.out] at ho9)); have n0_ := Aside0.mk (Kd.S_elder' (by (with_reducible repeat (first | apply Kd.S_alloc | apply Kd.S_drewN | apply Kd.S_drew)); exact HO1007.out) (Kd.R_base ho9) hb); have n1_ := Aside0.mk (Kd.R_lower ho9 (below_size (by repeat (first | (with_reducible first | exact HB.out | apply below_alloc | apply pw_below_drewN | apply below_drew1 | refine below_set ?_ (IsS105.ge HI1004.out)) | exact HB.out)))); have n2_ := Aside0.mk (IsS105.below (by repeat (first | (with_reducible first | exact HI1004.out | apply IsS105.alloc | apply IsS105.drewN | apply IsS105.drew | apply IsS105.set_1 | apply IsS105.set_2) | exact HI1004.out)) hb); have n3_ := Aside0.mk (below_step (by repeat (first | (with_reducible first | exact HB.out | apply below_alloc | apply pw_below_drewN | apply below_drew1 | refine below_set ?_ (IsS105.ge HI1004.out)) | exact HB.out)) hb); clear HO1007; clear HI1004; clear HB; have HO1007 := n0_; have HO1013 := n1_; have HI1004 := n2_; have HB := n3_; clear n0_ n1_ n2_ n3_; clear hb ho9))
  go_ret2
  exact ⟨_, by first | rfl | (simp [errW_none, errW_some] <;> rfl) | (simp [*, errW_none, errW_some] <;> rfl), by (with_reducible repeat (first | apply Kd.R_alloc | apply Kd.R_drewN | apply Kd.R_drew)); exact HO1013.out, by repeat (first | (with_reducible first | exact HB.out | apply below_alloc | apply pw_below_drewN | apply below_drew1 | refine below_set ?_ (IsS105.ge HI1004.out)) | exact HB.out)⟩
 ·
  rw [if_neg c4] at H
  have c4b0 : ((t1005.length : Int) == 0) = false := beq_eq_false_iff_ne.mpr c4
  have c4b1 : ((t1005.length : Int) != 0) = true := bne_iff_ne.mpr c4
  have c4b2 : ¬ (t1005 = []) := fun h_ => c4 (by rw [h_]; rfl)
  obtain ⟨ji10, hji10⟩ : ∃ j_ : Int, (wrap64 ((t1005.length : Int) - 1)) = j_ := ⟨_, rfl⟩
  replace H : (if 0 ≤ (ji10) then (if (ji10) < (t1005.length : Int) then (some (rd_L4 t1005 (ji10), t1008)) else (none)) else (none)) = some (r1, r2) := by first | (rw [hji10] at H; exact H) | (simp only [hji10] at H ⊢; exact H)
  (try rw [hji10] at A2)
  (try rw [hji10] at A3)
  have hji10w : (IntKind.i64.wrap ((t1005.length : Int) - 1)) = ji10 := (i64_w _).trans hji10
  by_cases c11 : 0 ≤ (ji10)
  ·
   rw [if_pos c11] at H
   have c11b0 : decide (0 ≤ (ji10)) = true := decide_eq_true c11
   clear c11
   by_cases c12 : (ji10) < (t1005.length : Int)
   ·
    rw [if_pos c12] at H
    have c12b0 : decide ((ji10) < (t1005.length : Int)) = true := decide_eq_true c12
    clear c12
    simp only [Option.some.injEq, Prod.mk.injEq] at H
    obtain ⟨rfl, rfl⟩ := H
    go_enter Try.func60, Try.ntmps60
    go_wp2_with (first | ((with_reducible refine gate_callee (f := 75) rfl ?_); refine goesL_ (some 8) rfl rfl Try.func75 (by kernel_rfl) rfl #[.slice A0 l0.length c0] rfl (by (try simp only [List.map_toArray, List.map_cons, List.map_nil]); first | done | rfl | (simp only [List.length_drop, List.length_take]; rfl)) ?_; (with_reducible refine (spec_l1New.calls k _ _ l0 t1001 t1002 t1003 w _ ?side1 ?side2 ?side3 A2.out).mono ?_); (case side1 => repeat (first | (with_reducible first | exact HB.out | apply below_alloc | apply pw_below_drewN | apply below_drew1) | exact HB.out)); (case side2 => exact HR0.out); (case side3 => exact HC0.out); rintro e w13 ⟨g1004, rfl, hi, hb, hb2⟩; refine ⟨_, rfl, ?_⟩; have n0_ := Aside0.mk (hb); have n1_ := Aside0.mk (hi); clear HB; have HB := n0_; have HI1004 := n1_; clear n0_ n1_; (try clear hb); (try clear hb2); (try clear hk); (try clear hi)) | ((with_reducible refine gate_callee (f := 104) rfl ?_); refine goesL_ (some 11) rfl rfl Try.func104 (by kernel_rfl) rfl #[.pointer (some ⟨g1004, 0, none⟩)] rfl (by (try simp only [List.map_toArray, List.map_cons, List.map_nil]); first | done | rfl | (simp only [List.length_drop, List.length_take]; rfl)) ?_; (with_reducible refine (spec_l17Any.calls k g1004 t1001 t1002 t1003 t1005 t1008 t1009 t1010 w _ ?side1 ?side2 A3.out).mono ?_); (case side1 => repeat (first | (with_reducible first | exact HI1004.out | apply IsS105.alloc | apply IsS105.drewN | apply IsS105.drew | apply IsS105.set_1 | apply IsS105.set_2) | exact HI1004.out)); (case side2 => repeat (first | (with_reducible first | exact HB.out | apply below_alloc | apply pw_below_drewN | apply below_drew1 | refine below_set ?_ (IsS105.ge HI1004.out)) | exact HB.out)); rintro e w14 ⟨v1006, rfl, ho0, hi, hb, hk⟩; refine ⟨_, rfl, ?_⟩; have n0_ := Aside0.mk (Kd.S_lower ho0 (below_size (by repeat (first | (with_reducible first | exact HB.out | apply below_alloc | apply pw_below_drewN | apply below_drew1 | refine below_set ?_ (IsS105.ge HI1004.out)) | exact HB.out)))); have n1_ := Aside0.mk (hb); have n2_ := Aside0.mk (hi); clear HB; clear HI1004; have HO1007 := n0_; have HB := n1_; have HI1004 := n2_; clear n0_ n1_ n2_; (try clear hb); (try clear hb2); (try clear hk); (try clear hi); (try clear ho0); obtain ⟨Ao15, co15, eo15⟩ := Kd.S_slice HO1007.out; subst eo15; have p1014 : 0 ≤ ((ji10) : Int) := of_decide_eq_true (by first | (with_reducible assumption) | assumption); have q1014 : (ji10) < (t1005.length : Int) := of_decide_eq_true (by first | (with_reducible assumption) | assumption); obtain ⟨ad1014, A1014_0, c1014_0, e1014, hx1014_0, hl1014_0, hi1014_0⟩ := at_L4 (Kd.S_reads' HO1007.out).2.2 (ji10) p1014 q1014; cases e1014; obtain ⟨ce1014, hce1014, hMe1014, hcc1014⟩ := Kd.S_get HO1007.out [] (ji10) p1014 (by first | exact q1014 | exact of_decide_eq_true (by first | (with_reducible assumption) | assumption) | (have e_ := (Kd.S_reads' HO1007.out).1; omega)); obtain ⟨ve1014_0, rfl, ge1014_0⟩ := hMe1014; have hv1014_0 := hcc1014 0 _ rfl; rw [Nat.add_zero, show ((Kd.slice 3 (Kd.int .i64))).sz = 1 from rfl, Nat.mul_one] at hv1014_0; replace hv1014_0 := Option.some.inj (hv1014_0.symm.trans hx1014_0); rw [hv1014_0] at ge1014_0; have HL1014_0 := Aside0.mk (show Kd.R (Kd.int .i64) 3 _ _ _ _ (rd_L4 t1005 (ji10)) from ge1014_0); clear hv1014_0 ge1014_0; clear hcc1014 hce1014; have HR1014_0 := Aside0.mk hi1014_0; have HC1014_0 := Aside0.mk hl1014_0; clear hi1014_0 hl1014_0; replace p1014 := eq_true p1014; replace q1014 := eq_true q1014))
    go_ret2
    exact ⟨_, by first | rfl | (simp [errW_none, errW_some] <;> rfl) | (simp only [← hji10]; first | rfl | (simp [errW_none, errW_some] <;> rfl)) | (simp [*, errW_none, errW_some] <;> rfl), by (with_reducible repeat (first | apply Kd.R_alloc | apply Kd.R_drewN | apply Kd.R_drew)); exact Kd.R_mono HL1014_0.out (fun _ hk => trivial), by repeat (first | (with_reducible first | exact HB.out | apply below_alloc | apply pw_below_drewN | apply below_drew1 | refine below_set ?_ (IsS105.ge HI1004.out)) | exact HB.out)⟩
   ·
    rw [if_neg c12] at H
    exact absurd H (by simp)
  ·
   rw [if_neg c11] at H
   exact absurd H (by simp)
end Go.Proofs.Ytadcndmhdbhfkaa.A
end

section
namespace Go.Proofs.Ytadcndmhdbhfkaa.A
open Go.RowKit Go.Proofs.YtadcndmhdbhfkaaW.PrintWords Go.Proofs.YtadcndmhdbhfkaaW.PrintLast Go.Proofs.YtadcndmhdbhfkaaW.PrintMore
attribute [local go_sem] max2_int min2_int max_two min_two max_three min_three max_four min_four   -- for this text's walks alone
set_option linter.unusedVariables false
set_option linter.unusedSimpArgs false
mutual
def laws_FnRankings.j0 : Nat → List Int → List (List Int) → Int → Int → Int → Bool → Option (Bool)
  | 0, _, _, _, _, _, _ => none
  | k + 1, x0, x3, x4, x5, x7, x70 => if x70 = true then (some false) else (laws_FnRankings.l0 k x0 x3 x4 x5 x7 0)
def laws_FnRankings.l0 : Nat → List Int → List (List Int) → Int → Int → Int → Int → Option (Bool)
  | 0, _, _, _, _, _, _ => none
  | k + 1, x0, x3, x4, x5, x7, x8 => if x8 < x4 then (laws_FnRankings.l1 k x0 x3 x4 x5 x7 x8 0 0) else ((spec_DrawIsRanking.f k x0).bind fun bt1027 => ((impl_IsRanking.f k bt1027.1 bt1027.2).bind fun t1031 => (if t1031 = true then (some ((bt1027.1.length : Int) == bt1027.2)) else (some true))))
def laws_FnRankings.l1 : Nat → List Int → List (List Int) → Int → Int → Int → Int → Int → Int → Option (Bool)
  | 0, _, _, _, _, _, _, _, _ => none
  | k + 1, x0, x3, x4, x5, x7, x8, x9, x10 => if x10 < (x3.length : Int) then (if 0 ≤ x10 then (if 0 < ((rd_L4 x3 x10).length : Int) then (if (rd (rd_L4 x3 x10) 0) = x8 then (laws_FnRankings.l1 k x0 x3 x4 x5 x7 x8 (wrap64 (x9 + 1)) (wrap64 (x10 + 1))) else (laws_FnRankings.l1 k x0 x3 x4 x5 x7 x8 x9 (wrap64 (x10 + 1)))) else (none)) else (none)) else (if (wrap64 (2 * x9)) > (x3.length : Int) then (if x7 = x8 then (laws_FnRankings.j3 k x0 x3 x4 x5 x7 x8 (x5 != x8)) else (laws_FnRankings.j3 k x0 x3 x4 x5 x7 x8 true)) else (laws_FnRankings.j3 k x0 x3 x4 x5 x7 x8 false))
def laws_FnRankings.j3 : Nat → List Int → List (List Int) → Int → Int → Int → Int → Bool → Option (Bool)
  | 0, _, _, _, _, _, _, _ => none
  | k + 1, x0, x3, x4, x5, x7, x8, x106 => if x106 = true then (some false) else (laws_FnRankings.l2 k x0 x3 x4 x5 x7 x8 0)
def laws_FnRankings.l2 : Nat → List Int → List (List Int) → Int → Int → Int → Int → Int → Option (Bool)
  | 0, _, _, _, _, _, _, _ => none
  | k + 1, x0, x3, x4, x5, x7, x8, x11 => if x11 < x4 then (if x8 = x11 then (laws_FnRankings.l2 k x0 x3 x4 x5 x7 x8 (wrap64 (x11 + 1))) else ((impl_Prefer.f k x3 x8 x11).bind fun t1034 => ((impl_Prefer.f k x3 x11 x8).bind fun t1035 => (if (wrap64 (t1034 + t1035)) = (x3.length : Int) then (laws_FnRankings.l2 k x0 x3 x4 x5 x7 x8 (wrap64 (x11 + 1))) else (some false))))) else (laws_FnRankings.l0 k x0 x3 x4 x5 x7 (wrap64 (x8 + 1)))
end
def laws_FnRankings.f (k : Nat) (l0 : List Int) : Option (Bool) := (laws_big.f l0).bind fun t1015 => (if t1015 = true then (some true) else ((spec_DrawRunOff.f k l0).bind fun bt1016 => ((impl_RunOff.f k bt1016.1 bt1016.2).bind fun t1020 => ((impl_PlacePoints.f k bt1016.1 bt1016.2).bind fun t1021 => ((impl_PairWinner.f k bt1016.1 bt1016.2).bind fun t1024 => ((impl_AreRankings.f k bt1016.1 bt1016.2).bind fun t1025 => (if t1025 = true then (if t1020 < 0 then (laws_FnRankings.j0 k l0 bt1016.1 bt1016.2 t1020 t1024 true) else (if t1020 ≥ bt1016.2 then (laws_FnRankings.j0 k l0 bt1016.1 bt1016.2 t1020 t1024 true) else (if (t1021.length : Int) = bt1016.2 then ((laws_sum.f k t1021).bind fun t1026 => (laws_FnRankings.j0 k l0 bt1016.1 bt1016.2 t1020 t1024 ((wrap64 (2 * t1026)) != (wrap64 ((wrap64 ((bt1016.1.length : Int) * bt1016.2)) * (wrap64 (bt1016.2 - 1))))))) else (laws_FnRankings.j0 k l0 bt1016.1 bt1016.2 t1020 t1024 true)))) else (if t1020 = (-1) then (if t1024 = (-1) then (some ((t1021.length : Int) == 0)) else (some false)) else (some false)))))))))
set_option maxHeartbeats 8000000 in
set_option maxRecDepth 100000 in
theorem laws_FnRankings.calls (k : Nat) (A0 : Option Addr) (c0 : Nat) (l0 : List Int) (r : Bool) (w : World) (hr0 : Kd.C (Kd.int .u8) w A0 l0.length l0) (hc0 : l0.length ≤ c0) (h : laws_FnRankings.f k l0 = some r) :
  Calls Try.prog 11 #[.slice A0 l0.length c0] w fun e w' => e = .returned (.bool r) ∧ Below w.heap.size w w' := by
 have HR0 := Aside0.mk hr0
 have HC0 := Aside0.mk hc0
 clear hr0 hc0
 have HB := Aside0.mk (Below.refl w.heap.size w)
 have H : ((laws_big.f l0).bind fun t1015 => (if t1015 = true then (some true) else ((spec_DrawRunOff.f k l0).bind fun bt1016 => ((impl_RunOff.f k bt1016.1 bt1016.2).bind fun t1020 => ((impl_PlacePoints.f k bt1016.1 bt1016.2).bind fun t1021 => ((impl_PairWinner.f k bt1016.1 bt1016.2).bind fun t1024 => ((impl_AreRankings.f k bt1016.1 bt1016.2).bind fun t1025 => (if t1025 = true then (if t1020 < 0 then (laws_FnRankings.j0 k l0 bt1016.1 bt1016.2 t1020 t1024 true) else (if t1020 ≥ bt1016.2 then (laws_FnRankings.j0 k l0 bt1016.1 bt1016.2 t1020 t1024 true) else (if (t1021.length : Int) = bt1016.2 then ((laws_sum.f k t1021).bind fun t1026 => (laws_FnRankings.j0 k l0 bt1016.1 bt1016.2 t1020 t1024 ((wrap64 (2 * t1026)) != (wrap64 ((wrap64 ((bt1016.1.length : Int) * bt1016.2)) * (wrap64 (bt1016.2 - 1))))))) else (laws_FnRankings.j0 k l0 bt1016.1 bt1016.2 t1020 t1024 true)))) else (if t1020 = (-1) then (if t1024 = (-1) then (some ((t1021.length : Int) == 0)) else (some false)) else (some false)))))))))) = some r := h
 clear h
 replace H := Option.bind_eq_some_iff.mp H
 obtain ⟨t1015, A20, H⟩ := H
 replace H : (if t1015 = true then (some true) else ((spec_DrawRunOff.f k l0).bind fun bt1016 => ((impl_RunOff.f k bt1016.1 bt1016.2).bind fun t1020 => ((impl_PlacePoints.f k bt1016.1 bt1016.2).bind fun t1021 => ((impl_PairWinner.f k bt1016.1 bt1016.2).bind fun t1024 => ((impl_AreRankings.f k bt1016.1 bt1016.2).bind fun t1025 => (if t1025 = true then (if t1020 < 0 then (laws_FnRankings.j0 k l0 bt1016.1 bt1016.2 t1020 t1024 true) else (if t1020 ≥ bt1016.2 then (laws_FnRankings.j0 k l0 bt1016.1 bt1016.2 t1020 t1024 true) else (if (t1021.length : Int) = bt1016.2 then ((laws_sum.f k t1021).bind fun t1026 => (laws_FnRankings.j0 k l0 bt1016.1 bt1016.2 t1020 t1024 ((wrap64 (2 * t1026)) != (wrap64 ((wrap64 ((bt1016.1.length : Int) * bt1016.2)) * (wrap64 (bt1016.2 - 1))))))) else (laws_FnRankings.j0 k l0 bt1016.1 bt1016.2 t1020 t1024 true)))) else (if t1020 = (-1) then (if t1024 = (-1) then (some ((t1021.length : Int) == 0)) else (some false)) else (some false))))))))) = some r := H
 have A2 := Aside0.mk A20
 clear A20
 by_cases c3 : t1015 = true
 ·
  subst c3
  have H1 : (some true) = some r := by rw [if_pos rfl] at H; exact H
  clear H
  have H := H1
  clear H1
  obtain rfl := Option.some.inj H
  go_enter Try.func11, Try.ntmps11
  go_wp2_with (first | ((with_reducible refine gate_callee (f := 26) rfl ?_); refine goesL_ (some 15) rfl rfl Try.func26 (by kernel_rfl) rfl #[.slice A0 l0.length c0] rfl (by (try simp only [List.map_toArray, List.map_cons, List.map_nil]); first | done | rfl | (simp only [List.length_drop, List.length_take]; rfl)) ?_; (with_reducible refine (laws_big.calls _ _ l0 true _ ?side1 ?side2 A2.out).mono ?_); (case side1 => repeat (first | exact HR0.out | (with_reducible refine Kd.C_alloc ?_ _) | (with_reducible refine Kd.C_drewN ?_ _) | (with_reducible refine Kd.C_drew ?_))); (case side2 => exact HC0.out); rintro e w' ⟨rfl, ⟨nd, rfl⟩⟩; refine ⟨_, rfl, ?_⟩))
  go_ret
  exact ⟨by first | rfl | (simp [errW_none, errW_some] <;> rfl) | (simp [*, errW_none, errW_some] <;> rfl), by repeat (first | (with_reducible first | exact HB.out | apply below_alloc | apply pw_below_drewN | apply below_drew1) | exact HB.out)⟩
 ·
  replace c3 := Bool.eq_false_iff.mpr c3
  subst c3
  have H1 : ((spec_DrawRunOff.f k l0).bind fun bt1016 => ((impl_RunOff.f k bt1016.1 bt1016.2).bind fun t1020 => ((impl_PlacePoints.f k bt1016.1 bt1016.2).bind fun t1021 => ((impl_PairWinner.f k bt1016.1 bt1016.2).bind fun t1024 => ((impl_AreRankings.f k bt1016.1 bt1016.2).bind fun t1025 => (if t1025 = true then (if t1020 < 0 then (laws_FnRankings.j0 k l0 bt1016.1 bt1016.2 t1020 t1024 true) else (if t1020 ≥ bt1016.2 then (laws_FnRankings.j0 k l0 bt1016.1 bt1016.2 t1020 t1024 true) else (if (t1021.length : Int) = bt1016.2 then ((laws_sum.f k t1021).bind fun t1026 => (laws_FnRankings.j0 k l0 bt1016.1 bt1016.2 t1020 t1024 ((wrap64 (2 * t1026)) != (wrap64 ((wrap64 ((bt1016.1.length : Int) * bt1016.2)) * (wrap64 (bt1016.2 - 1))))))) else (laws_FnRankings.j0 k l0 bt1016.1 bt1016.2 t1020 t1024 true)))) else (if t1020 = (-1) then (if t1024 = (-1) then (some ((t1021.length : Int) == 0)) else (some false)) else (some false)))))))) = some r := by rw [if_neg (show ¬ (false = true) by decide)] at H; exact H
  clear H
  have H := H1
  clear H1
  replace H := Option.bind_eq_some_iff.mp H
  obtain ⟨⟨t1016, t1017⟩, A40, H⟩ := H
  replace H : ((impl_RunOff.f k t1016 t1017).bind fun t1020 => ((impl_PlacePoints.f k t1016 t1017).bind fun t1021 => ((impl_PairWinner.f k t1016 t1017).bind fun t1024 => ((impl_AreRankings.f k t1016 t1017).bind fun t1025 => (if t1025 = true then (if t1020 < 0 then (laws_FnRankings.j0 k l0 t1016 t1017 t1020 t1024 true) else (if t1020 ≥ t1017 then (laws_FnRankings.j0 k l0 t1016 t1017 t1020 t1024 true) else (if (t1021.length : Int) = t1017 then ((laws_sum.f k t1021).bind fun t1026 => (laws_FnRankings.j0 k l0 t1016 t1017 t1020 t1024 ((wrap64 (2 * t1026)) != (wrap64 ((wrap64 ((t1016.length : Int) * t1017)) * (wrap64 (t1017 - 1))))))) else (laws_FnRankings.j0 k l0 t1016 t1017 t1020 t1024 true)))) else (if t1020 = (-1) then (if t1024 = (-1) then (some ((t1021.length : Int) == 0)) else (some false)) else (some false))))))) = some r := H
  have A4 := Aside0.mk A40
  clear A40
  replace H := Option.bind_eq_some_iff.mp H
  obtain ⟨t1020, A50, H⟩ := H
  replace H : ((impl_PlacePoints.f k t1016 t1017).bind fun t1021 => ((impl_PairWinner.f k t1016 t1017).bind fun t1024 => ((impl_AreRankings.f k t1016 t1017).bind fun t1025 => (if t1025 = true then (if t1020 < 0 then (laws_FnRankings.j0 k l0 t1016 t1017 t1020 t1024 true) else (if t1020 ≥ t1017 then (laws_FnRankings.j0 k l0 t1016 t1017 t1020 t1024 true) else (if (t1021.length : Int) = t1017 then ((laws_sum.f k t1021).bind fun t1026 => (laws_FnRankings.j0 k l0 t1016 t1017 t1020 t1024 ((wrap64 (2 * t1026)) != (wrap64 ((wrap64 ((t1016.length : Int) * t1017)) * (wrap64 (t1017 - 1))))))) else (laws_FnRankings.j0 k l0 t1016 t1017 t1020 t1024 true)))) else (if t1020 = (-1) then (if t1024 = (-1) then (some ((t1021.length : Int) == 0)) else (some false)) else (some false)))))) = some r := H
  have A5 := Aside0.mk A50
  clear A50
  replace H := Option.bind_eq_some_iff.mp H
  obtain ⟨t1021, A60, H⟩ := H
  replace H : ((impl_PairWinner.f k t1016 t1017).bind fun t1024 => ((impl_AreRankings.f k t1016 t1017).bind fun t1025 => (if t1025 = true then (if t1020 < 0 then (laws_FnRankings.j0 k l0 t1016 t1017 t1020 t1024 true) else (if t1020 ≥ t1017 then (laws_FnRankings.j0 k l0 t1016 t1017 t1020 t1024 true) else (if (t1021.length : Int) = t1017 then ((laws_sum.f k t1021).bind fun t1026 => (laws_FnRankings.j0 k l0 t1016 t1017 t1020 t1024 ((wrap64 (2 * t1026)) != (wrap64 ((wrap64 ((t1016.length : Int) * t1017)) * (wrap64 (t1017 - 1))))))) else (laws_FnRankings.j0 k l0 t1016 t1017 t1020 t1024 true)))) else (if t1020 = (-1) then (if t1024 = (-1) then (some ((t1021.length : Int) == 0)) else (some false)) else (some false))))) = some r := H
  have A6 := Aside0.mk A60
  clear A60
  replace H := Option.bind_eq_some_iff.mp H
  obtain ⟨t1024, A70, H⟩ := H
  replace H : ((impl_AreRankings.f k t1016 t1017).bind fun t1025 => (if t1025 = true then (if t1020 < 0 then (laws_FnRankings.j0 k l0 t1016 t1017 t1020 t1024 true) else (if t1020 ≥ t1017 then (laws_FnRankings.j0 k l0 t1016 t1017 t1020 t1024 true) else (if (t1021.length : Int) = t1017 then ((laws_sum.f k t1021).bind fun t1026 => (laws_FnRankings.j0 k l0 t1016 t1017 t1020 t1024 ((wrap64 (2 * t1026)) != (wrap64 ((wrap64 ((t1016.length : Int) * t1017)) * (wrap64 (t1017 - 1))))))) else (laws_FnRankings.j0 k l0 t1016 t1017 t1020 t1024 true)))) else (if t1020 = (-1) then (if t1024 = (-1) then (some ((t1021.length : Int) == 0)) else (some false)) else (some false)))) = some r := H
  have A7 := Aside0.mk A70
  clear A70
  replace H := Option.bind_eq_some_iff.mp H
  obtain ⟨t1025, A80, H⟩ := H
  replace H : (if t1025 = true then (if t1020 < 0 then (laws_FnRankings.j0 k l0 t1016 t1017 t1020 t1024 true) else (if t1020 ≥ t1017 then (laws_FnRankings.j0 k l0 t1016 t1017 t1020 t1024 true) else (if (t1021.length : Int) = t1017 then ((laws_sum.f k t1021).bind fun t1026 => (laws_FnRankings.j0 k l0 t1016 t1017 t1020 t1024 ((wrap64 (2 * t1026)) != (wrap64 ((wrap64 ((t1016.length : Int) * t1017)) * (wrap64 (t1017 - 1))))))) else (laws_FnRankings.j0 k l0 t1016 t1017 t1020 t1024 true)))) else (if t1020 = (-1) then (if t1024 = (-1) then (some ((t1021.length : Int) == 0)) else (some false)) else (some false))) = some r := H
  have A8 := Aside0.mk A80
  clear A80
  by_cases c9 : t1025 = true
  ·
   subst c9
   have H1 : (if t1020 < 0 then (laws_FnRankings.j0 k l0 t1016 t1017 t1020 t1024 true) else (if t1020 ≥ t1017 then (laws_FnRankings.j0 k l0 t1016 t1017 t1020 t1024 true) else (if (t1021.length : Int) = t1017 then ((laws_sum.f k t1021).bind fun t1026 => (laws_FnRankings.j0 k l0 t1016 t1017 t1020 t1024 ((wrap64 (2 * t1026)) != (wrap64 ((wrap64 ((t1016.length : Int) * t1017)) * (wrap64 (t1017 - 1))))))) else (laws_FnRankings.j0 k l0 t1016 t1017 t1020 t1024 true)))) = some r := by rw [if_pos rfl] at H; exact H
   clear H
   have H := H1
   clear H1
   have HC10 := Aside0.mk H
   clear H
   go_enter Try.func11, Try.ntmps11
   go_upto_region 9 with (first | ((with_reducible refine gate_callee (f := 26) rfl ?_); refine goesL_ (some 15) rfl rfl Try.func26 (by kernel_rfl) rfl #[.slice A0 l0.length c0] rfl (by (try simp only [List.map_toArray, List.map_cons, List.map_nil]); first | done | rfl | (simp only [List.length_drop, List.length_take]; rfl)) ?_; (with_reducible refine (laws_big.calls _ _ l0 false _ ?side1 ?side2 A2.out).mono ?_); (case side1 => repeat (first | exact HR0.out | (with_reducible refine Kd.C_alloc ?_ _) | (with_reducible refine Kd.C_drewN ?_ _) | (with_reducible refine Kd.C_drew ?_))); (case side2 => exact HC0.out); rintro e w' ⟨rfl, ⟨nd, rfl⟩⟩; refine ⟨_, rfl, ?_⟩) | ((with_reducible refine gate_callee (f := 54) rfl ?_); refine goesL_ (some 18) rfl rfl Try.func54 (by kernel_rfl) rfl #[.slice A0 l0.length c0] rfl (by (try simp only [List.map_toArray, List.map_cons, List.map_nil]); first | done | rfl | (simp only [List.length_drop, List.length_take]; rfl)) ?_; (with_reducible refine (spec_DrawRunOff.calls k _ _ l0 t1016 t1017 _ ?side1 ?side2 A4.out).mono ?_); (case side1 => repeat (first | exact HR0.out | (with_reducible refine Kd.C_alloc ?_ _) | (with_reducible refine Kd.C_drewN ?_ _) | (with_reducible refine Kd.C_drew ?_))); (case side2 => exact HC0.out); rintro e w11 ⟨v1018, rfl, ho0, hb⟩; refine ⟨_, rfl, ?_⟩; have n0_ := Aside0.mk (Kd.S_lower ho0 (below_size (by repeat (first | (with_reducible first | exact HB.out | apply below_alloc | apply pw_below_drewN | apply below_drew1) | exact HB.out)))); have n1_ := Aside0.mk (below_step (by repeat (first | (with_reducible first | exact HB.out | apply below_alloc | apply pw_below_drewN | apply below_drew1) | exact HB.out)) hb); clear HB; have HO1019 := n0_; have HB := n1_; clear n0_ n1_; (try clear hb); (try clear hb2); (try clear hk); (try clear hi); (try clear ho0); obtain ⟨Ao12, co12, eo12⟩ := Kd.S_slice HO1019.out; subst eo12) | ((with_reducible refine gate_callee (f := 35) rfl ?_); refine goesL_ (some 23) rfl rfl Try.func35 (by kernel_rfl) rfl #[.slice Ao12 t1016.length co12, .int .i64 t1017] rfl (by (try simp only [List.map_toArray, List.map_cons, List.map_nil]); first | done | rfl | (simp only [List.length_drop, List.length_take]; rfl)) ?_; (with_reducible refine (impl_RunOff.calls k _ _ t1016 t1017 t1020 _ ?side1 ?side2 A5.out).mono ?_); (case side1 => repeat (first | exact (Kd.S_reads' HO1019.out).2.2 | (with_reducible refine Kd.C_alloc ?_ _) | (with_reducible refine Kd.C_drewN ?_ _) | (with_reducible refine Kd.C_drew ?_))); (case side2 => exact (Kd.S_reads' HO1019.out).2.1); rintro e w13 ⟨rfl, hb⟩; refine ⟨_, rfl, ?_⟩; have n0_ := Aside0.mk (Kd.S_below (by (with_reducible repeat (first | apply Kd.S_alloc | apply Kd.S_drewN | apply Kd.S_drew)); exact HO1019.out) hb); have n1_ := Aside0.mk (below_step (by repeat (first | (with_reducible first | exact HB.out | apply below_alloc | apply pw_below_drewN | apply below_drew1) | exact HB.out)) hb); clear HO1019; clear HB; have HO1019 := n0_; have HB := n1_; clear n0_ n1_; (try clear hb); (try clear hb2); (try clear hk); (try clear hi)) | ((with_reducible refine gate_callee (f := 55) rfl ?_); refine goesL_ (some 26) rfl rfl Try.func55 (by kernel_rfl) rfl #[.slice Ao12 t1016.length co12, .int .i64 t1017] rfl (by (try simp only [List.map_toArray, List.map_cons, List.map_nil]); first | done | rfl | (simp only [List.length_drop, List.length_take]; rfl)) ?_; (with_reducible refine (impl_PlacePoints.calls k _ _ t1016 t1017 t1021 _ ?side1 ?side2 A6.out).mono ?_); (case side1 => repeat (first | exact (Kd.S_reads' HO1019.out).2.2 | (with_reducible refine Kd.C_alloc ?_ _) | (with_reducible refine Kd.C_drewN ?_ _) | (with_reducible refine Kd.C_drew ?_))); (case side2 => exact (Kd.S_reads' HO1019.out).2.1); rintro e w14 ⟨v1022, rfl, ho0, hb⟩; refine ⟨_, rfl, ?_⟩; have n0_ := Aside0.mk (Kd.S_elder' (by (with_reducible repeat (first | apply Kd.S_alloc | apply Kd.S_drewN | apply Kd.S_drew)); exact HO1019.out) (Kd.R_base ho0) hb); have n1_ := Aside0.mk (Kd.R_lower ho0 (below_size (by repeat (first | (with_reducible first | exact HB.out | apply below_alloc | apply pw_below_drewN | apply below_drew1) | exact HB.out)))); have n2_ := Aside0.mk (below_step (by repeat (first | (with_reducible first | exact HB.out | apply below_alloc | apply pw_below_drewN | apply below_drew1) | exact HB.out)) hb); clear HO1019; clear HB; have HO1019 := n0_; have HO1023 := n1_; have HB := n2_; clear n0_ n1_ n2_; (try clear hb); (try clear hb2); (try clear hk); (try clear hi); (try clear ho0)) | ((with_reducible refine gate_callee (f := 56) rfl ?_); refine goesL_ (some 29) rfl rfl Try.func56 (by kernel_rfl) rfl #[.slice Ao12 t1016.length co12, .int .i64 t1017] rfl (by (try simp only [List.map_toArray, List.map_cons, List.map_nil]); first | done | rfl | (simp only [List.length_drop, List.length_take]; rfl)) ?_; (with_reducible refine (impl_PairWinner.calls k _ _ t1016 t1017 t1024 _ ?side1 ?side2 A7.out).mono ?_); (case side1 => repeat (first | exact (Kd.S_reads' HO1019.out).2.2 | (with_reducible refine Kd.C_alloc ?_ _) | (with_reducible refine Kd.C_drewN ?_ _) | (with_reducible refine Kd.C_drew ?_))); (case side2 => exact (Kd.S_reads' HO1019.out).2.1); rintro e w' ⟨rfl, ⟨nd, rfl⟩⟩; refine ⟨_, rfl, ?_⟩) | ((with_reducible refine gate_callee (f := 57) rfl ?_); refine goesL_ (some 32) rfl rfl Try.func57 (by kernel_rfl) rfl #[.slice Ao12 t1016.length co12, .int .i64 t1017] rfl (by (try simp only [List.map_toArray, List.map_cons, List.map_nil]); first | done | rfl | (simp only [List.length_drop, List.length_take]; rfl)) ?_; (with_reducible refine (impl_AreRankings.calls k _ _ t1016 t1017 true _ ?side1 ?side2 A8.out).mono ?_); (case side1 => repeat (first | exact (Kd.S_reads' HO1019.out).2.2 | (with_reducible refine Kd.C_alloc ?_ _) | (with_reducible refine Kd.C_drewN ?_ _) | (with_reducible refine Kd.C_drew ?_))); (case side2 => exact (Kd.S_reads' HO1019.out).2.1); rintro e w' ⟨rfl, ⟨nd, rfl⟩⟩; refine ⟨_, rfl, ?_⟩))
   (try simp only [Act.put, List.setIfInBounds_toArray, List.set_cons_zero, List.set_cons_succ])
   go_cut [70] (fun v70 wc => ∃ (kq : Nat) (x70_9 : Bool), v70 = .bool x70_9 ∧ Aside0 (laws_FnRankings.j0 kq l0 t1016 t1017 t1020 t1024 x70_9 = some r) ∧ Aside0 (kq ≤ k) ∧ Aside0 (Kd.S (Kd.slice 3 (Kd.int .i64)) 23 wc w.heap.size (fun _ => True) (.slice Ao12 t1016.length co12) t1016) ∧ Aside0 (Below w.heap.size w wc))
   case first =>
    have H := HC10.out
    clear HC10
    by_cases c15 : t1020 < 0
    ·
     rw [if_pos c15] at H
     have c15b0 : decide (t1020 < 0) = true := decide_eq_true c15
     clear c15
     (first | rw [c15b0] | (simp only [i64_w, i32_w]; rw [c15b0]) | skip)
     have H' := Aside0.mk H
     clear H
     go_wp2
     go_meet
     case rel => exact ⟨_, (true), (by first | rfl | (simp; done) | (simp [*]; done)), H', ⟨by first | omega | exact Nat.le_refl _⟩, ⟨by (with_reducible repeat (first | apply Kd.S_alloc | apply Kd.S_drewN | apply Kd.S_drew)); exact Kd.S_mono HO1019.out (fun _ hk => trivial)⟩, ⟨by repeat (first | (with_reducible first | exact HB.out | apply below_alloc | apply pw_below_drewN | apply below_drew1) | exact HB.out)⟩⟩
    ·
     rw [if_neg c15] at H
     have c15b0 : decide (t1020 < 0) = false := decide_eq_false c15
     clear c15
     (first | rw [c15b0] | (simp only [i64_w, i32_w]; rw [c15b0]) | skip)
     by_cases c16 : t1020 ≥ t1017
     ·
      rw [if_pos c16] at H
      have c16b0 : decide (t1017 ≤ t1020) = true := decide_eq_true c16
      clear c16
      have H' := Aside0.mk H
      clear H
      go_wp2
      go_meet
      case rel => exact ⟨_, (true), (by first | rfl | (simp; done) | (simp [*]; done)), H', ⟨by first | omega | exact Nat.le_refl _⟩, ⟨by (with_reducible repeat (first | apply Kd.S_alloc | apply Kd.S_drewN | apply Kd.S_drew)); exact Kd.S_mono HO1019.out (fun _ hk => trivial)⟩, ⟨by repeat (first | (with_reducible first | exact HB.out | apply below_alloc | apply pw_below_drewN | apply below_drew1) | exact HB.out)⟩⟩
     ·
      rw [if_neg c16] at H
      have c16b0 : decide (t1017 ≤ t1020) = false := decide_eq_false c16
      clear c16
      by_cases c17 : (t1021.length : Int) = t1017
      ·
       rw [if_pos c17] at H
       have c17b0 : ((t1021.length : Int) == t1017) = true := beq_iff_eq.mpr c17
       have c17b1 : ((t1021.length : Int) != t1017) = false := bne_eq_false_iff_eq.mpr c17
       clear c17
       replace H := Option.bind_eq_some_iff.mp H
       obtain ⟨t1026, A180, H⟩ := H
       replace H : (laws_FnRankings.j0 k l0 t1016 t1017 t1020 t1024 ((wrap64 (2 * t1026)) != (wrap64 ((wrap64 ((t1016.length : Int) * t1017)) * (wrap64 (t1017 - 1)))))) = some r := H
       have A18 := Aside0.mk A180
       clear A180
       have H' := Aside0.mk H
       clear H
       obtain ⟨Ao19, co19, eo19⟩ := Kd.R_slice HO1023.out
       subst eo19
       go_wp2_with (first | (go_at_call 58; (with_reducible refine (laws_sum.calls k _ _ t1021 t1026 _ ?side1 ?side2 A18.out).mono ?_); (case side1 => repeat (first | exact (Kd.R_reads' HO1023.out).2.2 | (with_reducible refine Kd.C_alloc ?_ _) | (with_reducible refine Kd.C_drewN ?_ _) | (with_reducible refine Kd.C_drew ?_))); (case side2 => exact (Kd.R_reads' HO1023.out).2.1); rintro e w' ⟨rfl, ⟨nd, rfl⟩⟩))
       go_meet
       case rel => exact ⟨_, (((wrap64 (2 * t1026)) != (wrap64 ((wrap64 ((t1016.length : Int) * t1017)) * (wrap64 (t1017 - 1)))))), (by first | rfl | (simp; done) | (simp [*]; done)), H', ⟨by first | omega | exact Nat.le_refl _⟩, ⟨by (with_reducible repeat (first | apply Kd.S_alloc | apply Kd.S_drewN | apply Kd.S_drew)); exact Kd.S_mono HO1019.out (fun _ hk => trivial)⟩, ⟨by repeat (first | (with_reducible first | exact HB.out | apply below_alloc | apply pw_below_drewN | apply below_drew1) | exact HB.out)⟩⟩
      ·
       rw [if_neg c17] at H
       have c17b0 : ((t1021.length : Int) == t1017) = false := beq_eq_false_iff_ne.mpr c17
       have c17b1 : ((t1021.length : Int) != t1017) = true := bne_iff_ne.mpr c17
       have H' := Aside0.mk H
       clear H
       obtain ⟨Ao20, co20, eo20⟩ := Kd.R_slice HO1023.out
       subst eo20
       go_wp2
       go_meet
       case rel => exact ⟨_, (true), (by first | rfl | (simp; done) | (simp [*]; done)), H', ⟨by first | omega | exact Nat.le_refl _⟩, ⟨by (with_reducible repeat (first | apply Kd.S_alloc | apply Kd.S_drewN | apply Kd.S_drew)); exact Kd.S_mono HO1019.out (fun _ hk => trivial)⟩, ⟨by repeat (first | (with_reducible first | exact HB.out | apply below_alloc | apply pw_below_drewN | apply below_drew1) | exact HB.out)⟩⟩
   case rest =>
    clear HC10
    try clear c1
    try clear c2
    try clear p2
    try clear c3
    try clear c5
    try clear p6
    try clear c9
    try clear c11
    try clear c15
    try clear c15b0
    try clear c16
    try clear c16b0
    try clear c17
    try clear c17b0
    try clear c17b1
    obtain ⟨kq, x70_9, rfl, HA, HJ9, HO_3, HB⟩ := hcut
    cases kq with
    | zero => exact absurd HA.out (by simp [laws_FnRankings.j0])
    | succ kj9 =>
     have H := HA.out
     clear HA
     simp only [laws_FnRankings.j0] at H
     by_cases c21 : x70_9 = true
     ·
      subst c21
      have H1 : (some false) = some r := by rw [if_pos rfl] at H; exact H
      clear H
      have H := H1
      clear H1
      obtain rfl := Option.some.inj H
      go_wp2
      go_ret
      exact ⟨by first | rfl | (simp [errW_none, errW_some] <;> rfl) | (simp [*, errW_none, errW_some] <;> rfl), by repeat (first | (with_reducible first | exact HB.out | apply below_alloc | apply pw_below_drewN | apply below_drew1) | exact HB.out)⟩
     ·
      replace c21 := Bool.eq_false_iff.mpr c21
      subst c21
      have H1 : (laws_FnRankings.l0 kj9 l0 t1016 t1017 t1020 t1024 0) = some r := by rw [if_neg (show ¬ (false = true) by decide)] at H; exact H
      clear H
      have H := H1
      clear H1
      have H' := Aside0.mk H
      clear H
      go_wp2
      go_loopg [8] kj9 (fun kq v8 w' => ∃ (x8_2 : Int), v8 = .int .i64 x8_2 ∧ Aside0 (laws_FnRankings.l0 kq l0 t1016 t1017 t1020 t1024 x8_2 = some r) ∧ Aside0 (kq ≤ kj9) ∧ Aside0 (Kd.S (Kd.slice 3 (Kd.int .i64)) 23 w' w.heap.size (fun _ => True) (.slice Ao12 t1016.length co12) t1016) ∧ Aside0 (Below w.heap.size w w'))
      case atStart => exact ⟨(0), (by first | rfl | (simp; done) | (simp [*]; done)), H', ⟨Nat.le_refl _⟩, ⟨by (with_reducible repeat (first | apply Kd.S_alloc | apply Kd.S_drewN | apply Kd.S_drew)); exact HO_3.out⟩, ⟨by repeat (first | (with_reducible first | exact HB.out | apply below_alloc | apply pw_below_drewN | apply below_drew1) | exact HB.out)⟩⟩
      case round =>
       clear H'
       try clear c1
       try clear c2
       try clear p2
       try clear c3
       try clear c5
       try clear p6
       try clear c9
       try clear c11
       try clear c15
       try clear c15b0
       try clear c16
       try clear c16b0
       try clear c17
       try clear c17b0
       try clear c17b1
       try clear c21
       try clear p2
       try clear p6
       obtain ⟨x8_2, rfl, HA, HK2, HO_3, HB⟩ := hrel
       cases gk with
       | zero => exact absurd HA.out (by simp [laws_FnRankings.l0])
       | succ k2 =>
        have H := HA.out
        clear HA
        simp only [laws_FnRankings.l0] at H
        by_cases c22 : x8_2 < t1017
        ·
         rw [if_pos c22] at H
         have c22b0 : decide (x8_2 < t1017) = true := decide_eq_true c22
         clear c22
         have H' := Aside0.mk H
         clear H
         go_wp2
         go_loopg [9, 10] k2 (fun kq v9 v10 w' => ∃ (x9_3 : Int) (x10_3 : Int), v9 = .int .i64 x9_3 ∧ v10 = .int .i64 x10_3 ∧ Aside0 (laws_FnRankings.l1 kq l0 t1016 t1017 t1020 t1024 x8_2 x9_3 x10_3 = some r) ∧ Aside0 (kq ≤ k2) ∧ Aside0 (Kd.S (Kd.slice 3 (Kd.int .i64)) 23 w' w.heap.size (fun _ => True) (.slice Ao12 t1016.length co12) t1016) ∧ Aside0 (Below w.heap.size w w'))
         case atStart => exact ⟨(0), (0), (by first | rfl | (simp; done) | (simp [*]; done)), (by first | rfl | (simp; done) | (simp [*]; done)), H', ⟨Nat.le_refl _⟩, ⟨by (with_reducible repeat (first | apply Kd.S_alloc | apply Kd.S_drewN | apply Kd.S_drew)); exact HO_3.out⟩, ⟨by repeat (first | (with_reducible first | exact HB.out | apply below_alloc | apply pw_below_drewN | apply below_drew1) | exact HB.out)⟩⟩
         case round =>
          clear H'
          try clear c1
          try clear c2
          try clear p2
          try clear c3
          try clear c5
          try clear p6
          try clear c9
          try clear c11
          try clear c15
          try clear c15b0
          try clear c16
          try clear c16b0
          try clear c17
          try clear c17b0
          try clear c17b1
          try clear c21
          try clear c22
          try clear c22b0
          try clear p2
          try clear p6
          obtain ⟨x9_3, x10_3, rfl, rfl, HA, HK3, HO_3, HB⟩ := hrel
          cases gk with
          | zero => exact absurd HA.out (by simp [laws_FnRankings.l1])
          | succ k3 =>
           have H := HA.out
           clear HA
           simp only [laws_FnRankings.l1] at H
           by_cases c23 : x10_3 < (t1016.length : Int)
           ·
            rw [if_pos c23] at H
            have c23b0 : decide (x10_3 < (t1016.length : Int)) = true := decide_eq_true c23
            clear c23
            by_cases c24 : 0 ≤ x10_3
            ·
             rw [if_pos c24] at H
             have c24b0 : decide (0 ≤ x10_3) = true := decide_eq_true c24
             clear c24
             by_cases c25 : 0 < ((rd_L4 t1016 x10_3).length : Int)
             ·
              rw [if_pos c25] at H
              have c25b0 : decide (0 < ((rd_L4 t1016 x10_3).length : Int)) = true := decide_eq_true c25
              have c25b1 : decide (0 < (rd_L4 t1016 x10_3).length) = true := decide_eq_true (by omega)
              clear c25
              by_cases c26 : (rd (rd_L4 t1016 x10_3) 0) = x8_2
              ·
               rw [if_pos c26] at H
               have c26b0 : ((rd (rd_L4 t1016 x10_3) 0) == x8_2) = true := beq_iff_eq.mpr c26
               have c26b1 : ((rd (rd_L4 t1016 x10_3) 0) != x8_2) = false := bne_eq_false_iff_eq.mpr c26
               clear c26
               have H' := Aside0.mk H
               clear H
               have p1032 : 0 ≤ (x10_3 : Int) := of_decide_eq_true (by first | (with_reducible assumption) | assumption)
               have q1032 : x10_3 < (t1016.length : Int) := of_decide_eq_true (by first | (with_reducible assumption) | assumption)
               obtain ⟨ad1032, A1032_0, c1032_0, e1032, hx1032_0, hl1032_0, hi1032_0⟩ := at_L4 (Kd.S_reads' HO_3.out).2.2 x10_3 p1032 q1032
               cases e1032
               obtain ⟨ce1032, hce1032, hMe1032, hcc1032⟩ := Kd.S_get HO_3.out [] x10_3 p1032 (by first | exact q1032 | exact of_decide_eq_true (by first | (with_reducible assumption) | assumption) | (have e_ := (Kd.S_reads' HO_3.out).1; omega))
               obtain ⟨ve1032_0, rfl, ge1032_0⟩ := hMe1032
               have hv1032_0 := hcc1032 0 _ rfl
               rw [Nat.add_zero, show ((Kd.slice 3 (Kd.int .i64))).sz = 1 from rfl, Nat.mul_one] at hv1032_0
               replace hv1032_0 := Option.some.inj (hv1032_0.symm.trans hx1032_0)
               rw [hv1032_0] at ge1032_0
               have HL1032_0 := Aside0.mk (show Kd.R (Kd.int .i64) 3 _ _ _ _ (rd_L4 t1016 x10_3) from ge1032_0)
               clear hv1032_0 ge1032_0
               clear hcc1032 hce1032
               have HR1032_0 := Aside0.mk hi1032_0
               have HC1032_0 := Aside0.mk hl1032_0
               clear hi1032_0 hl1032_0
               replace p1032 := eq_true p1032
               replace q1032 := eq_true q1032
               have p1033 : 0 ≤ (0 : Int) := (by omega)
               have q1033 : 0 < ((rd_L4 t1016 x10_3).length : Int) := of_decide_eq_true (by first | (with_reducible assumption) | assumption)
               obtain ⟨ad1033, e1033, hx1033_0⟩ := Kd.at_int (by repeat (first | (with_reducible exact HR1032_0.out) | (with_reducible refine Kd.C_alloc ?_ _) | (with_reducible refine Kd.C_drewN ?_ _) | (with_reducible refine Kd.C_drew ?_) | exact HR1032_0.out)) 0 p1033 q1033
               cases e1033
               have qi1033 : (0 < (rd_L4 t1016 x10_3).length) = True := eq_true (by omega)
               (try rw [show ((0 : Int)).toNat = 0 from rfl] at hx1033_0)
               (try rw [Addr.add_zero'] at hx1033_0)
               replace p1033 := eq_true p1033
               replace q1033 := eq_true q1033
               go_wp2
               go_roundg k3
               case measure => have := HJ9.out; have := HK2.out; have := HK3.out; omega
               case rel => exact ⟨(wrap64 (x9_3 + 1)), (wrap64 (x10_3 + 1)), (by first | rfl | (simp; done) | (simp [*]; done)), (by first | rfl | (simp; done) | (simp [*]; done)), H', ⟨by have := HJ9.out; have := HK2.out; have := HK3.out; omega⟩, ⟨by (with_reducible repeat (first | apply Kd.S_alloc | apply Kd.S_drewN | apply Kd.S_drew)); exact HO_3.out⟩, ⟨by repeat (first | (with_reducible first | exact HB.out | apply below_alloc | apply pw_below_drewN | apply below_drew1) | exact HB.out)⟩⟩
              ·
               rw [if_neg c26] at H
               have c26b0 : ((rd (rd_L4 t1016 x10_3) 0) == x8_2) = false := beq_eq_false_iff_ne.mpr c26
               have c26b1 : ((rd (rd_L4 t1016 x10_3) 0) != x8_2) = true := bne_iff_ne.mpr c26
               have H' := Aside0.mk H
               clear H
               have p1032 : 0 ≤ (x10_3 : Int) := of_decide_eq_true (by first | (with_reducible assumption) | assumption)
               have q1032 : x10_3 < (t1016.length : Int) := of_decide_eq_true (by first | (with_reducible assumption) | assumption)
               obtain ⟨ad1032, A1032_0, c1032_0, e1032, hx1032_0, hl1032_0, hi1032_0⟩ := at_L4 (Kd.S_reads' HO_3.out).2.2 x10_3 p1032 q1032
               cases e1032
               obtain ⟨ce1032, hce1032, hMe1032, hcc1032⟩ := Kd.S_get HO_3.out [] x10_3 p1032 (by first | exact q1032 | exact of_decide_eq_true (by first | (with_reducible assumption) | assumption) | (have e_ := (Kd.S_reads' HO_3.out).1; omega))
               obtain ⟨ve1032_0, rfl, ge1032_0⟩ := hMe1032
               have hv1032_0 := hcc1032 0 _ rfl
               rw [Nat.add_zero, show ((Kd.slice 3 (Kd.int .i64))).sz = 1 from rfl, Nat.mul_one] at hv1032_0
               replace hv1032_0 := Option.some.inj (hv1032_0.symm.trans hx1032_0)
               rw [hv1032_0] at ge1032_0
               have HL1032_0 := Aside0.mk (show Kd.R (Kd.int .i64) 3 _ _ _ _ (rd_L4 t1016 x10_3) from ge1032_0)
               clear hv1032_0 ge1032_0
               clear hcc1032 hce1032
               have HR1032_0 := Aside0.mk hi1032_0
               have HC1032_0 := Aside0.mk hl1032_0
               clear hi1032_0 hl1032_0
               replace p1032 := eq_true p1032
               replace q1032 := eq_true q1032
               have p1033 : 0 ≤ (0 : Int) := (by omega)
               have q1033 : 0 < ((rd_L4 t1016 x10_3).length : Int) := of_decide_eq_true (by first | (with_reducible assumption) | assumption)
               obtain ⟨ad1033, e1033, hx1033_0⟩ := Kd.at_int (by repeat (first | (with_reducible exact HR1032_0.out) | (with_reducible refine Kd.C_alloc ?_ _) | (with_reducible refine Kd.C_drewN ?_ _) | (with_reducible refine Kd.C_drew ?_) | exact HR1032_0.out)) 0 p1033 q1033
               cases e1033
               have qi1033 : (0 < (rd_L4 t1016 x10_3).length) = True := eq_true (by omega)
               (try rw [show ((0 : Int)).toNat = 0 from rfl] at hx1033_0)
               (try rw [Addr.add_zero'] at hx1033_0)
               replace p1033 := eq_true p1033
               replace q1033 := eq_true q1033
               go_wp2
               go_roundg k3
               case measure => have := HJ9.out; have := HK2.out; have := HK3.out; omega
               case rel => exact ⟨(x9_3), (wrap64 (x10_3 + 1)), (by first | rfl | (simp; done) | (simp [*]; done)), (by first | rfl | (simp; done) | (simp [*]; done)), H', ⟨by have := HJ9.out; have := HK2.out; have := HK3.out; omega⟩, ⟨by (with_reducible repeat (first | apply Kd.S_alloc | apply Kd.S_drewN | apply Kd.S_drew)); exact HO_3.out⟩, ⟨by repeat (first | (with_reducible first | exact HB.out | apply below_alloc | apply pw_below_drewN | apply below_drew1) | exact HB.out)⟩⟩
             ·
              rw [if_neg c25] at H
              exact absurd H (by simp)
            ·
             rw [if_neg c24] at H
             exact absurd H (by simp)
           ·
            rw [if_neg c23] at H
            have c23b0 : decide (x10_3 < (t1016.length : Int)) = false := decide_eq_false c23
            clear c23
            have HC27 := Aside0.mk H
            clear H
            go_upto_region 20 with (fail)
            go_cut [106] (fun v106 wc => ∃ (kq : Nat) (x106_26 : Bool), v106 = .bool x106_26 ∧ Aside0 (laws_FnRankings.j3 kq l0 t1016 t1017 t1020 t1024 x8_2 x106_26 = some r) ∧ Aside0 (kq ≤ k3) ∧ Aside0 (Kd.S (Kd.slice 3 (Kd.int .i64)) 23 wc w.heap.size (fun _ => True) (.slice Ao12 t1016.length co12) t1016) ∧ Aside0 (Below w.heap.size w wc))
            case first =>
             have H := HC27.out
             clear HC27
             by_cases c28 : (wrap64 (2 * x9_3)) > (t1016.length : Int)
             ·
              rw [if_pos c28] at H
              have c28b0 : decide ((t1016.length : Int) < (wrap64 (2 * x9_3))) = true := decide_eq_true c28
              clear c28
              (first | rw [c28b0] | (simp only [i64_w, i32_w]; rw [c28b0]) | skip)
              by_cases c29 : t1024 = x8_2
              ·
               rw [if_pos c29] at H
               have c29b0 : (t1024 == x8_2) = true := beq_iff_eq.mpr c29
               have c29b1 : (t1024 != x8_2) = false := bne_eq_false_iff_eq.mpr c29
               clear c29
               have H' := Aside0.mk H
               clear H
               go_wp2
               go_meet
               case rel => exact ⟨_, ((t1020 != x8_2)), (by first | rfl | (simp; done) | (simp [*]; done)), H', ⟨by have := HJ9.out; have := HK2.out; have := HK3.out; first | omega | exact Nat.le_refl _⟩, ⟨by (with_reducible repeat (first | apply Kd.S_alloc | apply Kd.S_drewN | apply Kd.S_drew)); exact HO_3.out⟩, ⟨by repeat (first | (with_reducible first | exact HB.out | apply below_alloc | apply pw_below_drewN | apply below_drew1) | exact HB.out)⟩⟩
              ·
               rw [if_neg c29] at H
               have c29b0 : (t1024 == x8_2) = false := beq_eq_false_iff_ne.mpr c29
               have c29b1 : (t1024 != x8_2) = true := bne_iff_ne.mpr c29
               have H' := Aside0.mk H
               clear H
               go_wp2
               go_meet
               case rel => exact ⟨_, (true), (by first | rfl | (simp; done) | (simp [*]; done)), H', ⟨by have := HJ9.out; have := HK2.out; have := HK3.out; first | omega | exact Nat.le_refl _⟩, ⟨by (with_reducible repeat (first | apply Kd.S_alloc | apply Kd.S_drewN | apply Kd.S_drew)); exact HO_3.out⟩, ⟨by repeat (first | (with_reducible first | exact HB.out | apply below_alloc | apply pw_below_drewN | apply below_drew1) | exact HB.out)⟩⟩
             ·
              rw [if_neg c28] at H
              have c28b0 : decide ((t1016.length : Int) < (wrap64 (2 * x9_3))) = false := decide_eq_false c28
              clear c28
              (first | rw [c28b0] | (simp only [i64_w, i32_w]; rw [c28b0]) | skip)
              have H' := Aside0.mk H
              clear H
              go_wp2
              go_meet
              case rel => exact ⟨_, (false), (by first | rfl | (simp; done) | (simp [*]; done)), H', ⟨by have := HJ9.out; have := HK2.out; have := HK3.out; first | omega | exact Nat.le_refl _⟩, ⟨by (with_reducible repeat (first | apply Kd.S_alloc | apply Kd.S_drewN | apply Kd.S_drew)); exact HO_3.out⟩, ⟨by repeat (first | (with_reducible first | exact HB.out | apply below_alloc | apply pw_below_drewN | apply below_drew1) | exact HB.out)⟩⟩
            case rest =>
             clear HC27
             try clear c1
             try clear p1
             try clear q1
             try clear hx1
             try clear qi1
             try clear c2
             try clear p2
             try clear c3
             try clear c5
             try clear p6
             try clear c9
             try clear c10
             try clear p10
             try clear q10
             try clear hx10
             try clear qi10
             try clear c11
             try clear c15
             try clear c15b0
             try clear c16
             try clear c16b0
             try clear c17
             try clear c17b0
             try clear c17b1
             try clear c21
             try clear c22
             try clear c22b0
             try clear c23
             try clear c23b0
             try clear c24
             try clear c24b0
             try clear c25
             try clear c25b0
             try clear c25b1
             try clear c26
             try clear c26b0
             try clear c26b1
             try clear c28
             try clear c28b0
             try clear c29
             try clear c29b0
             try clear c29b1
             try clear hx1032_0
             try clear hx1033_0
             try clear p1032
             try clear p1033
             try clear p2
             try clear p6
             try clear q1032
             try clear q1033
             obtain ⟨kq, x106_26, rfl, HA, HJ26, HO_3, HB⟩ := hcut
             cases kq with
             | zero => exact absurd HA.out (by simp [laws_FnRankings.j3])
             | succ kj26 =>
              have H := HA.out
              clear HA
              simp only [laws_FnRankings.j3] at H
              by_cases c30 : x106_26 = true
              ·
               subst c30
               have H1 : (some false) = some r := by rw [if_pos rfl] at H; exact H
               clear H
               have H := H1
               clear H1
               obtain rfl := Option.some.inj H
               go_wp2
               go_ret
               exact ⟨by first | rfl | (simp [errW_none, errW_some] <;> rfl) | (simp [*, errW_none, errW_some] <;> rfl), by repeat (first | (with_reducible first | exact HB.out | apply below_alloc | apply pw_below_drewN | apply below_drew1) | exact HB.out)⟩
              ·
               replace c30 := Bool.eq_false_iff.mpr c30
               subst c30
               have H1 : (laws_FnRankings.l2 kj26 l0 t1016 t1017 t1020 t1024 x8_2 0) = some r := by rw [if_neg (show ¬ (false = true) by decide)] at H; exact H
               clear H
               have H := H1
               clear H1
               have H' := Aside0.mk H
               clear H
               go_wp2
               go_loopg [11] kj26 (fun kq v11 w' => ∃ (x11_5 : Int), v11 = .int .i64 x11_5 ∧ Aside0 (laws_FnRankings.l2 kq l0 t1016 t1017 t1020 t1024 x8_2 x11_5 = some r) ∧ Aside0 (kq ≤ kj26) ∧ Aside0 (Kd.S (Kd.slice 3 (Kd.int .i64)) 23 w' w.heap.size (fun _ => True) (.slice Ao12 t1016.length co12) t1016) ∧ Aside0 (Below w.heap.size w w'))
               case atStart => exact ⟨(0), (by first | rfl | (simp; done) | (simp [*]; done)), H', ⟨Nat.le_refl _⟩, ⟨by (with_reducible repeat (first | apply Kd.S_alloc | apply Kd.S_drewN | apply Kd.S_drew)); exact HO_3.out⟩, ⟨by repeat (first | (with_reducible first | exact HB.out | apply below_alloc | apply pw_below_drewN | apply below_drew1) | exact HB.out)⟩⟩
               case round =>
                clear H'
                try clear c1
                try clear p1
                try clear q1
                try clear hx1
                try clear qi1
                try clear c2
                try clear p2
                try clear c3
                try clear c5
                try clear p6
                try clear c9
                try clear c10
                try clear p10
                try clear q10
                try clear hx10
                try clear qi10
                try clear c11
                try clear c15
                try clear c15b0
                try clear c16
                try clear c16b0
                try clear c17
                try clear c17b0
                try clear c17b1
                try clear c21
                try clear c22
                try clear c22b0
                try clear c23
                try clear c23b0
                try clear c24
                try clear c24b0
                try clear c25
                try clear c25b0
                try clear c25b1
                try clear c26
                try clear c26b0
                try clear c26b1
                try clear c28
                try clear c28b0
                try clear c29
                try clear c29b0
                try clear c29b1
                try clear c30
                try clear hx1032_0
                try clear hx1033_0
                try clear p1
                try clear p10
                try clear p1032
                try clear p1033
                try clear p2
                try clear p6
                try clear q1
                try clear q10
                try clear q1032
                try clear q1033
                obtain ⟨x11_5, rfl, HA, HK5, HO_3, HB⟩ := hrel
                cases gk with
                | zero => exact absurd HA.out (by simp [laws_FnRankings.l2])
                | succ k5 =>
                 have H := HA.out
                 clear HA
                 simp only [laws_FnRankings.l2] at H
                 by_cases c31 : x11_5 < t1017
                 ·
                  rw [if_pos c31] at H
                  have c31b0 : decide (x11_5 < t1017) = true := decide_eq_true c31
                  clear c31
                  by_cases c32 : x8_2 = x11_5
                  ·
                   rw [if_pos c32] at H
                   have c32b0 : (x8_2 == x11_5) = true := beq_iff_eq.mpr c32
                   have c32b1 : (x8_2 != x11_5) = false := bne_eq_false_iff_eq.mpr c32
                   clear c32
                   have H' := Aside0.mk H
                   clear H
                   go_wp2
                   go_roundg k5
                   case measure => have := HJ9.out; have := HK2.out; have := HK3.out; have := HJ26.out; have := HK5.out; omega
                   case rel => exact ⟨(wrap64 (x11_5 + 1)), (by first | rfl | (simp; done) | (simp [*]; done)), H', ⟨by have := HJ9.out; have := HK2.out; have := HK3.out; have := HJ26.out; have := HK5.out; omega⟩, ⟨by (with_reducible repeat (first | apply Kd.S_alloc | apply Kd.S_drewN | apply Kd.S_drew)); exact HO_3.out⟩, ⟨by repeat (first | (with_reducible first | exact HB.out | apply below_alloc | apply pw_below_drewN | apply below_drew1) | exact HB.out)⟩⟩
                  ·
                   rw [if_neg c32] at H
                   have c32b0 : (x8_2 == x11_5) = false := beq_eq_false_iff_ne.mpr c32
                   have c32b1 : (x8_2 != x11_5) = true := bne_iff_ne.mpr c32
                   replace H := Option.bind_eq_some_iff.mp H
                   obtain ⟨t1034, A330, H⟩ := H
                   replace H : ((impl_Prefer.f k5 t1016 x11_5 x8_2).bind fun t1035 => (if (wrap64 (t1034 + t1035)) = (t1016.length : Int) then (laws_FnRankings.l2 k5 l0 t1016 t1017 t1020 t1024 x8_2 (wrap64 (x11_5 + 1))) else (some false))) = some r := H
                   have A33 := Aside0.mk A330
                   clear A330
                   replace H := Option.bind_eq_some_iff.mp H
                   obtain ⟨t1035, A340, H⟩ := H
                   replace H : (if (wrap64 (t1034 + t1035)) = (t1016.length : Int) then (laws_FnRankings.l2 k5 l0 t1016 t1017 t1020 t1024 x8_2 (wrap64 (x11_5 + 1))) else (some false)) = some r := H
                   have A34 := Aside0.mk A340
                   clear A340
                   by_cases c35 : (wrap64 (t1034 + t1035)) = (t1016.length : Int)
                   ·
                    rw [if_pos c35] at H
                    have c35b0 : ((wrap64 (t1034 + t1035)) == (t1016.length : Int)) = true := beq_iff_eq.mpr c35
                    have c35b1 : ((wrap64 (t1034 + t1035)) != (t1016.length : Int)) = false := bne_eq_false_iff_eq.mpr c35
                    clear c35
                    have H' := Aside0.mk H
                    clear H
                    go_wp2_with (first | (go_at_call 59; (with_reducible refine (impl_Prefer.calls k5 _ _ t1016 x8_2 x11_5 t1034 _ ?side1 ?side2 A33.out).mono ?_); (case side1 => repeat (first | exact (Kd.S_reads' HO_3.out).2.2 | (with_reducible refine Kd.C_alloc ?_ _) | (with_reducible refine Kd.C_drewN ?_ _) | (with_reducible refine Kd.C_drew ?_))); (case side2 => exact (Kd.S_reads' HO_3.out).2.1); rintro e w' ⟨rfl, ⟨nd, rfl⟩⟩) | (go_at_call 59; (with_reducible refine (impl_Prefer.calls k5 _ _ t1016 x11_5 x8_2 t1035 _ ?side1 ?side2 A34.out).mono ?_); (case side1 => repeat (first | exact (Kd.S_reads' HO_3.out).2.2 | (with_reducible refine Kd.C_alloc ?_ _) | (with_reducible refine Kd.C_drewN ?_ _) | (with_reducible refine Kd.C_drew ?_))); (case side2 => exact (Kd.S_reads' HO_3.out).2.1); rintro e w' ⟨rfl, ⟨nd, rfl⟩⟩))
                    go_roundg k5
                    case measure => have := HJ9.out; have := HK2.out; have := HK3.out; have := HJ26.out; have := HK5.out; omega
                    case rel => exact ⟨(wrap64 (x11_5 + 1)), (by first | rfl | (simp; done) | (simp [*]; done)), H', ⟨by have := HJ9.out; have := HK2.out; have := HK3.out; have := HJ26.out; have := HK5.out; omega⟩, ⟨by (with_reducible repeat (first | apply Kd.S_alloc | apply Kd.S_drewN | apply Kd.S_drew)); exact HO_3.out⟩, ⟨by repeat (first | (with_reducible first | exact HB.out | apply below_alloc | apply pw_below_drewN | apply below_drew1) | exact HB.out)⟩⟩
                   ·
                    rw [if_neg c35] at H
                    have c35b0 : ((wrap64 (t1034 + t1035)) == (t1016.length : Int)) = false := beq_eq_false_iff_ne.mpr c35
                    have c35b1 : ((wrap64 (t1034 + t1035)) != (t1016.length : Int)) = true := bne_iff_ne.mpr c35
                    obtain rfl := Option.some.inj H
                    go_wp2_with (first | (go_at_call 59; (with_reducible refine (impl_Prefer.calls k5 _ _ t1016 x8_2 x11_5 t1034 _ ?side1 ?side2 A33.out).mono ?_); (case side1 => repeat (first | exact (Kd.S_reads' HO_3.out).2.2 | (with_reducible refine Kd.C_alloc ?_ _) | (with_reducible refine Kd.C_drewN ?_ _) | (with_reducible refine Kd.C_drew ?_))); (case side2 => exact (Kd.S_reads' HO_3.out).2.1); rintro e w' ⟨rfl, ⟨nd, rfl⟩⟩) | (go_at_call 59; (with_reducible refine (impl_Prefer.calls k5 _ _ t1016 x11_5 x8_2 t1035 _ ?side1 ?side2 A34.out).mono ?_); (case side1 => repeat (first | exact (Kd.S_reads' HO_3.out).2.2 | (with_reducible refine Kd.C_alloc ?_ _) | (with_reducible refine Kd.C_drewN ?_ _) | (with_reducible refine Kd.C_drew ?_))); (case side2 => exact (Kd.S_reads' HO_3.out).2.1); rintro e w' ⟨rfl, ⟨nd, rfl⟩⟩))
                    go_ret
                    exact ⟨by first | rfl | (simp [errW_none, errW_some] <;> rfl) | (simp [*, errW_none, errW_some] <;> rfl), by repeat (first | (with_reducible first | exact HB.out | apply below_alloc | apply pw_below_drewN | apply below_drew1) | exact HB.out)⟩
                 ·
                  rw [if_neg c31] at H
                  have c31b0 : decide (x11_5 < t1017) = false := decide_eq_false c31
                  clear c31
                  have H' := Aside0.mk H
                  clear H
                  go_wp2
                  go_roundg k5
                  case measure => have := HJ9.out; have := HK2.out; have := HK3.out; have := HJ26.out; have := HK5.out; omega
                  case rel => exact ⟨(wrap64 (x8_2 + 1)), (by first | rfl | (simp; done) | (simp [*]; done)), H', ⟨by have := HJ9.out; have := HK2.out; have := HK3.out; have := HJ26.out; have := HK5.out; omega⟩, ⟨by (with_reducible repeat (first | apply Kd.S_alloc | apply Kd.S_drewN | apply Kd.S_drew)); exact HO_3.out⟩, ⟨by repeat (first | (with_reducible first | exact HB.out | apply below_alloc | apply pw_below_drewN | apply below_drew1) | exact HB.out)⟩⟩
        ·
         rw [if_neg c22] at H
         have c22b0 : decide (x8_2 < t1017) = false := decide_eq_false c22
         clear c22
         replace H := Option.bind_eq_some_iff.mp H
         obtain ⟨⟨t1027, t1028⟩, A360, H⟩ := H
         replace H : ((impl_IsRanking.f k2 t1027 t1028).bind fun t1031 => (if t1031 = true then (some ((t1027.length : Int) == t1028)) else (some true))) = some r := H
         have A36 := Aside0.mk A360
         clear A360
         replace H := Option.bind_eq_some_iff.mp H
         obtain ⟨t1031, A370, H⟩ := H
         replace H : (if t1031 = true then (some ((t1027.length : Int) == t1028)) else (some true)) = some r := H
         have A37 := Aside0.mk A370
         clear A370
         by_cases c38 : t1031 = true
         ·
          subst c38
          have H1 : (some ((t1027.length : Int) == t1028)) = some r := by rw [if_pos rfl] at H; exact H
          clear H
          have H := H1
          clear H1
          obtain rfl := Option.some.inj H
          go_wp2_with (first | ((with_reducible refine gate_callee (f := 60) rfl ?_); refine goesL_ (some 131) rfl rfl Try.func60 (by kernel_rfl) rfl #[.slice A0 l0.length c0] rfl (by (try simp only [List.map_toArray, List.map_cons, List.map_nil]); first | done | rfl | (simp only [List.length_drop, List.length_take]; rfl)) ?_; (with_reducible refine (spec_DrawIsRanking.calls k2 _ _ l0 t1027 t1028 _ ?side1 ?side2 A36.out).mono ?_); (case side1 => repeat (first | exact (Kd.C_below HR0.out HB.out) | (with_reducible refine Kd.C_alloc ?_ _) | (with_reducible refine Kd.C_drewN ?_ _) | (with_reducible refine Kd.C_drew ?_))); (case side2 => exact HC0.out); rintro e w39 ⟨v1029, rfl, ho0, hb⟩; refine ⟨_, rfl, ?_⟩; have n0_ := Aside0.mk (Kd.S_elder' (by (with_reducible repeat (first | apply Kd.S_alloc | apply Kd.S_drewN | apply Kd.S_drew)); exact HO_3.out) (Kd.R_base ho0) hb); have n1_ := Aside0.mk (Kd.R_lower ho0 (below_size (by repeat (first | (with_reducible first | exact HB.out | apply below_alloc | apply pw_below_drewN | apply below_drew1) | exact HB.out)))); have n2_ := Aside0.mk (below_step (by repeat (first | (with_reducible first | exact HB.out | apply below_alloc | apply pw_below_drewN | apply below_drew1) | exact HB.out)) hb); clear HO_3; clear HB; have HO_3 := n0_; have HO1030 := n1_; have HB := n2_; clear n0_ n1_ n2_; (try clear hb); (try clear hb2); (try clear hk); (try clear hi); (try clear ho0); obtain ⟨Ao40, co40, eo40⟩ := Kd.R_slice HO1030.out; subst eo40) | ((with_reducible refine gate_callee (f := 61) rfl ?_); refine goesL_ (some 136) rfl rfl Try.func61 (by kernel_rfl) rfl #[.slice Ao40 t1027.length co40, .int .i64 t1028] rfl (by (try simp only [List.map_toArray, List.map_cons, List.map_nil]); first | done | rfl | (simp only [List.length_drop, List.length_take]; rfl)) ?_; (with_reducible refine (impl_IsRanking.calls k2 _ _ t1027 t1028 true _ ?side1 ?side2 A37.out).mono ?_); (case side1 => repeat (first | exact (Kd.R_reads' HO1030.out).2.2 | (with_reducible refine Kd.C_alloc ?_ _) | (with_reducible refine Kd.C_drewN ?_ _) | (with_reducible refine Kd.C_drew ?_))); (case side2 => exact (Kd.R_reads' HO1030.out).2.1); rintro e w' ⟨rfl, ⟨nd, rfl⟩⟩; refine ⟨_, rfl, ?_⟩))
          go_ret
          exact ⟨by first | rfl | (simp [errW_none, errW_some] <;> rfl) | (simp [*, errW_none, errW_some] <;> rfl), by repeat (first | (with_reducible first | exact HB.out | apply below_alloc | apply pw_below_drewN | apply below_drew1) | exact HB.out)⟩
         ·
          replace c38 := Bool.eq_false_iff.mpr c38
          subst c38
          have H1 : (some true) = some r := by rw [if_neg (show ¬ (false = true) by decide)] at H; exact H
          clear H
          have H := H1
          clear H1
          obtain rfl := Option.some.inj H
          go_wp2_with (first | ((with_reducible refine gate_callee (f := 60) rfl ?_); refine goesL_ (some 131) rfl rfl Try.func60 (by kernel_rfl) rfl #[.slice A0 l0.length c0] rfl (by (try simp only [List.map_toArray, List.map_cons, List.map_nil]); first | done | rfl | (simp only [List.length_drop, List.length_take]; rfl)) ?_; (with_reducible refine (spec_DrawIsRanking.calls k2 _ _ l0 t1027 t1028 _ ?side1 ?side2 A36.out).mono ?_); (case side1 => repeat (first | exact (Kd.C_below HR0.out HB.out) | (with_reducible refine Kd.C_alloc ?_ _) | (with_reducible refine Kd.C_drewN ?_ _) | (with_reducible refine Kd.C_drew ?_))); (case side2 => exact HC0.out); rintro e w41 ⟨v1029, rfl, ho0, hb⟩; refine ⟨_, rfl, ?_⟩; have n0_ := Aside0.mk (Kd.S_elder' (by (with_reducible repeat (first | apply Kd.S_alloc | apply Kd.S_drewN | apply Kd.S_drew)); exact HO_3.out) (Kd.R_base ho0) hb); have n1_ := Aside0.mk (Kd.R_lower ho0 (below_size (by repeat (first | (with_reducible first | exact HB.out | apply below_alloc | apply pw_below_drewN | apply below_drew1) | exact HB.out)))); have n2_ := Aside0.mk (below_step (by repeat (first | (with_reducible first | exact HB.out | apply below_alloc | apply pw_below_drewN | apply below_drew1) | exact HB.out)) hb); clear HO_3; clear HB; have HO_3 := n0_; have HO1030 := n1_; have HB := n2_; clear n0_ n1_ n2_; (try clear hb); (try clear hb2); (try clear hk); (try clear hi); (try clear ho0); obtain ⟨Ao42, co42, eo42⟩ := Kd.R_slice HO1030.out; subst eo42) | ((with_reducible refine gate_callee (f := 61) rfl ?_); refine goesL_ (some 136) rfl rfl Try.func61 (by kernel_rfl) rfl #[.slice Ao42 t1027.length co42, .int .i64 t1028] rfl (by (try simp only [List.map_toArray, List.map_cons, List.map_nil]); first | done | rfl | (simp only [List.length_drop, List.length_take]; rfl)) ?_; (with_reducible refine (impl_IsRanking.calls k2 _ _ t1027 t1028 false _ ?side1 ?side2 A37.out).mono ?_); (case side1 => repeat (first | exact (Kd.R_reads' HO1030.out).2.2 | (with_reducible refine Kd.C_alloc ?_ _) | (with_reducible refine Kd.C_drewN ?_ _) | (with_reducible refine Kd.C_drew ?_))); (case side2 => exact (Kd.R_reads' HO1030.out).2.1); rintro e w' ⟨rfl, ⟨nd, rfl⟩⟩; refine ⟨_, rfl, ?_⟩))
          go_ret
          exact ⟨by first | rfl | (simp [errW_none, errW_some] <;> rfl) | (simp [*, errW_none, errW_some] <;> rfl), by repeat (first | (with_reducible first | exact HB.out | apply below_alloc | apply pw_below_drewN | apply below_drew1) | exact HB.out)⟩
  ·
   replace c9 := Bool.eq_false_iff.mpr c9
   subst c9
   have H1 : (if t1020 = (-1) then (if t1024 = (-1) then (some ((t1021.length : Int) == 0)) else (some false)) else (some false)) = some r := by rw [if_neg (show ¬ (false = true) by decide)] at H; exact H
   clear H
   have H := H1
   clear H1
   by_cases c43 : t1020 = (-1)
   ·
    rw [if_pos c43] at H
    have c43b0 : (t1020 == (-1)) = true := beq_iff_eq.mpr c43
    have c43b1 : (t1020 != (-1)) = false := bne_eq_false_iff_eq.mpr c43
    clear c43
    by_cases c44 : t1024 = (-1)
    ·
     rw [if_pos c44] at H
     have c44b0 : (t1024 == (-1)) = true := beq_iff_eq.mpr c44
     have c44b1 : (t1024 != (-1)) = false := bne_eq_false_iff_eq.mpr c44
     clear c44
     obtain rfl := Option.some.inj H
     go_enter Try.func11, Try.ntmps11
     go_wp2_with (first | ((with_reducible refine gate_callee (f := 26) rfl ?_); refine goesL_ (some 15) rfl rfl Try.func26 (by kernel_rfl) rfl #[.slice A0 l0.length c0] rfl (by (try simp only [List.map_toArray, List.map_cons, List.map_nil]); first | done | rfl | (simp only [List.length_drop, List.length_take]; rfl)) ?_; (with_reducible refine (laws_big.calls _ _ l0 false _ ?side1 ?side2 A2.out).mono ?_); (case side1 => repeat (first | exact HR0.out | (with_reducible refine Kd.C_alloc ?_ _) | (with_reducible refine Kd.C_drewN ?_ _) | (with_reducible refine Kd.C_drew ?_))); (case side2 => exact HC0.out); rintro e w' ⟨rfl, ⟨nd, rfl⟩⟩; refine ⟨_, rfl, ?_⟩) | ((with_reducible refine gate_callee (f := 54) rfl ?_); refine goesL_ (some 18) rfl rfl Try.func54 (by kernel_rfl) rfl #[.slice A0 l0.length c0] rfl (by (try simp only [List.map_toArray, List.map_cons, List.map_nil]); first | done | rfl | (simp only [List.length_drop, List.length_take]; rfl)) ?_; (with_reducible refine (spec_DrawRunOff.calls k _ _ l0 t1016 t1017 _ ?side1 ?side2 A4.out).mono ?_); (case side1 => repeat (first | exact HR0.out | (with_reducible refine Kd.C_alloc ?_ _) | (with_reducible refine Kd.C_drewN ?_ _) | (with_reducible refine Kd.C_drew ?_))); (case side2 => exact HC0.out); rintro e w45 ⟨v1018, rfl, ho0, hb⟩; refine ⟨_, rfl, ?_⟩; have n0_ := Aside0.mk (Kd.S_lower ho0 (below_size (by repeat (first | (with_reducible first | exact HB.out | apply below_alloc | apply pw_below_drewN | apply below_drew1) | exact HB.out)))); have n1_ := Aside0.mk (below_step (by repeat (first | (with_reducible first | exact HB.out | apply below_alloc | apply pw_below_drewN | apply below_drew1) | exact HB.out)) hb); clear HB; have HO1019 := n0_; have HB := n1_; clear n0_ n1_; (try clear hb); (try clear hb2); (try clear hk); (try clear hi); (try clear ho0); obtain ⟨Ao46, co46, eo46⟩ := Kd.S_slice HO1019.out; subst eo46) | ((with_reducible refine gate_callee (f := 35) rfl ?_); refine goesL_ (some 23) rfl rfl Try.func35 (by kernel_rfl) rfl #[.slice Ao46 t1016.length co46, .int .i64 t1017] rfl (by (try simp only [List.map_toArray, List.map_cons, List.map_nil]); first | done | rfl | (simp only [List.length_drop, List.length_take]; rfl)) ?_; (with_reducible refine (impl_RunOff.calls k _ _ t1016 t1017 t1020 _ ?side1 ?side2 A5.out).mono ?_); (case side1 => repeat (first | exact (Kd.S_reads' HO1019.out).2.2 | (with_reducible refine Kd.C_alloc ?_ _) | (with_reducible refine Kd.C_drewN ?_ _) | (with_reducible refine Kd.C_drew ?_))); (case side2 => exact (Kd.S_reads' HO1019.out).2.1); rintro e w47 ⟨rfl, hb⟩; refine ⟨_, rfl, ?_⟩; have n0_ := Aside0.mk (Kd.S_below (by (with_reducible repeat (first | apply Kd.S_alloc | apply Kd.S_drewN | apply Kd.S_drew)); exact HO1019.out) hb); have n1_ := Aside0.mk (below_step (by repeat (first | (with_reducible first | exact HB.out | apply below_alloc | apply pw_below_drewN | apply below_drew1) | exact HB.out)) hb); clear HO1019; clear HB; have HO1019 := n0_; have HB := n1_; clear n0_ n1_; (try clear hb); (try clear hb2); (try clear hk); (try clear hi)) | ((with_reducible refine gate_callee (f := 55) rfl ?_); refine goesL_ (some 26) rfl rfl Try.func55 (by kernel_rfl) rfl #[.slice Ao46 t1016.length co46, .int .i64 t1017] rfl (by (try simp only [List.map_toArray, List.map_cons, List.map_nil]); first | done | rfl | (simp only [List.length_drop, List.length_take]; rfl)) ?_; (with_reducible refine (impl_PlacePoints.calls k _ _ t1016 t1017 t1021 _ ?side1 ?side2 A6.out).mono ?_); (case side1 => repeat (first | exact (Kd.S_reads' HO1019.out).2.2 | (with_reducible refine Kd.C_alloc ?_ _) | (with_reducible refine Kd.C_drewN ?_ _) | (with_reducible refine Kd.C_drew ?_))); (case side2 => exact (Kd.S_reads' HO1019.out).2.1); rintro e w48 ⟨v1022, rfl, ho0, hb⟩; refine ⟨_, rfl, ?_⟩; have n0_ := Aside0.mk (Kd.S_elder' (by (with_reducible repeat (first | apply Kd.S_alloc | apply Kd.S_drewN | apply Kd.S_drew)); exact HO1019.out) (Kd.R_base ho0) hb); have n1_ := Aside0.mk (Kd.R_lower ho0 (below_size (by repeat (first | (with_reducible first | exact HB.out | apply below_alloc | apply pw_below_drewN | apply below_drew1) | exact HB.out)))); have n2_ := Aside0.mk (below_step (by repeat (first | (with_reducible first | exact HB.out | apply below_alloc | apply pw_below_drewN | apply below_drew1) | exact HB.out)) hb); clear HO1019; clear HB; have HO1019 := n0_; have HO1023 := n1_; have HB := n2_; clear n0_ n1_ n2_; (try clear hb); (try clear hb2); (try clear hk); (try clear hi); (try clear ho0)) | ((with_reducible refine gate_callee (f := 56) rfl ?_); refine goesL_ (some 29) rfl rfl Try.func56 (by kernel_rfl) rfl #[.slice Ao46 t1016.length co46, .int .i64 t1017] rfl (by (try simp only [List.map_toArray, List.map_cons, List.map_nil]); first | done | rfl | (simp only [List.length_drop, List.length_take]; rfl)) ?_; (with_reducible refine (impl_PairWinner.calls k _ _ t1016 t1017 t1024 _ ?side1 ?side2 A7.out).mono ?_); (case side1 => repeat (first | exact (Kd.S_reads' HO1019.out).2.2 | (with_reducible refine Kd.C_alloc ?_ _) | (with_reducible refine Kd.C_drewN ?_ _) | (with_reducible refine Kd.C_drew ?_))); (case side2 => exact (Kd.S_reads' HO1019.out).2.1); rintro e w' ⟨rfl, ⟨nd, rfl⟩⟩; refine ⟨_, rfl, ?_⟩) | ((with_reducible refine gate_callee (f := 57) rfl ?_); refine goesL_ (some 32) rfl rfl Try.func57 (by kernel_rfl) rfl #[.slice Ao46 t1016.length co46, .int .i64 t1017] rfl (by (try simp only [List.map_toArray, List.map_cons, List.map_nil]); first | done | rfl | (simp only [List.length_drop, List.length_take]; rfl)) ?_; (with_reducible refine (impl_AreRankings.calls k _ _ t1016 t1017 false _ ?side1 ?side2 A8.out).mono ?_); (case side1 => repeat (first | exact (Kd.S_reads' HO1019.out).2.2 | (with_reducible refine Kd.C_alloc ?_ _) | (with_reducible refine Kd.C_drewN ?_ _) | (with_reducible refine Kd.C_drew ?_))); (case side2 => exact (Kd.S_reads' HO1019.out).2.1); rintro e w' ⟨rfl, ⟨nd, rfl⟩⟩; refine ⟨_, rfl, ?_⟩; obtain ⟨Ao49, co49, eo49⟩ := Kd.R_slice HO1023.out; subst eo49))
     go_ret
     exact ⟨by first | rfl | (simp [errW_none, errW_some] <;> rfl) | (simp [*, errW_none, errW_some] <;> rfl), by repeat (first | (with_reducible first | exact HB.out | apply below_alloc | apply pw_below_drewN | apply below_drew1) | exact HB.out)⟩
    ·
     rw [if_neg c44] at H
     have c44b0 : (t1024 == (-1)) = false := beq_eq_false_iff_ne.mpr c44
     have c44b1 : (t1024 != (-1)) = true := bne_iff_ne.mpr c44
     obtain rfl := Option.some.inj H
     go_enter Try.func11, Try.ntmps11
     go_wp2_with (first | ((with_reducible refine gate_callee (f := 26) rfl ?_); refine goesL_ (some 15) rfl rfl Try.func26 (by kernel_rfl) rfl #[.slice A0 l0.length c0] rfl (by (try simp only [List.map_toArray, List.map_cons, List.map_nil]); first | done | rfl | (simp only [List.length_drop, List.length_take]; rfl)) ?_; (with_reducible refine (laws_big.calls _ _ l0 false _ ?side1 ?side2 A2.out).mono ?_); (case side1 => repeat (first | exact HR0.out | (with_reducible refine Kd.C_alloc ?_ _) | (with_reducible refine Kd.C_drewN ?_ _) | (with_reducible refine Kd.C_drew ?_))); (case side2 => exact HC0.out); rintro e w' ⟨rfl, ⟨nd, rfl⟩⟩; refine ⟨_, rfl, ?_⟩) | ((with_reducible refine gate_callee (f := 54) rfl ?_); refine goesL_ (some 18) rfl rfl Try.func54 (by kernel_rfl) rfl #[.slice A0 l0.length c0] rfl (by (try simp only [List.map_toArray, List.map_cons, List.map_nil]); first | done | rfl | (simp only [List.length_drop, List.length_take]; rfl)) ?_; (with_reducible refine (spec_DrawRunOff.calls k _ _ l0 t1016 t1017 _ ?side1 ?side2 A4.out).mono ?_); (case side1 => repeat (first | exact HR0.out | (with_reducible refine Kd.C_alloc ?_ _) | (with_reducible refine Kd.C_drewN ?_ _) | (with_reducible refine Kd.C_drew ?_))); (case side2 => exact HC0.out); rintro e w50 ⟨v1018, rfl, ho0, hb⟩; refine ⟨_, rfl, ?_⟩; have n0_ := Aside0.mk (Kd.S_lower ho0 (below_size (by repeat (first | (with_reducible first | exact HB.out | apply below_alloc | apply pw_below_drewN | apply below_drew1) | exact HB.out)))); have n1_ := Aside0.mk (below_step (by repeat (first | (with_reducible first | exact HB.out | apply below_alloc | apply pw_below_drewN | apply below_drew1) | exact HB.out)) hb); clear HB; have HO1019 := n0_; have HB := n1_; clear n0_ n1_; (try clear hb); (try clear hb2); (try clear hk); (try clear hi); (try clear ho0); obtain ⟨Ao51, co51, eo51⟩ := Kd.S_slice HO1019.out; subst eo51) | ((with_reducible refine gate_callee (f := 35) rfl ?_); refine goesL_ (some 23) rfl rfl Try.func35 (by kernel_rfl) rfl #[.slice Ao51 t1016.length co51, .int .i64 t1017] rfl (by (try simp only [List.map_toArray, List.map_cons, List.map_nil]); first | done | rfl | (simp only [List.length_drop, List.length_take]; rfl)) ?_; (with_reducible refine (impl_RunOff.calls k _ _ t1016 t1017 t1020 _ ?side1 ?side2 A5.out).mono ?_); (case side1 => repeat (first | exact (Kd.S_reads' HO1019.out).2.2 | (with_reducible refine Kd.C_alloc ?_ _) | (with_reducible refine Kd.C_drewN ?_ _) | (with_reducible refine Kd.C_drew ?_))); (case side2 => exact (Kd.S_reads' HO1019.out).2.1); rintro e w52 ⟨rfl, hb⟩; refine ⟨_, rfl, ?_⟩; have n0_ := Aside0.mk (Kd.S_below (by (with_reducible repeat (first | apply Kd.S_alloc | apply Kd.S_drewN | apply Kd.S_drew)); exact HO1019.out) hb); have n1_ := Aside0.mk (below_step (by repeat (first | (with_reducible first | exact HB.out | apply below_alloc | apply pw_below_drewN | apply below_drew1) | exact HB.out)) hb); clear HO1019; clear HB; have HO1019 := n0_; have HB := n1_; clear n0_ n1_; (try clear hb); (try clear hb2); (try clear hk); (try clear hi)) | ((with_reducible refine gate_callee (f := 55) rfl ?_); refine goesL_ (some 26) rfl rfl Try.func55 (by kernel_rfl) rfl #[.slice Ao51 t1016.length co51, .int .i64 t1017] rfl (by (try simp only [List.map_toArray, List.map_cons, List.map_nil]); first | done | rfl | (simp only [List.length_drop, List.length_take]; rfl)) ?_; (with_reducible refine (impl_PlacePoints.calls k _ _ t1016 t1017 t1021 _ ?side1 ?side2 A6.out).mono ?_); (case side1 => repeat (first | exact (Kd.S_reads' HO1019.out).2.2 | (with_reducible refine Kd.C_alloc ?_ _) | (with_reducible refine Kd.C_drewN ?_ _) | (with_reducible refine Kd.C_drew ?_))); (case side2 => exact (Kd.S_reads' HO1019.out).2.1); rintro e w53 ⟨v1022, rfl, ho0, hb⟩; refine ⟨_, rfl, ?_⟩; have n0_ := Aside0.mk (Kd.S_elder' (by (with_reducible repeat (first | apply Kd.S_alloc | apply Kd.S_drewN | apply Kd.S_drew)); exact HO1019.out) (Kd.R_base ho0) hb); have n1_ := Aside0.mk (Kd.R_lower ho0 (below_size (by repeat (first | (with_reducible first | exact HB.out | apply below_alloc | apply pw_below_drewN | apply below_drew1) | exact HB.out)))); have n2_ := Aside0.mk (below_step (by repeat (first | (with_reducible first | exact HB.out | apply below_alloc | apply pw_below_drewN | apply below_drew1) | exact HB.out)) hb); clear HO1019; clear HB; have HO1019 := n0_; have HO1023 := n1_; have HB := n2_; clear n0_ n1_ n2_; (try clear hb); (try clear hb2); (try clear hk); (try clear hi); (try clear ho0)) | ((with_reducible refine gate_callee (f := 56) rfl ?_); refine goesL_ (some 29) rfl rfl Try.func56 (by kernel_rfl) rfl #[.slice Ao51 t1016.length co51, .int .i64 t1017] rfl (by (try simp only [List.map_toArray, List.map_cons, List.map_nil]); first | done | rfl | (simp only [List.length_drop, List.length_take]; rfl)) ?_; (with_reducible refine (impl_PairWinner.calls k _ _ t1016 t1017 t1024 _ ?side1 ?side2 A7.out).mono ?_); (case side1 => repeat (first | exact (Kd.S_reads' HO1019.out).2.2 | (with_reducible refine Kd.C_alloc ?_ _) | (with_reducible refine Kd.C_drewN ?_ _) | (with_reducible refine Kd.C_drew ?_))); (case side2 => exact (Kd.S_reads' HO1019.out).2.1); rintro e w' ⟨rfl, ⟨nd, rfl⟩⟩; refine ⟨_, rfl, ?_⟩) | ((with_reducible refine gate_callee (f := 57) rfl ?_); refine goesL_ (some 32) rfl rfl Try.func57 (by kernel_rfl) rfl #[.slice Ao51 t1016.length co51, .int .i64 t1017] rfl (by (try simp only [List.map_toArray, List.map_cons, List.map_nil]); first | done | rfl | (simp only [List.length_drop, List.length_take]; rfl)) ?_; (with_reducible refine (impl_AreRankings.calls k _ _ t1016 t1017 false _ ?side1 ?side2 A8.out).mono ?_); (case side1 => repeat (first | exact (Kd.S_reads' HO1019.out).2.2 | (with_reducible refine Kd.C_alloc ?_ _) | (with_reducible refine Kd.C_drewN ?_ _) | (with_reducible refine Kd.C_drew ?_))); (case side2 => exact (Kd.S_reads' HO1019.out).2.1); rintro e w' ⟨rfl, ⟨nd, rfl⟩⟩; refine ⟨_, rfl, ?_⟩))
     go_ret
     exact ⟨by first | rfl | (simp [errW_none, errW_some] <;> rfl) | (simp [*, errW_none, errW_some] <;> rfl), by repeat (first | (with_reducible first | exact HB.out | apply below_alloc | apply pw_below_drewN | apply below_drew1) | exact HB.out)⟩
   ·
    rw [if_neg c43] at H
    have c43b0 : (t1020 == (-1)) = false := beq_eq_false_iff_ne.mpr c43
    have c43b1 : (t1020 != (-1)) = true := bne_iff_ne.mpr c43
    obtain rfl := Option.some.inj H
    go_enter Try.func11, Try.ntmps11
    go_wp2_with (first | ((with_reducible refine gate_callee (f := 26) rfl ?_); refine goesL_ (some 15) rfl rfl Try.func26 (by kernel_rfl) rfl #[.slice A0 l0.length c0] rfl (by (try simp only [List.map_toArray, List.map_cons, List.map_nil]); first | done | rfl | (simp only [List.length_drop, List.length_take]; rfl)) ?_; (with_reducible refine (laws_big.calls _ _ l0 false _ ?side1 ?side2 A2.out).mono ?_); (case side1 => repeat (first | exact HR0.out | (with_reducible refine Kd.C_alloc ?_ _) | (with_reducible refine Kd.C_drewN ?_ _) | (with_reducible refine Kd.C_drew ?_))); (case side2 => exact HC0.out); rintro e w' ⟨rfl, ⟨nd, rfl⟩⟩; refine ⟨_, rfl, ?_⟩) | ((with_reducible refine gate_callee (f := 54) rfl ?_); refine goesL_ (some 18) rfl rfl Try.func54 (by kernel_rfl) rfl #[.slice A0 l0.length c0] rfl (by (try simp only [List.map_toArray, List.map_cons, List.map_nil]); first | done | rfl | (simp only [List.length_drop, List.length_take]; rfl)) ?_; (with_reducible refine (spec_DrawRunOff.calls k _ _ l0 t1016 t1017 _ ?side1 ?side2 A4.out).mono ?_); (case side1 => repeat (first | exact HR0.out | (with_reducible refine Kd.C_alloc ?_ _) | (with_reducible refine Kd.C_drewN ?_ _) | (with_reducible refine Kd.C_drew ?_))); (case side2 => exact HC0.out); rintro e w54 ⟨v1018, rfl, ho0, hb⟩; refine ⟨_, rfl, ?_⟩; have n0_ := Aside0.mk (Kd.S_lower ho0 (below_size (by repeat (first | (with_reducible first | exact HB.out | apply below_alloc | apply pw_below_drewN | apply below_drew1) | exact HB.out)))); have n1_ := Aside0.mk (below_step (by repeat (first | (with_reducible first | exact HB.out | apply below_alloc | apply pw_below_drewN | apply below_drew1) | exact HB.out)) hb); clear HB; have HO1019 := n0_; have HB := n1_; clear n0_ n1_; (try clear hb); (try clear hb2); (try clear hk); (try clear hi); (try clear ho0); obtain ⟨Ao55, co55, eo55⟩ := Kd.S_slice HO1019.out; subst eo55) | ((with_reducible refine gate_callee (f := 35) rfl ?_); refine goesL_ (some 23) rfl rfl Try.func35 (by kernel_rfl) rfl #[.slice Ao55 t1016.length co55, .int .i64 t1017] rfl (by (try simp only [List.map_toArray, List.map_cons, List.map_nil]); first | done | rfl | (simp only [List.length_drop, List.length_take]; rfl)) ?_; (with_reducible refine (impl_RunOff.calls k _ _ t1016 t1017 t1020 _ ?side1 ?side2 A5.out).mono ?_); (case side1 => repeat (first | exact (Kd.S_reads' HO1019.out).2.2 | (with_reducible refine Kd.C_alloc ?_ _) | (with_reducible refine Kd.C_drewN ?_ _) | (with_reducible refine Kd.C_drew ?_))); (case side2 => exact (Kd.S_reads' HO1019.out).2.1); rintro e w56 ⟨rfl, hb⟩; refine ⟨_, rfl, ?_⟩; have n0_ := Aside0.mk (Kd.S_below (by (with_reducible repeat (first | apply Kd.S_alloc | apply Kd.S_drewN | apply Kd.S_drew)); exact HO1019.out) hb); have n1_ := Aside0.mk (below_step (by repeat (first | (with_reducible first | exact HB.out | apply below_alloc | apply pw_below_drewN | apply below_drew1) | exact HB.out)) hb); clear HO1019; clear HB; have HO1019 := n0_; have HB := n1_; clear n0_ n1_; (try clear hb); (try clear hb2); (try clear hk); (try clear hi)) | ((with_reducible refine gate_callee (f := 55) rfl ?_); refine goesL_ (some 26) rfl rfl Try.func55 (by kernel_rfl) rfl #[.slice Ao55 t1016.length co55, .int .i64 t1017] rfl (by (try simp only [List.map_toArray, List.map_cons, List.map_nil]); first | done | rfl | (simp only [List.length_drop, List.length_take]; rfl)) ?_; (with_reducible refine (impl_PlacePoints.calls k _ _ t1016 t1017 t1021 _ ?side1 ?side2 A6.out).mono ?_); (case side1 => repeat (first | exact (Kd.S_reads' HO1019.out).2.2 | (with_reducible refine Kd.C_alloc ?_ _) | (with_reducible refine Kd.C_drewN ?_ _) | (with_reducible refine Kd.C_drew ?_))); (case side2 => exact (Kd.S_reads' HO1019.out).2.1); rintro e w57 ⟨v1022, rfl, ho0, hb⟩; refine ⟨_, rfl, ?_⟩; have n0_ := Aside0.mk (Kd.S_elder' (by (with_reducible repeat (first | apply Kd.S_alloc | apply Kd.S_drewN | apply Kd.S_drew)); exact HO1019.out) (Kd.R_base ho0) hb); have n1_ := Aside0.mk (Kd.R_lower ho0 (below_size (by repeat (first | (with_reducible first | exact HB.out | apply below_alloc | apply pw_below_drewN | apply below_drew1) | exact HB.out)))); have n2_ := Aside0.mk (below_step (by repeat (first | (with_reducible first | exact HB.out | apply below_alloc | apply pw_below_drewN | apply below_drew1) | exact HB.out)) hb); clear HO1019; clear HB; have HO1019 := n0_; have HO1023 := n1_; have HB := n2_; clear n0_ n1_ n2_; (try clear hb); (try clear hb2); (try clear hk); (try clear hi); (try clear ho0)) | ((with_reducible refine gate_callee (f := 56) rfl ?_); refine goesL_ (some 29) rfl rfl Try.func56 (by kernel_rfl) rfl #[.slice Ao55 t1016.length co55, .int .i64 t1017] rfl (by (try simp only [List.map_toArray, List.map_cons, List.map_nil]); first | done | rfl | (simp only [List.length_drop, List.length_take]; rfl)) ?_; (with_reducible refine (impl_PairWinner.calls k _ _ t1016 t1017 t1024 _ ?side1 ?side2 A7.out).mono ?_); (case side1 => repeat (first | exact (Kd.S_reads' HO1019.out).2.2 | (with_reducible refine Kd.C_alloc ?_ _) | (with_reducible refine Kd.C_drewN ?_ _) | (with_reducible refine Kd.C_drew ?_))); (case side2 => exact (Kd.S_reads' HO1019.out).2.1); rintro e w' ⟨rfl, ⟨nd, rfl⟩⟩; refine ⟨_, rfl, ?_⟩) | ((with_reducible refine gate_callee (f := 57) rfl ?_); refine goesL_ (some 32) rfl rfl Try.func57 (by kernel_rfl) rfl #[.slice Ao55 t1016.length co55, .int .i64 t1017] rfl (by (try simp only [List.map_toArray, List.map_cons, List.map_nil]); first | done | rfl | (simp only [List.length_drop, List.length_take]; rfl)) ?_; (with_reducible refine (impl_AreRankings.calls k _ _ t1016 t1017 false _ ?side1 ?side2 A8.out).mono ?_); (case side1 => repeat (first | exact (Kd.S_reads' HO1019.out).2.2 | (with_reducible refine Kd.C_alloc ?_ _) | (with_reducible refine Kd.C_drewN ?_ _) | (with_reducible refine Kd.C_drew ?_))); (case side2 => exact (Kd.S_reads' HO1019.out).2.1); rintro e w' ⟨rfl, ⟨nd, rfl⟩⟩; refine ⟨_, rfl, ?_⟩))
    go_ret
    exact ⟨by first | rfl | (simp [errW_none, errW_some] <;> rfl) | (simp [*, errW_none, errW_some] <;> rfl), by repeat (first | (with_reducible first | exact HB.out | apply below_alloc | apply pw_below_drewN | apply below_drew1) | exact HB.out)⟩
def laws_FnRankings.Pure : Prop := ∀ (l0 : List Int), l0.length ≤ maxLen → l0.length * 1 ≤ 140737488351232 → (∀ x ∈ l0, (Lit.int .u8 x).wf = true) → ∃ k, laws_FnRankings.f k l0 = some true
end Go.Proofs.Ytadcndmhdbhfkaa.A
end

section
set_option linter.unusedVariables false
namespace Go.Proofs.Ytadcndmhdbhfkaa.Open
open Go.ChangeShapes Go.WideShapes Go.Deep Go.RowKit Go.Proofs.YtadcndmhdbhfkaaW.PrintWords
def Opn (P : Program) (t : TypeId) {α : Type} (d : Kd α) : Prop :=
  ∀ (H : Type) (enc : TypeId × Value → H) (w : World) (base : Nat) (spare : Nat → Bool) (held : Bool) (fuel : Nat) (cs : List Value) (y : DataW H × List MemPlace),
    DataW.trod enc P w base spare held fuel t cs = some y → ∃ x : α, d.K w x cs
def OpnL (P : Program) (fs : List Field) {α : Type} (d : Kd α) : Prop :=
  ∀ (H : Type) (enc : TypeId × Value → H) (w : World) (base : Nat) (spare : Nat → Bool) (held : Bool) (cs : List Value), cs.length = fs.length →
    (∀ (j : Nat) (f : Field) (c : Value), fs[j]? = some f → cs[j]? = some c → ∃ (n : Nat) (y : DataW H × List MemPlace), DataW.trod enc P w base spare held n f.type [c] = some y) → ∃ x : α, d.K w x cs
theorem opn_int {P : Program} {t : TypeId} {k : IntKind} (ht : P.underlying t = some (.int k)) : Opn P t (Kd.int k) := by
  intro H enc w base spare held fuel cs y h
  obtain ⟨n, rfl, _⟩ := DataW.trod_int ht h
  exact ⟨n, rfl⟩
theorem list_of {α : Type} {p : Nat → α → Prop} : ∀ n, (∀ i, i < n → ∃ x, p i x) → ∃ l : List α, l.length = n ∧ ∀ i x, l[i]? = some x → p i x
  | 0, _ => ⟨[], rfl, fun i x h => by simp at h⟩
  | n + 1, h => by
    obtain ⟨l, hl, hp⟩ := list_of n (fun i hi => h i (by omega))
    obtain ⟨x, hx⟩ := h n (by omega)
    refine ⟨l ++ [x], by simp [hl], fun i y hy => ?_⟩
    rcases Nat.lt_or_ge i l.length with hi | hi
    · rw [List.getElem?_append_left hi] at hy
      exact hp i y hy
    · have hi' : i = l.length := by
        have := (List.getElem?_eq_some_iff.1 hy).1
        rw [List.length_append, List.length_singleton] at this
        omega
      subst hi'
      have : x = y := by simpa using hy
      subst this
      rw [hl]
      exact hx
theorem opn_slice {P : Program} {t e : TypeId} {α : Type} {d : Kd α} (ht : P.underlying t = some (.slice e)) (hC : P.cellsOf e = d.sz) (he : Opn P e d) : Opn P t (Kd.slice e d) := by
  intro H enc w base spare held fuel cs y h
  rcases open_slice ht h with ⟨rfl, _⟩ | ⟨a, len, cap, m, n, D, Pl, rfl, hb, hl, hm, hmm, hx, hi⟩
  · exact ⟨[], none, 0, rfl, Nat.le_refl _, rfl, by simp, fun h => absurd h (by simp)⟩
  · have hlm : len ≤ m := by rw [hmm]; split <;> omega
    obtain ⟨xs, hxl, hp⟩ := list_of (p := fun i x => ∃ cs', w.cells? base (a.add (i * P.cellsOf e)) (P.cellsOf e) = some cs' ∧ d.K w x cs') len (fun i hil => by
      obtain ⟨cs', h1, h2⟩ := hi i (by omega)
      obtain ⟨x, hx⟩ := he H enc w base spare held n cs' _ h2
      exact ⟨x, cs', h1, hx⟩)
    refine ⟨xs, some a, cap, by rw [hxl], by omega, rfl, by unfold maxLen at hm; omega, fun _ => ⟨a, rfl, fun j p hj => ?_⟩⟩
    obtain ⟨cs', hc, hk⟩ := hp j p hj
    obtain ⟨_, hcl, hat⟩ := World.cells?_some hc
    refine ⟨cs', d.K_len hk, hk, fun i u hu => ?_⟩
    have hil : i < cs'.length := (List.getElem?_eq_some_iff.1 hu).1
    have := hat i (by omega)
    rw [Go.Deep.add_add, hC] at this
    rw [this]
    exact hu
theorem opened {H : Type} {enc : TypeId × Value → H} {P : Program} {W : World} {base : Nat} {spare : Nat → Bool} {held : Bool} {t e : TypeId} {α : Type} {d : Kd α} (h : Opn P t (Kd.slice e d)) {a : Option Addr} {len cap : Nat} {dd : DataW H} {ps : List MemPlace}
    (ht : DataW.Trod enc P W base spare held t (.slice a len cap) dd ps) : ∃ l : List α, l.length = len ∧ l.length ≤ cap ∧ d.C W a l.length l := by
  obtain ⟨fuel, hf⟩ := ht
  obtain ⟨l, A, c, he, hl, hc⟩ := h H enc W base spare held fuel _ _ hf
  simp [Value.cells] at he
  obtain ⟨rfl, rfl, rfl⟩ := he
  exact ⟨l, rfl, hl, hc⟩
end Go.Proofs.Ytadcndmhdbhfkaa.Open
end

section
set_option linter.unusedVariables false
set_option linter.unusedSimpArgs false
namespace Go.Proofs.Ytadcndmhdbhfkaa.L
open Go Go.RowKit Go.Proofs.Ytadcndmhdbhfkaa.A Go.Proofs.YtadcndmhdbhfkaaW.PrintWords
def ahead (a b : Int) (r : List Int) : Bool := decide (0 ≤ idx r a ∧ idx r a < idx r b)
def prefB (a b : Int) : List (List Int) → Int
  | [] => 0
  | r :: l => (if ahead a b r = true then 1 else 0) + prefB a b l
def beats (l : List (List Int)) (a b : Int) : Bool := decide (a = b) || decide (prefB a b l > prefB b a l)
def winsF (l : List (List Int)) (a : Int) (bs : List Int) : Bool := bs.all fun b => beats l a b
def pairF (l : List (List Int)) (N : Nat) : List Int → Int
  | [] => -1
  | a :: t => if winsF l a (upto N) = true then a else pairF l N t
theorem upto_get {N n : Nat} (h : n < N) : (upto N)[n]'(by rw [upto_length]; exact h) = (n : Int) := by simp [upto]
theorem upto_drop {N n : Nat} (h : n < N) : (upto N).drop n = (n : Int) :: (upto N).drop (n + 1) := by
  rw [List.drop_eq_getElem_cons (show n < (upto N).length by rw [upto_length]; exact h), upto_get h]
theorem upto_end (N : Nat) : (upto N).drop N = [] := List.drop_eq_nil_of_le (by rw [upto_length]; omega)
def tab (N : Nat) (f : Int → Int) : List Int := (upto N).map f
theorem tab_length (N : Nat) (f : Int → Int) : (tab N f).length = N := by simp [tab, upto_length]
theorem tab_get (N : Nat) (f : Int → Int) (i : Nat) (h : i < (tab N f).length) : (tab N f)[i] = f i := by simp [tab, upto]
theorem rd_tab {N : Nat} {f : Int → Int} {c : Int} (h0 : 0 ≤ c) (h1 : c < N) : rd (tab N f) c = f c := by
  obtain ⟨m, rfl⟩ : ∃ m : Nat, c = m := ⟨c.toNat, by omega⟩
  rw [rd_at (by rw [tab_length]; omega), tab_get]
def upd (f : Int → Int) (c v : Int) : Int → Int := fun x => if x = c then v else f x
theorem tab_set {N : Nat} {f : Int → Int} {c v : Int} (h0 : 0 ≤ c) (h1 : c < N) : (tab N f).set c.toNat v = tab N (upd f c v) := by
  refine List.ext_getElem (by simp [tab_length]) (fun i h2 h3 => ?_)
  have hi : i < N := by rw [tab_length] at h3; exact h3
  simp only [List.getElem_set, tab_get, upd]
  by_cases e : c.toNat = i
  · rw [if_pos e, if_pos (by omega)]
  · rw [if_neg e, if_neg (by omega)]
theorem tab_congr {N : Nat} {f g : Int → Int} (h : ∀ x : Int, 0 ≤ x → x < N → f x = g x) : tab N f = tab N g := by
  refine List.ext_getElem (by simp [tab_length]) (fun i h2 h3 => ?_)
  rw [tab_length] at h2
  rw [tab_get, tab_get, h i (by omega) (by omega)]
def rowF (n : Int) : Int → List Int → (Int → Int) → Int → Int
  | _, [], f => f
  | i, c :: cs, f => rowF n (i + 1) cs (upd f c (f c + (n - 1 - i)))
theorem rowF_eq (n : Int) : ∀ (r : List Int) (i : Int) (f : Int → Int) (x : Int), r.Nodup → rowF n i r f x = if x ∈ r then f x + (n - 1 - (i + r.idxOf x)) else f x
  | [], i, f, x, _ => by simp [rowF]
  | c :: cs, i, f, x, hn => by
    rw [List.nodup_cons] at hn
    rw [rowF, rowF_eq n cs (i + 1) _ x hn.2]
    by_cases e : x = c
    · subst e
      rw [if_neg hn.1, if_pos List.mem_cons_self, upd, if_pos rfl, List.idxOf_cons_self]
      omega
    · have hne : ¬ c = x := fun h => e h.symm
      by_cases hx : x ∈ cs
      · have hix : (c :: cs).idxOf x = cs.idxOf x + 1 := by rw [List.idxOf_cons, beq_false_of_ne hne]; rfl
        rw [if_pos hx, if_pos (List.mem_cons_of_mem _ hx), upd, if_neg e, hix]
        omega
      · rw [if_neg hx, if_neg (by simp [e, hx]), upd, if_neg e]
def pts (n : Int) : List (List Int) → Int → Int
  | [], _ => 0
  | r :: rs, x => (n - 1 - idx r x) + pts n rs x
theorem isRank_mem {r : List Int} {n : Int} (h : isRank r n = true) : (r.length : Int) = n ∧ r.Nodup ∧ (∀ x ∈ r, 0 ≤ x ∧ x < n) ∧ (∀ x : Int, 0 ≤ x → x < n → x ∈ r) := by
  obtain ⟨h1, h2, h3⟩ := isRank_iff.1 h
  refine ⟨h2, h3.nodup_iff.2 (upto_nodup _), fun x hx => ?_, fun x h4 h5 => h3.mem_iff.2 (mem_upto.2 (by omega))⟩
  have := mem_upto.1 (h3.mem_iff.1 hx)
  omega
theorem idx_rank {r : List Int} {n x : Int} (h : isRank r n = true) (h0 : 0 ≤ x) (h1 : x < n) : idx r x = (r.idxOf x : Int) ∧ 0 ≤ idx r x ∧ idx r x ≤ n - 1 := by
  obtain ⟨h2, h3, h4, h5⟩ := isRank_mem h
  have hm := h5 x h0 h1
  have hl := List.idxOf_lt_length_of_mem hm
  have e : idx r x = (r.idxOf x : Int) := by unfold idx; exact if_pos hm
  exact ⟨e, by omega, by omega⟩
end Go.Proofs.Ytadcndmhdbhfkaa.L
end

section
set_option linter.unusedVariables false
set_option linter.unusedSimpArgs false
namespace Go.Proofs.Ytadcndmhdbhfkaa.L
open Go Go.RowKit Go.Proofs.Ytadcndmhdbhfkaa.A Go.Proofs.YtadcndmhdbhfkaaW.PrintWords
def hd (a : Int) : List (List Int) → Int
  | [] => 0
  | r :: l => (if rd r 0 = a then 1 else 0) + hd a l
theorem hd_range (a : Int) : ∀ l : List (List Int), 0 ≤ hd a l ∧ hd a l ≤ l.length
  | [] => by simp [hd]
  | r :: l => by
    have := hd_range a l
    rw [hd, List.length_cons]
    split <;> omega
theorem hd_snoc (a : Int) (r : List Int) : ∀ l : List (List Int), hd a (l ++ [r]) = hd a l + (if rd r 0 = a then 1 else 0)
  | [] => by simp [hd]
  | x :: l => by
    rw [List.cons_append, hd, hd, hd_snoc a r l]
    omega
theorem rank_cons {r : List Int} {n : Int} (h : isRank r n = true) : ∃ x t, r = x :: t := by
  obtain ⟨h1, h2, _⟩ := isRank_iff.1 h
  cases r with
  | nil => simp at h2; omega
  | cons x t => exact ⟨x, t, rfl⟩
theorem hd_fst {left : List Int} {a n : Int} (ha : a ∈ left) : ∀ l : List (List Int), (∀ r ∈ l, isRank r n = true) → hd a l ≤ fst left a l
  | [], _ => by simp [hd, fst]
  | r :: l, h => by
    have ih := hd_fst ha l (fun x hx => h x (List.mem_cons_of_mem _ hx))
    obtain ⟨x, t, rfl⟩ := rank_cons (h r List.mem_cons_self)
    rw [hd, fst, pickO]
    have e : rd (x :: t) 0 = x := rd_at (l := x :: t) (n := 0) (by simp)
    rw [e]
    by_cases hx : x = a
    · subst hx
      rw [if_pos rfl, if_pos ha, if_pos rfl]
      omega
    · rw [if_neg hx]
      split <;> omega
theorem fst_two {left : List Int} {a b : Int} (hne : a ≠ b) : ∀ l : List (List Int), fst left a l + fst left b l ≤ l.length
  | [] => by simp [fst]
  | r :: l => by
    have ih := fst_two (left := left) hne l
    rw [fst, fst, List.length_cons]
    by_cases h1 : pickO left r = some a
    · have h2 : ¬ pickO left r = some b := by
        rw [h1]
        exact fun e => hne (Option.some.inj e)
      rw [if_pos h1, if_neg h2]
      omega
    · rw [if_neg h1]
      split <;> omega
theorem wst_min (v : Int → Int) (left : List Int) : ∀ d k out : Nat, (∀ j : Nat, j < k → v (rd left (out : Int)) ≤ v (rd left (j : Int))) → ∀ j : Nat, j < k + d → v (rd left (wst v left d k out : Int)) ≤ v (rd left (j : Int))
  | 0, k, out, h => fun j hj => by
    rw [wst]
    exact h j (by omega)
  | d + 1, k, out, h => fun j hj => by
    rw [wst]
    refine wst_min v left d (k + 1) _ (fun i hi => ?_) j (by omega)
    by_cases hle : v (rd left (k : Int)) ≤ v (rd left (out : Int))
    · rw [if_pos hle]
      by_cases e : i = k
      · subst e
        exact Int.le_refl _
      · exact Int.le_trans hle (h i (by omega))
    · rw [if_neg hle]
      by_cases e : i = k
      · subst e
        omega
      · exact h i (by omega)
theorem worst_min {l : List (List Int)} {left : List Int} (j : Nat) (hj : j < left.length) : fst left (rd left (worst l left : Int)) l ≤ fst left (rd left (j : Int)) l :=
  wst_min (fun a => fst left a l) left left.length 0 0 (fun i hi => by omega) j (by omega)
theorem runL_mem {l : List (List Int)} : ∀ (m : Nat) (left : List Int), left.length = m + 1 → runL l left ∈ left
  | 0, left, h => by
    rw [runL_stop (by omega)]
    have := rd_at (l := left) (n := 0) (by omega)
    rw [show (0 : Int) = ((0 : Nat) : Int) from rfl, this]
    exact List.getElem_mem _
  | m + 1, left, h => by
    rw [runL_step (by omega)]
    have hw := worst_lt (l := l) (left := left) (by omega)
    exact List.mem_of_mem_eraseIdx (runL_mem m _ (by rw [List.length_eraseIdx_of_lt hw]; omega))
theorem nodup_get {l : List Int} (hn : l.Nodup) {i j : Nat} (hi : i < l.length) (hj : j < l.length) (e : l[i] = l[j]) : i = j := by
  have h := List.pairwise_iff_getElem.1 (List.nodup_iff_pairwise_ne.1 hn)
  rcases Nat.lt_trichotomy i j with h1 | h1 | h1
  · exact absurd e (h i j hi hj h1)
  · exact h1
  · exact absurd e.symm (h j i hj hi h1)
theorem perm_sum {a b : List Int} (h : a.Perm b) : a.sum = b.sum := by
  induction h with
  | nil => rfl
  | cons x _ ih => rw [List.sum_cons, List.sum_cons, ih]
  | swap x y l =>
    rw [List.sum_cons, List.sum_cons, List.sum_cons, List.sum_cons]
    omega
  | trans _ _ h1 h2 => exact h1.trans h2
theorem runL_major {l : List (List Int)} {n a : Int} (hall : ∀ r ∈ l, isRank r n = true) (hmaj : (l.length : Int) < 2 * hd a l) : ∀ (m : Nat) (left : List Int), left.length = m + 1 → left.Nodup → a ∈ left → runL l left = a
  | 0, left, h, _, ha => by
    have h2 := runL_mem (l := l) 0 left h
    match left, h, ha, h2 with
    | [x], _, ha, h2 =>
      rw [List.mem_singleton] at ha h2
      rw [h2, ha]
  | m + 1, left, h, hn, ha => by
    have hw := worst_lt (l := l) (left := left) (by omega)
    have hwa : left[worst l left] ≠ a := by
      intro e
      obtain ⟨b, hb, hne⟩ : ∃ b ∈ left, b ≠ a := by
        by_cases h0 : worst l left = 0
        · refine ⟨left[1], List.getElem_mem _, fun e2 => ?_⟩
          have := nodup_get hn hw (show 1 < left.length by omega) (e.trans e2.symm)
          omega
        · refine ⟨left[0], List.getElem_mem _, fun e2 => ?_⟩
          have := nodup_get hn hw (show 0 < left.length by omega) (e.trans e2.symm)
          omega
      obtain ⟨j, hj, rfl⟩ := List.mem_iff_getElem.1 hb
      have h1 := worst_min (l := l) (left := left) j hj
      rw [rd_at hw, rd_at hj, e] at h1
      have h2 := fst_two (left := left) (fun h => hne h.symm) l
      have h3 := hd_fst (left := left) ha l hall
      omega
    rw [runL_step (by omega)]
    refine runL_major hall hmaj m _ (by rw [List.length_eraseIdx_of_lt hw]; omega) (hn.sublist (List.eraseIdx_sublist _ _)) ?_
    obtain ⟨j, hj, rfl⟩ := List.mem_iff_getElem.1 ha
    rw [List.mem_eraseIdx_iff_getElem]
    exact ⟨j, hj, fun e => hwa (by subst e; rfl), rfl⟩
theorem ahead_two {r : List Int} {n a b : Int} (h : isRank r n = true) (ha : 0 ≤ a ∧ a < n) (hb : 0 ≤ b ∧ b < n) (hne : a ≠ b) : (ahead a b r = true ∧ ahead b a r = false) ∨ (ahead a b r = false ∧ ahead b a r = true) := by
  obtain ⟨h1, h2, h3⟩ := idx_rank h ha.1 ha.2
  obtain ⟨k1, k2, k3⟩ := idx_rank h hb.1 hb.2
  have hm := (isRank_mem h).2.2.2
  have hx : idx r a ≠ idx r b := by
    intro e
    rw [h1, k1] at e
    have e2 : r.idxOf a = r.idxOf b := by omega
    have l1 := List.idxOf_lt_length_of_mem (hm a ha.1 ha.2)
    have l2 := List.idxOf_lt_length_of_mem (hm b hb.1 hb.2)
    have g1 : r[r.idxOf a] = a := List.getElem_idxOf l1
    have g2 : r[r.idxOf b] = b := List.getElem_idxOf l2
    apply hne
    rw [← g1, ← g2]
    congr 1
  unfold ahead
  rcases Int.lt_or_gt_of_ne hx with h | h
  · left
    exact ⟨decide_eq_true ⟨h2, h⟩, decide_eq_false (fun q => by omega)⟩
  · right
    exact ⟨decide_eq_false (fun q => by omega), decide_eq_true ⟨k2, h⟩⟩
theorem pref_sum {n a b : Int} (ha : 0 ≤ a ∧ a < n) (hb : 0 ≤ b ∧ b < n) (hne : a ≠ b) : ∀ l : List (List Int), (∀ r ∈ l, isRank r n = true) → prefB a b l + prefB b a l = l.length
  | [], _ => by simp [prefB]
  | r :: l, h => by
    have ih := pref_sum ha hb hne l (fun x hx => h x (List.mem_cons_of_mem _ hx))
    rw [prefB, prefB, List.length_cons]
    rcases ahead_two (h r List.mem_cons_self) ha hb hne with ⟨h1, h2⟩ | ⟨h1, h2⟩
    · rw [h1, h2]
      simp
      omega
    · rw [h1, h2]
      simp
      omega
theorem hd_pref {n a b : Int} (ha : 0 ≤ a ∧ a < n) (hb : 0 ≤ b ∧ b < n) (hne : a ≠ b) : ∀ l : List (List Int), (∀ r ∈ l, isRank r n = true) → hd a l ≤ prefB a b l
  | [], _ => by simp [prefB, hd]
  | r :: l, h => by
    have ih := hd_pref ha hb hne l (fun x hx => h x (List.mem_cons_of_mem _ hx))
    have hr := h r List.mem_cons_self
    rw [hd, prefB]
    by_cases e : rd r 0 = a
    · have hah : ahead a b r = true := by
        obtain ⟨x, t, rfl⟩ := rank_cons hr
        have e2 : rd (x :: t) 0 = x := rd_at (l := x :: t) (n := 0) (by simp)
        have hxa : x = a := by rw [← e2]; exact e
        subst hxa
        obtain ⟨h1, h2, h3⟩ := idx_rank hr ha.1 ha.2
        obtain ⟨k1, k2, k3⟩ := idx_rank hr hb.1 hb.2
        have hz : List.idxOf x (x :: t) = 0 := List.idxOf_cons_self
        have hnz : List.idxOf b (x :: t) ≠ 0 := by
          intro q
          have hm := (isRank_mem hr).2.2.2 b hb.1 hb.2
          have lq := List.idxOf_lt_length_of_mem hm
          have g2 : (x :: t)[List.idxOf b (x :: t)] = b := List.getElem_idxOf lq
          simp only [q, List.getElem_cons_zero] at g2
          exact hne g2
        unfold ahead
        exact decide_eq_true ⟨h2, by omega⟩
      rw [if_pos e, hah]
      simp
      omega
    · rw [if_neg e]
      split <;> omega
theorem pairF_major {l : List (List Int)} {N : Nat} {a : Int} (hall : ∀ r ∈ l, isRank r (N : Int) = true) (ha : 0 ≤ a ∧ a < (N : Int)) (hmaj : (l.length : Int) < 2 * hd a l) : ∀ qs : List Int, a ∈ qs → (∀ x ∈ qs, 0 ≤ x ∧ x < (N : Int)) → pairF l N qs = a
  | [], h, _ => by simp at h
  | x :: qs, h, hr => by
    rw [pairF]
    by_cases hx : x = a
    · subst hx
      rw [if_pos]
      unfold winsF
      rw [List.all_eq_true]
      intro b hb
      unfold beats
      by_cases e : x = b
      · simp [e]
      · have hb2 := mem_upto.1 hb
        have h1 := hd_pref ha hb2 e l hall
        have h2 := pref_sum ha hb2 e l hall
        simp only [Bool.or_eq_true, decide_eq_true_eq]
        right
        omega
    · rw [if_neg]
      · exact pairF_major hall ha hmaj qs ((List.mem_cons.1 h).resolve_left (fun e => hx e.symm)) (fun y hy => hr y (List.mem_cons_of_mem _ hy))
      · unfold winsF
        rw [List.all_eq_true]
        intro q
        have hxr := hr x List.mem_cons_self
        have h1 := q a (mem_upto.2 ha)
        unfold beats at h1
        simp only [Bool.or_eq_true, decide_eq_true_eq] at h1
        have h2 := hd_pref ha hxr (fun e => hx e.symm) l hall
        have h3 := pref_sum ha hxr (fun e => hx e.symm) l hall
        rcases h1 with h1 | h1
        · exact hx h1
        · omega
theorem sum_down : ∀ (N : Nat) (n : Int), n = N → 2 * ((List.range N).map fun (i : Nat) => n - 1 - (i : Int)).sum = n * (n - 1)
  | 0, n, h => by subst h; simp
  | N + 1, n, h => by
    have ih := sum_down N (n - 1) (by omega)
    have e : ((List.range (N + 1)).map fun (i : Nat) => n - 1 - (i : Int)) = (n - 1) :: ((List.range N).map fun (i : Nat) => n - 1 - 1 - (i : Int)) := by
      rw [List.range_succ_eq_map, List.map_cons, List.map_map]
      congr 1
      · simp
      · apply List.map_congr_left
        intro i _
        simp only [Function.comp_apply]
        omega
    rw [e, List.sum_cons, Int.mul_add, ih]
    have h1 : n * (n - 1) = (n - 1) * (n - 1) + (n - 1) := by
      have e2 : n = (n - 1) + 1 := by omega
      conv => lhs; rw [show n * (n - 1) = ((n - 1) + 1) * (n - 1) from by rw [← e2]]
      rw [Int.add_mul, Int.one_mul]
    have h2 : (n - 1) * (n - 1 - 1) = (n - 1) * (n - 1) - (n - 1) := by rw [Int.mul_sub, Int.mul_one]
    omega
theorem rank_sum {r : List Int} {N : Nat} (h : isRank r (N : Int) = true) : 2 * ((upto N).map fun x => (N : Int) - 1 - idx r x).sum = (N : Int) * ((N : Int) - 1) := by
  obtain ⟨h1, h2, h3⟩ := isRank_iff.1 h
  obtain ⟨m1, m2, m3, m4⟩ := isRank_mem h
  rw [Int.toNat_natCast] at h3
  have hp : ((upto N).map fun x => (N : Int) - 1 - idx r x).Perm (r.map fun x => (N : Int) - 1 - idx r x) := h3.symm.map _
  rw [perm_sum hp]
  have e : (r.map fun x => (N : Int) - 1 - idx r x) = ((List.range N).map fun (i : Nat) => (N : Int) - 1 - (i : Int)) := by
    apply List.ext_getElem
    · simp; omega
    · intro i hi hj
      have hi' : i < r.length := by simpa using hi
      simp only [List.getElem_map, List.getElem_range]
      have e1 := (idx_rank h (m3 _ (List.getElem_mem hi')).1 (m3 _ (List.getElem_mem hi')).2).1
      rw [e1, m2.idxOf_getElem i hi']
  rw [e]
  exact sum_down N _ rfl
theorem pts_sum (N : Nat) : ∀ l : List (List Int), (∀ r ∈ l, isRank r (N : Int) = true) → 2 * ((upto N).map (pts (N : Int) l)).sum = (l.length : Int) * ((N : Int) * ((N : Int) - 1))
  | [], _ => by
    have e : (upto N).map (pts (N : Int) []) = (upto N).map (fun _ => (0 : Int)) := rfl
    rw [e]
    have : ∀ q : List Int, (q.map (fun _ => (0 : Int))).sum = 0 := by
      intro q
      induction q with
      | nil => rfl
      | cons x q ih => simpa using ih
    rw [this]
    simp
  | r :: l, h => by
    have ih := pts_sum N l (fun x hx => h x (List.mem_cons_of_mem _ hx))
    have hr := rank_sum (h r List.mem_cons_self)
    have e : ∀ q : List Int, (q.map (pts (N : Int) (r :: l))).sum = (q.map fun x => (N : Int) - 1 - idx r x).sum + (q.map (pts (N : Int) l)).sum := by
      intro q
      induction q with
      | nil => rfl
      | cons x q ihq =>
        rw [List.map_cons, List.sum_cons, List.map_cons, List.sum_cons, List.map_cons, List.sum_cons, ihq, pts]
        omega
    rw [e, Int.mul_add, hr, ih, List.length_cons]
    have : ((l.length + 1 : Nat) : Int) * ((N : Int) * ((N : Int) - 1)) = (N : Int) * ((N : Int) - 1) + (l.length : Int) * ((N : Int) * ((N : Int) - 1)) := by
      rw [Int.natCast_add, Int.add_mul]
      omega
    omega
end Go.Proofs.Ytadcndmhdbhfkaa.L
end

section
namespace Go.Proofs.Ytadcndmhdbhfkaa.A
open Go.RowKit Go.Proofs.YtadcndmhdbhfkaaW.PrintWords Go.Proofs.YtadcndmhdbhfkaaW.PrintLast Go.Proofs.YtadcndmhdbhfkaaW.PrintMore
attribute [local go_sem] max2_int min2_int max_two min_two max_three min_three max_four min_four   -- for this text's walks alone
set_option linter.unusedVariables false
set_option linter.unusedSimpArgs false
mutual
def spec_l17Firsts.l0 : Nat → List (List Int) → List Int → Int → Int → Int → Option (Int)
  | 0, _, _, _, _, _ => none
  | k + 1, x0, x1, x2, x7, x8 => if x8 < (x0.length : Int) then (spec_l17Firsts.l1 k x0 x1 x2 x7 x8 0) else (some x7)
def spec_l17Firsts.l1 : Nat → List (List Int) → List Int → Int → Int → Int → Int → Option (Int)
  | 0, _, _, _, _, _, _ => none
  | k + 1, x0, x1, x2, x7, x8, x9 => if 0 ≤ x8 then (if x8 < (x0.length : Int) then (if x9 < ((rd_L4 x0 x8).length : Int) then (if 0 ≤ x9 then ((spec_l4Has.f k x1 (rd (rd_L4 x0 x8) x9)).bind fun t384 => (if t384 = true then (if (rd (rd_L4 x0 x8) x9) = x2 then (spec_l17Firsts.l0 k x0 x1 x2 (wrap64 (x7 + 1)) (wrap64 (x8 + 1))) else (spec_l17Firsts.l0 k x0 x1 x2 x7 (wrap64 (x8 + 1)))) else (spec_l17Firsts.l1 k x0 x1 x2 x7 x8 (wrap64 (x9 + 1))))) else (none)) else (spec_l17Firsts.l0 k x0 x1 x2 x7 (wrap64 (x8 + 1)))) else (none)) else (none)
end
def spec_l17Firsts.f (k : Nat) (l0 : List (List Int)) (l1 : List Int) (a2 : Int) : Option (Int) := spec_l17Firsts.l0 k l0 l1 a2 0 0
end Go.Proofs.Ytadcndmhdbhfkaa.A
end

section
namespace Go.Proofs.Ytadcndmhdbhfkaa.A
open Go.RowKit Go.Proofs.YtadcndmhdbhfkaaW.PrintWords Go.Proofs.YtadcndmhdbhfkaaW.PrintLast Go.Proofs.YtadcndmhdbhfkaaW.PrintMore
attribute [local go_sem] max2_int min2_int max_two min_two max_three min_three max_four min_four   -- for this text's walks alone
set_option linter.unusedVariables false
set_option linter.unusedSimpArgs false
mutual
def spec_RunOff.l0 : Nat → List (List Int) → Int → List Int → Int → Option (Int)
  | 0, _, _, _, _ => none
  | k + 1, x0, x1, x5, x6 => if x6 < x1 then (if x5.length < 17592186044416 then (spec_RunOff.l0 k x0 x1 (x5 ++ [x6]) (wrap64 (x6 + 1))) else (none)) else (spec_RunOff.l1 k x0 x5)
def spec_RunOff.l1 : Nat → List (List Int) → List Int → Option (Int)
  | 0, _, _ => none
  | k + 1, x0, x5 => if (x5.length : Int) > 1 then (spec_RunOff.l2 k x0 x5 0 1) else (if 0 < (x5.length : Int) then (some (rd x5 0)) else (none))
def spec_RunOff.l2 : Nat → List (List Int) → List Int → Int → Int → Option (Int)
  | 0, _, _, _, _ => none
  | k + 1, x0, x5, x7, x8 => if x8 < (x5.length : Int) then (if 0 ≤ x8 then ((spec_l17Firsts.f k x0 x5 (rd x5 x8)).bind fun t413 => (if 0 ≤ x7 then (if x7 < (x5.length : Int) then ((spec_l17Firsts.f k x0 x5 (rd x5 x7)).bind fun t415 => (if t413 ≤ t415 then (spec_RunOff.l2 k x0 x5 x8 (wrap64 (x8 + 1))) else (spec_RunOff.l2 k x0 x5 x7 (wrap64 (x8 + 1))))) else (none)) else (none))) else (none)) else ((some (([] : List Int) : List Int)).bind fun y395 => (if 0 ≤ x7 then (if x7 ≤ (x5.length : Int) then ((some (x5.take (x7 : Int).toNat : List Int)).bind fun y398 => (if y395.length + y398.length < 17592186044416 then ((some (y395 ++ y398 : List Int)).bind fun y402 => (if 0 ≤ (wrap64 (x7 + 1)) then (if (wrap64 (x7 + 1)) ≤ (x5.length : Int) then ((some (x5.drop ((wrap64 (x7 + 1)) : Int).toNat : List Int)).bind fun y405 => (if y402.length + y405.length < 17592186044416 then (spec_RunOff.l1 k x0 (y402 ++ y405)) else (none))) else (none)) else (none))) else (none))) else (none)) else (none)))
end
def spec_RunOff.f (k : Nat) (l0 : List (List Int)) (a1 : Int) : Option (Int) := (spec_AreRankings.f k l0 a1).bind fun t387 => (if t387 = true then (spec_RunOff.l0 k l0 a1 (([] : List Int)) 0) else (some (-1)))
def spec_RunOff.T13 : Bool × List (List Nat × List Nat) := (true, [([], []), ([], []), ([], []), ([], []), ([2, 3], [2, 3]), ([4], [4]), ([0, 1, 5], [0, 1, 5]), ([], []), ([], []), ([], []), ([], []), ([9, 10], [9, 10]), ([11], [11]), ([7, 8, 12, 6], [7, 8, 12]), ([6, 13], [6, 13])])
def spec_RunOff.B13 : List Nat := [0, 0, 0, 0, 12, 28, 63, 0, 0, 0, 0, 1536, 3584, 8191, 16383]
def spec_RunOff.T15 : Bool × List (List Nat × List Nat) := (true, [([], []), ([], []), ([], []), ([1, 2], [1, 2]), ([0, 3], [0, 3]), ([], []), ([], []), ([6], [6]), ([5, 7], [5, 7]), ([4, 8, 4], [4, 8]), ([9, 9, 0, 1, 2, 3, 4, 5, 6, 7, 8, 9], [1, 5, 9])])
def spec_RunOff.B15 : List Nat := [0, 0, 0, 6, 15, 0, 0, 64, 224, 511, 1023]
end Go.Proofs.Ytadcndmhdbhfkaa.A
end

section
set_option linter.unusedVariables false
set_option linter.unusedSimpArgs false
namespace Go.Proofs.Ytadcndmhdbhfkaa.L
open Go Go.RowKit Go.Proofs.Ytadcndmhdbhfkaa.A Go.Proofs.YtadcndmhdbhfkaaW.PrintWords
def runT (l : List (List Int)) (n : Int) : Int := if okRanks l n = true then runL l (upto n.toNat) else -1
theorem iRunOff_ev (l : List (List Int)) (n : Int) (hl : l.length ≤ 1099511627776) (hi : ∀ x ∈ l, x.length ≤ 1099511627776) : Ev (fun k => impl_RunOff.f k l n) (runT l n) := by
  unfold impl_RunOff.f runT
  refine Ev.bind (iAreRankings_ev l n hl hi) (Ev.ite (fun h => ?_) (fun h => Ev.some_ (if_neg h).symm))
  rw [if_pos h]
  exact Ev.some_ (if_pos h).symm
end Go.Proofs.Ytadcndmhdbhfkaa.L
end

section
set_option linter.unusedVariables false
set_option linter.unusedSimpArgs false
namespace Go.Proofs.Ytadcndmhdbhfkaa.L
open Go Go.RowKit Go.Proofs.Ytadcndmhdbhfkaa.A Go.Proofs.YtadcndmhdbhfkaaW.PrintWords
theorem iPrefer_l0 (l : List (List Int)) (a b : Int) (hl : l.length ≤ 1099511627776) (hi : ∀ x ∈ l, x.length ≤ 1099511627776) : ∀ (d n : Nat) (acc : Int), n + d = l.length → 0 ≤ acc → acc + d ≤ 4611686018427387904 → Ev (fun k => impl_Prefer.l0 k a b acc l (l.length : Int) (n : Int)) (acc + prefB a b (l.drop n)) := by
  intro d
  induction d with
  | zero =>
    intro n acc hd h0 h1
    refine Ev.step (fun k => impl_Prefer.l0.eq_2 ..) ?_
    refine Ev.neg (by omega) (Ev.some_ ?_)
    rw [List.drop_eq_nil_of_le (by omega)]
    simp [prefB]
  | succ d ih =>
    intro n acc hd h0 h1
    have hn := hi l[n] (List.getElem_mem _)
    refine Ev.step (fun k => impl_Prefer.l0.eq_2 ..) ?_
    refine Ev.pos (by omega) (Ev.pos (by omega) (Ev.pos (by omega) ?_))
    simp only [w64s (show n < 4611686018427387904 by omega), rdL1_at (show n < l.length by omega), w64 (show -9223372036854775808 ≤ acc + 1 by omega) (show acc + 1 ≤ 9223372036854775807 by omega)]
    have h1 := fun acc h0 h1 => ih (n + 1) acc (by omega) h0 h1
    rw [List.drop_eq_getElem_cons (show n < l.length by omega)]
    generalize l.drop (n + 1) = u at h1 ⊢
    refine Ev.bind (Index_ev l[n] a hn) (Ev.bind (Index_ev l[n] b hn) (Ev.ite (fun h => Ev.ite (fun h3 => Ev.ite (fun h2 => Ev.cast (h1 (acc + 1) (by omega) (by omega)) ?_) (fun h2 => Ev.cast (h1 acc (by omega) (by omega)) ?_)) (fun h3 => Ev.cast (h1 acc (by omega) (by omega)) ?_)) (fun h => Ev.cast (h1 acc (by omega) (by omega)) ?_)))
    · have : ahead a b l[n] = true := by simp only [ahead, decide_eq_true_eq]; omega
      simp only [prefB, this, if_true]; omega
    · have : ¬ ahead a b l[n] = true := by simp only [ahead, decide_eq_true_eq]; omega
      rw [prefB, if_neg this]; omega
    · have : ¬ ahead a b l[n] = true := by simp only [ahead, decide_eq_true_eq]; omega
      rw [prefB, if_neg this]; omega
    · have : ¬ ahead a b l[n] = true := by simp only [ahead, decide_eq_true_eq]; omega
      rw [prefB, if_neg this]; omega
theorem iPrefer_ev (l : List (List Int)) (a b : Int) (hl : l.length ≤ 1099511627776) (hi : ∀ x ∈ l, x.length ≤ 1099511627776) : Ev (fun k => impl_Prefer.f k l a b) (prefB a b l) := by
  unfold impl_Prefer.f
  exact Ev.cast (iPrefer_l0 l a b hl hi l.length 0 0 (by omega) (by omega) (by omega)) (by simp)
end Go.Proofs.Ytadcndmhdbhfkaa.L
end

section
set_option linter.unusedVariables false
set_option linter.unusedSimpArgs false
namespace Go.Proofs.Ytadcndmhdbhfkaa.L
open Go Go.RowKit Go.Proofs.Ytadcndmhdbhfkaa.A Go.Proofs.YtadcndmhdbhfkaaW.PrintWords
def pairW (l : List (List Int)) (n : Int) : Int := if okRanks l n = true then pairF l n.toNat (upto n.toNat) else -1
section
variable (l : List (List Int)) (N : Nat) (hN : N ≤ 8) (hl : l.length ≤ 1099511627776) (hi : ∀ x ∈ l, x.length ≤ 1099511627776) (ho : okRanks l N = true)
include hN hl hi in
theorem iPair_l1 (a : Nat) (ha : a < N) (R : Int) (hR : Ev (fun k => impl_PairWinner.l0 k l (N : Int) (N : Int) ((a + 1 : Nat) : Int)) R) : ∀ (d n : Nat) (w : Bool), n + d = N → Ev (fun k => impl_PairWinner.l1 k l (N : Int) (a : Int) w (N : Int) (a : Int) (N : Int) (n : Int)) (if (w && winsF l a ((upto N).drop n)) = true then (a : Int) else R) := by
  intro d
  induction d with
  | zero =>
    intro n w hd
    obtain rfl : n = N := by omega
    refine Ev.step (fun k => impl_PairWinner.l1.eq_2 ..) (Ev.neg (by omega) ?_)
    rw [upto_end]
    simp only [winsF, List.all_nil, Bool.and_true, w64s (show a < 4611686018427387904 by omega)]
    refine Ev.ite (fun h => Ev.some_ ?_) (fun h => Ev.cast hR ?_)
    · rw [if_pos h]
    · rw [if_neg h]
  | succ d ih =>
    intro n w hd
    refine Ev.step (fun k => impl_PairWinner.l1.eq_2 ..) (Ev.pos (by omega) ?_)
    rw [upto_drop (show n < N by omega)]
    have h1 := fun w => ih (n + 1) w (by omega)
    generalize (upto N).drop (n + 1) = u at h1 ⊢
    simp only [w64s (show n < 4611686018427387904 by omega)]
    refine Ev.ite (fun hw => Ev.ite (fun h => Ev.cast (h1 true) ?_) (fun h => Ev.bind (iPrefer_ev l a n hl hi) (Ev.bind (iPrefer_ev l n a hl hi) (Ev.cast (h1 _) ?_)))) (fun hw => Ev.cast (h1 false) ?_)
    · have e : beats l (a : Int) (n : Int) = true := by simp only [beats, decide_eq_true h, Bool.true_or]
      simp only [hw, winsF, List.all_cons, e, Bool.true_and]
    · have e : beats l (a : Int) (n : Int) = decide (prefB a n l > prefB n a l) := by simp only [beats, decide_eq_false h, Bool.false_or]
      simp only [hw, winsF, List.all_cons, e, Bool.true_and]
      try rfl
    · have : w = false := by simpa using hw
      simp only [this, Bool.false_and]
include hN hl hi in
theorem iPair_l0 : ∀ (d n : Nat), n + d = N → Ev (fun k => impl_PairWinner.l0 k l (N : Int) (N : Int) (n : Int)) (pairF l N ((upto N).drop n)) := by
  intro d
  induction d with
  | zero =>
    intro n hd
    obtain rfl : n = N := by omega
    refine Ev.step (fun k => impl_PairWinner.l0.eq_2 ..) (Ev.neg (by omega) (Ev.some_ ?_))
    rw [upto_end]
    rfl
  | succ d ih =>
    intro n hd
    refine Ev.step (fun k => impl_PairWinner.l0.eq_2 ..) (Ev.pos (by omega) ?_)
    refine Ev.cast (iPair_l1 l N hN hl hi n (by omega) _ (ih (n + 1) (by omega)) N 0 true (by omega)) ?_
    rw [upto_drop (show n < N by omega)]
    simp only [pairF, Bool.true_and, List.drop_zero]
end
theorem iPairWinner_ev (l : List (List Int)) (n : Int) (hl : l.length ≤ 1099511627776) (hi : ∀ x ∈ l, x.length ≤ 1099511627776) : Ev (fun k => impl_PairWinner.f k l n) (pairW l n) := by
  unfold impl_PairWinner.f pairW
  refine Ev.bind (iAreRankings_ev l n hl hi) (Ev.ite (fun ho => ?_) (fun ho => Ev.some_ ?_))
  · rw [if_pos ho]
    have hn := (okRanks_iff.1 ho).2.1
    obtain ⟨N, rfl⟩ : ∃ N : Nat, n = (N : Int) := ⟨n.toNat, by omega⟩
    exact Ev.cast (iPair_l0 l N (by omega) hl hi N 0 (by omega)) (by simp)
  · rw [if_neg ho]
end Go.Proofs.Ytadcndmhdbhfkaa.L
end

section
set_option linter.unusedVariables false
set_option linter.unusedSimpArgs false
namespace Go.Proofs.Ytadcndmhdbhfkaa.L
open Go Go.RowKit Go.Proofs.Ytadcndmhdbhfkaa.A Go.Proofs.YtadcndmhdbhfkaaW.PrintWords
section
variable (l : List (List Int)) (n : Int) (N : Nat) (hN : (N : Int) = n) (h8 : N ≤ 8)
include hN h8
theorem iPts_l1 (out0 : Nat) (hlen : l.length ≤ 20) (r : List Int) (hr : isRank r n = true) (m : Nat) (M : Int) (hM : 0 ≤ M ∧ M ≤ 1000) (R : List Int) : ∀ (d i : Nat) (f : Int → Int), i + d = r.length → (∀ x ∈ r.drop i, 0 ≤ f x ∧ f x ≤ M) → Ev (fun k => impl_PlacePoints.l0 k n (tab N (rowF n i (r.drop i) f)) l (l.length : Int) (wrap64 ((m : Int) + 1))) R → Ev (fun k => impl_PlacePoints.l1 k n (tab N f) l (l.length : Int) (m : Int) r (r.length : Int) (i : Int)) R := by
  obtain ⟨hl, hnd, hmem, _⟩ := isRank_mem hr
  intro d
  induction d with
  | zero =>
    intro i f hd hf hR
    rw [List.drop_eq_nil_of_le (by omega), rowF] at hR
    exact Ev.step (fun k => impl_PlacePoints.l1.eq_2 ..) (Ev.neg (by omega) hR)
  | succ d ih =>
    intro i f hd hf hR
    have hi : i < r.length := by omega
    have hc := hmem r[i] (List.getElem_mem hi)
    refine Ev.step (fun k => impl_PlacePoints.l1.eq_2 ..) (Ev.pos (by omega) (Ev.pos (by omega) (Ev.pos (by omega) ?_)))
    rw [rd_at hi]
    refine Ev.pos (by omega) (Ev.pos (by rw [tab_length]; omega) ?_)
    rw [List.drop_eq_getElem_cons hi] at hR hf
    have hfc := hf r[i] List.mem_cons_self
    rw [rd_tab (by omega) (by omega), tab_set (by omega) (by omega), w64s (show i < 4611686018427387904 by omega), w64 (x := n - 1) (by omega) (by omega), w64 (x := n - 1 - (i : Int)) (by omega) (by omega), w64 (x := f r[i] + (n - 1 - (i : Int))) (by omega) (by omega)]
    rw [rowF] at hR
    have e : ((i : Int) + 1) = ((i + 1 : Nat) : Int) := by omega
    rw [e] at hR
    have hnd2 : r[i] ∉ r.drop (i + 1) := by
      have h2 := hnd.sublist (List.drop_sublist i r)
      rw [List.drop_eq_getElem_cons hi, List.nodup_cons] at h2
      exact h2.1
    refine ih (i + 1) _ (by omega) (fun x hx => ?_) hR
    rw [upd, if_neg (fun h => hnd2 (by rw [← h]; exact hx))]
    exact hf x (List.mem_cons_of_mem _ hx)
theorem iPts_l0 (hlen : l.length ≤ 20) (hok : ∀ r ∈ l, isRank r n = true) : ∀ (d m : Nat) (f : Int → Int), m + d = l.length → (∀ x : Int, 0 ≤ x → x < n → 0 ≤ f x ∧ f x ≤ 8 * m) → Ev (fun k => impl_PlacePoints.l0 k n (tab N f) l (l.length : Int) (m : Int)) (tab N (fun x => f x + pts n (l.drop m) x)) := by
  intro d
  induction d with
  | zero =>
    intro m f hd hf
    refine Ev.step (fun k => impl_PlacePoints.l0.eq_2 ..) (Ev.neg (by omega) (Ev.some_ ?_))
    rw [List.drop_eq_nil_of_le (by omega)]
    simp [pts]
  | succ d ih =>
    intro m f hd hf
    have hm : m < l.length := by omega
    have hr := hok l[m] (List.getElem_mem hm)
    obtain ⟨h2, h3, h4, h5⟩ := isRank_mem hr
    refine Ev.step (fun k => impl_PlacePoints.l0.eq_2 ..) (Ev.pos (by omega) (Ev.pos (by omega) (Ev.pos (by omega) ?_)))
    have e1 : rd_L4 l (m : Int) = l[m] := by simp [rd_L4, hm]
    rw [e1]
    refine iPts_l1 l n N hN h8 0 hlen l[m] hr m (8 * m) ⟨by omega, by omega⟩ _ l[m].length 0 f (by omega) (fun x hx => by have := h4 x (by simpa using hx); exact hf x (by omega) (by omega)) ?_
    rw [w64s (show m < 4611686018427387904 by omega)]
    have hrow : ∀ x : Int, 0 ≤ x → x < n → rowF n ((0 : Nat) : Int) (l[m].drop 0) f x = f x + (n - 1 - idx l[m] x) := by
      intro x h0 h1
      obtain ⟨e2, _, _⟩ := idx_rank hr h0 h1
      rw [List.drop_zero, rowF_eq n _ _ f x h3, if_pos (h5 x h0 h1), e2]
      omega
    have := ih (m + 1) (rowF n ((0 : Nat) : Int) (l[m].drop 0) f) (by omega) (fun x h0 h1 => by
      obtain ⟨_, e3, e4⟩ := idx_rank hr h0 h1
      have := hf x h0 h1
      rw [hrow x h0 h1]
      omega)
    refine Ev.cast this (tab_congr (fun x h0 h1 => ?_))
    rw [hrow x h0 (by omega), List.drop_eq_getElem_cons hm, pts]
    omega
end
def pointsT (l : List (List Int)) (n : Int) : List Int := if okRanks l n = true then tab n.toNat (pts n l) else []
theorem iPoints_ev (l : List (List Int)) (n : Int) (hl : l.length ≤ 1099511627776) (hi : ∀ x ∈ l, x.length ≤ 1099511627776) : Ev (fun k => impl_PlacePoints.f k l n) (pointsT l n) := by
  unfold impl_PlacePoints.f pointsT
  refine Ev.bind (iAreRankings_ev l n hl hi) ?_
  refine Ev.ite (fun hk => ?_) (fun hk => Ev.some_ (if_neg hk).symm)
  obtain ⟨hok, h1, h2⟩ := okRanks_iff.1 hk
  refine Ev.pos (by omega) (Ev.pos (by omega) ?_)
  have e : List.replicate n.toNat (0 : Int) = tab n.toNat (fun _ => 0) := by
    refine List.ext_getElem (by simp [tab_length]) (fun i h3 h4 => ?_)
    rw [tab_get]
    simp
  rw [e, if_pos hk]
  have := iPts_l0 l n n.toNat (by omega) (by omega) h2 hok l.length 0 (fun _ => 0) (by omega) (fun x _ _ => ⟨by omega, by omega⟩)
  refine Ev.cast this (tab_congr (fun x _ _ => ?_))
  simp
end Go.Proofs.Ytadcndmhdbhfkaa.L
end

section
namespace Go.Proofs.Ytadcndmhdbhfkaa.A
open Go.RowKit Go.Proofs.YtadcndmhdbhfkaaW.PrintWords Go.Proofs.YtadcndmhdbhfkaaW.PrintLast Go.Proofs.YtadcndmhdbhfkaaW.PrintMore
attribute [local go_sem] max2_int min2_int max_two min_two max_three min_three max_four min_four   -- for this text's walks alone
set_option linter.unusedVariables false
set_option linter.unusedSimpArgs false
def spec_l1Once.f (s0_0 : List Int) (s0_1 : Int) (s0_2 : Int) (a1 : Int) : Option (Bool × Int × Int) := (spec_l1Below.f s0_0 s0_1 s0_2 a1).bind fun bt299 => (some ((bt299.1 == 0), bt299.2.1, bt299.2.2))
end Go.Proofs.Ytadcndmhdbhfkaa.A
end

section
set_option linter.unusedVariables false
set_option linter.unusedSimpArgs false
namespace Go.Proofs.Ytadcndmhdbhfkaa.L
open Go Go.RowKit Go.Proofs.Ytadcndmhdbhfkaa.A Go.Proofs.YtadcndmhdbhfkaaW.PrintWords
theorem bits255 (x : Int) : 0 ≤ Go.bits .and .i64 x 255 ∧ Go.bits .and .i64 x 255 ≤ 255 := by
  have h : ((BitVec.ofInt 64 x) &&& (BitVec.ofInt 64 255)).toNat ≤ 255 := by
    rw [BitVec.toNat_and]
    exact Nat.le_trans Nat.and_le_right (by decide)
  show 0 ≤ IntKind.i64.wrap (((BitVec.ofInt 64 x) &&& (BitVec.ofInt 64 255)).toNat : Int) ∧ IntKind.i64.wrap (((BitVec.ofInt 64 x) &&& (BitVec.ofInt 64 255)).toNat : Int) ≤ 255
  generalize ((BitVec.ofInt 64 x) &&& (BitVec.ofInt 64 255)).toNat = t at h ⊢
  rw [IntKind.wrap_i64]
  omega
def At (b : List Int) (i : Int) : Prop := b.length ≤ 1099511627776 ∧ 0 ≤ i ∧ i ≤ b.length
theorem Byte_eq (b : List Int) (i h : Int) (ha : At b i) : ∃ r i' h', spec_l1Byte.f b i h = some (r, i', h') ∧ 0 ≤ r ∧ r ≤ 255 ∧ At b i' := by
  unfold spec_l1Byte.f
  obtain ⟨hl, h0, h1⟩ := ha
  by_cases hlt : i < (b.length : Int)
  · rw [if_pos hlt, if_pos h0, w64 (x := i + 1) (by omega) (by omega)]
    refine ⟨_, _, _, rfl, (bits255 _).1, (bits255 _).2, hl, by omega, by omega⟩
  · rw [if_neg hlt]
    exact ⟨_, _, _, rfl, (bits255 _).1, (bits255 _).2, hl, h0, h1⟩
theorem Below_eq (b : List Int) (i h n : Int) (ha : At b i) : ∃ r i' h', spec_l1Below.f b i h n = some (r, i', h') ∧ 0 ≤ r ∧ (0 < n → r < n) ∧ (n ≤ 0 → r = 0) ∧ At b i' := by
  unfold spec_l1Below.f
  by_cases h0 : n ≤ 0
  · rw [if_pos h0]
    exact ⟨_, _, _, rfl, by omega, by omega, fun _ => rfl, ha⟩
  · rw [if_neg h0]
    by_cases h1 : n ≤ 256
    · rw [if_pos h1]
      obtain ⟨r, i1, h2, e, hr0, hr1, ha1⟩ := Byte_eq b i h ha
      rw [e]
      simp only [Option.bind_some]
      rw [if_neg (by omega)]
      refine ⟨_, _, _, rfl, ?_, fun _ => ?_, fun hn => absurd hn h0, ha1⟩
      · exact Int.tmod_nonneg _ hr0
      · exact Int.tmod_lt_of_pos _ (by omega)
    · rw [if_neg h1]
      obtain ⟨r, i1, h2, e, hr0, hr1, ha1⟩ := Byte_eq b i h ha
      rw [e]
      simp only [Option.bind_some]
      obtain ⟨r3, i3, h3, e3, hr30, hr31, ha3⟩ := Byte_eq b i1 h2 ha1
      rw [e3]
      simp only [Option.bind_some]
      obtain ⟨r4, i4, h4, e4, hr40, hr41, ha4⟩ := Byte_eq b i3 h3 ha3
      rw [e4]
      simp only [Option.bind_some]
      rw [if_neg (by omega)]
      refine ⟨_, _, _, rfl, ?_, fun _ => ?_, fun hn => absurd hn h0, ha4⟩
      · refine Int.tmod_nonneg _ ?_
        rw [w64 (x := r * 65536) (by omega) (by omega), w64 (x := r3 * 256) (by omega) (by omega), w64 (x := r * 65536 + r3 * 256) (by omega) (by omega), w64 (by omega) (by omega)]
        omega
      · exact Int.tmod_lt_of_pos _ (by omega)
theorem DInt_eq (b : List Int) (i h : Int) (l : List Int) (hl : 0 < l.length) (ha : At b i) : ∃ r i' h', spec_l1Int.f b i h l = some (r, i', h') ∧ r ∈ l ∧ At b i' := by
  unfold spec_l1Int.f
  obtain ⟨r, i1, h2, e, h0, h1, _, ha1⟩ := Below_eq b i h l.length ha
  rw [e]
  simp only [Option.bind_some]
  rw [if_pos h0, if_pos (h1 (by omega))]
  refine ⟨_, _, _, rfl, ?_, ha1⟩
  have hr := h1 (by omega)
  obtain ⟨m, rfl⟩ : ∃ m : Nat, r = m := ⟨r.toNat, by omega⟩
  rw [rd_at (show m < l.length by omega)]
  exact List.getElem_mem _
theorem New_l0 (b : List Int) (hl : b.length ≤ 1099511627776) : ∀ (d n : Nat) (h : Int), n + d = b.length → ∃ h', Ev (fun k => spec_l1New.l0 k b h (n : Int)) (b, 0, h') := by
  intro d
  induction d with
  | zero =>
    intro n h hd
    exact ⟨_, Ev.step (fun k => spec_l1New.l0.eq_2 ..) (Ev.neg (by omega) (Ev.now _))⟩
  | succ d ih =>
    intro n h hd
    by_cases h4 : (n : Int) < 4000
    · obtain ⟨h', e⟩ := ih (n + 1) (Go.bits .and .i64 (wrap64 ((wrap64 ((wrap64 (h * 137)) + (wrap64 (rd b n)))) + 11)) 1073741823) (by omega)
      refine ⟨h', Ev.step (fun k => spec_l1New.l0.eq_2 ..) (Ev.pos (by omega) (Ev.pos h4 (Ev.pos (by omega) ?_)))⟩
      simp only [w64s (show n < 4611686018427387904 by omega)]
      exact e
    · exact ⟨_, Ev.step (fun k => spec_l1New.l0.eq_2 ..) (Ev.pos (by omega) (Ev.neg h4 (Ev.now _)))⟩
theorem New_ev (b : List Int) (hl : b.length ≤ 1099511627776) : ∃ h, Ev (fun k => spec_l1New.f k b) (b, 0, h) := by
  unfold spec_l1New.f
  exact New_l0 b hl b.length 0 _ (by omega)
theorem big_eq (b : List Int) : laws_big.f b = some (decide ((b.length : Int) > 1048576)) := rfl
end Go.Proofs.Ytadcndmhdbhfkaa.L
end

section
set_option linter.unusedVariables false
set_option linter.unusedSimpArgs false
namespace Go.Proofs.Ytadcndmhdbhfkaa.L
open Go Go.RowKit Go.Proofs.Ytadcndmhdbhfkaa.A Go.Proofs.YtadcndmhdbhfkaaW.PrintWords
theorem rank_l0 (b : List Int) (N : Nat) (hN : N ≤ 100) : ∀ (d i : Nat) (xs : List Int) (p h : Int), i + d = N → xs.length = i → At b p → ∃ r p' h', Ev (fun k => spec_l17Rank.l0 k xs (i : Int) (N : Int) b p h) (r, p', h') ∧ r.length ≤ 100 ∧ At b p' := by
  intro d
  induction d with
  | zero =>
    intro i xs p h hd hx ha
    exact ⟨xs, p, h, Ev.step (fun k => spec_l17Rank.l0.eq_2 ..) (Ev.neg (by omega) (Ev.now _)), by omega, ha⟩
  | succ d ih =>
    intro i xs p h hd hx ha
    obtain ⟨r, p1, h1, e1, r0, r1, _, a1⟩ := Below_eq b p h ((i + 1 : Nat) : Int) ha
    have hr := r1 (by omega)
    obtain ⟨q, p2, h2, e2, hq, a2⟩ := ih (i + 1) (xs.take r.toNat ++ [(i : Int)] ++ xs.drop r.toNat) p1 h1 (by omega) (by simp; omega) a1
    refine ⟨q, p2, h2, Ev.step (fun k => spec_l17Rank.l0.eq_2 ..) (Ev.pos (by omega) ?_), hq, a2⟩
    simp only [w64s (show i < 4611686018427387904 by omega)]
    exact Ev.bnd e1 (Ev.pos ⟨r0, by omega, by omega⟩ e2)
theorem rank_ev (b : List Int) (N : Nat) (hN : N ≤ 100) (p h : Int) (ha : At b p) : ∃ r p' h', Ev (fun k => spec_l17Rank.f k b p h (N : Int)) (r, p', h') ∧ r.length ≤ 100 ∧ At b p' := by
  unfold spec_l17Rank.f
  exact rank_l0 b N hN N 0 [] p h (by omega) rfl ha
theorem any_l0 (b : List Int) (N : Nat) (hN : N ≤ 100) : ∀ (d : Nat) (xs : List (List Int)) (p h : Int), xs.length + d ≤ 7 → (∀ x ∈ xs, x.length ≤ 100) → At b p → ∃ l n p' h', Ev (fun k => spec_l17Any.l0 k (N : Int) xs (d : Int) b p h) (l, n, p', h') ∧ l.length ≤ 10 ∧ (∀ x ∈ l, x.length ≤ 100) ∧ At b p' := by
  intro d
  induction d with
  | zero =>
    intro xs p h hd hx ha
    obtain ⟨r, p1, h1, e1, r0, r1, _, a1⟩ := Below_eq b p h 10 ha
    by_cases c0 : r = 0
    · obtain ⟨v, p2, h2, e2, _, a2⟩ := DInt_eq b p1 h1 [0, 8, 9, -1] (by simp) a1
      exact ⟨xs, v, p2, h2, Ev.step (fun k => spec_l17Any.l0.eq_2 ..) (Ev.neg (by omega) (Ev.bnd e1 (Ev.pos c0 (Ev.bnd e2 (Ev.now _))))), by omega, hx, a2⟩
    by_cases c1 : r = 1
    · refine ⟨xs ++ [[0, 0]], (N : Int), p1, h1, Ev.step (fun k => spec_l17Any.l0.eq_2 ..) (Ev.neg (by omega) (Ev.bnd e1 (Ev.neg c0 (Ev.pos c1 (Ev.pos (by omega) (Ev.now _)))))), by simp; omega, fun x hm => ?_, a1⟩
      rcases List.mem_append.1 hm with hm | hm
      · exact hx x hm
      · rw [List.mem_singleton] at hm
        subst hm
        simp
    · exact ⟨xs, (N : Int), p1, h1, Ev.step (fun k => spec_l17Any.l0.eq_2 ..) (Ev.neg (by omega) (Ev.bnd e1 (Ev.neg c0 (Ev.neg c1 (Ev.now _))))), by omega, hx, a1⟩
  | succ d ih =>
    intro xs p h hd hx ha
    obtain ⟨r, p1, h1, e1, hr, a1⟩ := rank_ev b N hN p h ha
    obtain ⟨l, n, p2, h2, e2, hl, hi, a2⟩ := ih (xs ++ [r]) p1 h1 (by simp; omega) (fun x hm => by
      rcases List.mem_append.1 hm with hm | hm
      · exact hx x hm
      · rw [List.mem_singleton] at hm
        subst hm
        exact hr) a1
    refine ⟨l, n, p2, h2, Ev.step (fun k => spec_l17Any.l0.eq_2 ..) (Ev.pos (by omega) (Ev.bind e1 (Ev.pos (by omega) ?_))), hl, hi, a2⟩
    have hw : wrap64 (((d + 1 : Nat) : Int) - 1) = (d : Int) := by rw [w64 (by omega) (by omega)]; omega
    rw [hw]
    exact e2
theorem any_ev (b : List Int) (p h : Int) (ha : At b p) : ∃ l n p' h', Ev (fun k => spec_l17Any.f k b p h) (l, n, p', h') ∧ l.length ≤ 10 ∧ (∀ x ∈ l, x.length ≤ 100) ∧ At b p' := by
  obtain ⟨r, p1, h1, e1, r0, r1, _, a1⟩ := Below_eq b p h 5 ha
  obtain ⟨q, p2, h2, e2, q0, q1, _, a2⟩ := Below_eq b p1 h1 8 a1
  have hr := r1 (by omega)
  have hq := q1 (by omega)
  obtain ⟨N, hN⟩ : ∃ N : Nat, 1 + r = (N : Int) := ⟨(1 + r).toNat, by omega⟩
  obtain ⟨d, rfl⟩ : ∃ d : Nat, q = (d : Int) := ⟨q.toNat, by omega⟩
  obtain ⟨l, n, p3, h3, e3, hl, hi, a3⟩ := any_l0 b N (by omega) d [] p2 h2 (by simp; omega) (by simp) a2
  refine ⟨l, n, p3, h3, ?_, hl, hi, a3⟩
  unfold spec_l17Any.f
  refine Ev.bnd e1 (Ev.bnd e2 ?_)
  have hw : wrap64 (1 + r) = (N : Int) := by rw [w64 (by omega) (by omega), hN]
  simp only [hw]
  exact e3
theorem DrawRun_ev (b : List Int) (hb : b.length ≤ 1099511627776) : ∃ l n, Ev (fun k => spec_DrawRunOff.f k b) (l, n) ∧ l.length ≤ 10 ∧ ∀ x ∈ l, x.length ≤ 100 := by
  obtain ⟨h, e⟩ := New_ev b hb
  obtain ⟨l, n, p2, h2, e2, hl, hi, _⟩ := any_ev b 0 h ⟨hb, by omega, by omega⟩
  refine ⟨l, n, ?_, hl, hi⟩
  unfold spec_DrawRunOff.f spec_DrawAreRankings.f
  exact Ev.bind (Ev.bind e (Ev.bind e2 (Ev.now _))) (Ev.now _)
theorem DrawIs_ev (b : List Int) (hb : b.length ≤ 1099511627776) : ∃ x n, Ev (fun k => spec_DrawIsRanking.f k b) (x, n) ∧ x.length ≤ 100 := by
  obtain ⟨h, e⟩ := New_ev b hb
  obtain ⟨l, n, p2, h2, e2, hl, hi, _⟩ := any_ev b 0 h ⟨hb, by omega, by omega⟩
  by_cases h0 : l.length = 0
  · refine ⟨[0], n, ?_, by simp⟩
    unfold spec_DrawIsRanking.f
    exact Ev.bind e (Ev.bind e2 (Ev.pos (by show ((l.length : Nat) : Int) = 0; omega) (Ev.now _)))
  · refine ⟨l[l.length - 1], n, ?_, hi _ (List.getElem_mem _)⟩
    unfold spec_DrawIsRanking.f
    have hw : wrap64 ((l.length : Int) - 1) = ((l.length - 1 : Nat) : Int) := by rw [w64 (by omega) (by omega)]; omega
    refine Ev.bind e (Ev.bind e2 (Ev.neg (by show ¬ ((l.length : Nat) : Int) = 0; omega) ?_))
    simp only [hw]
    refine Ev.pos (by omega) (Ev.pos (by omega) (Ev.some_ ?_))
    rw [rdL1_at (show l.length - 1 < l.length by omega)]
theorem pts_range {n : Int} {x : Int} (h0 : 0 ≤ x) (h1 : x < n) (h8 : n ≤ 8) : ∀ l : List (List Int), (∀ r ∈ l, isRank r n = true) → 0 ≤ pts n l x ∧ pts n l x ≤ 8 * l.length
  | [], _ => by simp [pts]
  | r :: l, h => by
    have ih := pts_range h0 h1 h8 l (fun y hy => h y (List.mem_cons_of_mem _ hy))
    have := idx_rank (h r List.mem_cons_self) h0 h1
    rw [pts, List.length_cons]
    omega
theorem sum_l0 (l : List Int) (hl : l.length ≤ 100) (hx : ∀ x ∈ l, 0 ≤ x ∧ x ≤ 1000) : ∀ (d n : Nat) (s : Int), n + d = l.length → 0 ≤ s → s ≤ 1000 * n → Ev (fun k => laws_sum.l0 k l s (n : Int)) (s + (l.drop n).sum) := by
  intro d
  induction d with
  | zero =>
    intro n s hd h0 h1
    refine Ev.step (fun k => laws_sum.l0.eq_2 ..) (Ev.neg (by omega) (Ev.some_ ?_))
    rw [List.drop_eq_nil_of_le (by omega)]
    simp
  | succ d ih =>
    intro n s hd h0 h1
    have hn : n < l.length := by omega
    have hm := hx l[n] (List.getElem_mem _)
    refine Ev.step (fun k => laws_sum.l0.eq_2 ..) (Ev.pos (by omega) (Ev.pos (by omega) ?_))
    simp only [w64s (show n < 4611686018427387904 by omega), rd_at hn, w64 (show -9223372036854775808 ≤ s + l[n] by omega) (show s + l[n] ≤ 9223372036854775807 by omega)]
    refine Ev.cast (ih (n + 1) (s + l[n]) (by omega) (by omega) (by omega)) ?_
    rw [List.drop_eq_getElem_cons hn, List.sum_cons]
    omega
theorem sum_ev (l : List Int) (hl : l.length ≤ 100) (hx : ∀ x ∈ l, 0 ≤ x ∧ x ≤ 1000) : Ev (fun k => laws_sum.f k l) l.sum := by
  unfold laws_sum.f
  exact Ev.cast (sum_l0 l hl hx l.length 0 0 (by omega) (by omega) (by omega)) (by simp)
section
variable (c : List Int) (l : List (List Int)) (N : Nat) (r w : Int) (hall : ∀ x ∈ l, isRank x (N : Int) = true) (h8 : N ≤ 8) (hlen : l.length ≤ 20) (hi : ∀ x ∈ l, x.length ≤ 100)
include hall h8 hlen hi
theorem fr_l2 (a : Nat) (ha : a < N) (h : Ev (fun k => laws_FnRankings.l0 k c l (N : Int) r w ((a + 1 : Nat) : Int)) true) : ∀ (d m : Nat), m + d = N → Ev (fun k => laws_FnRankings.l2 k c l (N : Int) r w (a : Int) (m : Int)) true := by
  intro d
  induction d with
  | zero =>
    intro m hd
    refine Ev.step (fun k => laws_FnRankings.l2.eq_2 ..) (Ev.neg (by omega) ?_)
    simp only [w64s (show a < 4611686018427387904 by omega)]
    exact h
  | succ d ih =>
    intro m hd
    have h1 := ih (m + 1) (by omega)
    refine Ev.step (fun k => laws_FnRankings.l2.eq_2 ..) (Ev.pos (by omega) ?_)
    simp only [w64s (show m < 4611686018427387904 by omega)]
    refine Ev.ite (fun _ => h1) (fun hne => ?_)
    have h2 : ∀ x ∈ l, x.length ≤ 1099511627776 := fun x hx => by have := hi x hx; omega
    have hs := pref_sum (n := (N : Int)) (a := (a : Int)) (b := (m : Int)) ⟨by omega, by omega⟩ ⟨by omega, by omega⟩ hne l hall
    exact Ev.bind (iPrefer_ev l _ _ (by omega) h2) (Ev.bind (iPrefer_ev l _ _ (by omega) h2) (Ev.pos (by rw [hs, w64 (by omega) (by omega)]) h1))
variable (hmaj : ∀ a : Int, 0 ≤ a → a < (N : Int) → (l.length : Int) < 2 * hd a l → w = a ∧ r = a)
include hmaj
theorem fr_l1 (a : Nat) (ha : a < N) (h : Ev (fun k => laws_FnRankings.l0 k c l (N : Int) r w ((a + 1 : Nat) : Int)) true) : ∀ (d i : Nat), i + d = l.length → Ev (fun k => laws_FnRankings.l1 k c l (N : Int) r w (a : Int) (hd (a : Int) (l.take i)) (i : Int)) true := by
  have hj : Ev (fun k => laws_FnRankings.j3 k c l (N : Int) r w (a : Int) false) true := Ev.step (fun k => laws_FnRankings.j3.eq_2 ..) (Ev.neg (by simp) (fr_l2 c l N r w hall h8 hlen hi a ha h N 0 (by omega)))
  intro d
  induction d with
  | zero =>
    intro i hd'
    have e : l.take i = l := List.take_of_length_le (by omega)
    have hr := hd_range (a : Int) l
    rw [e]
    refine Ev.step (fun k => laws_FnRankings.l1.eq_2 ..) (Ev.neg (by omega) ?_)
    rw [w64 (by omega) (by omega)]
    refine Ev.ite (fun hm => ?_) (fun _ => hj)
    obtain ⟨h1, h2⟩ := hmaj (a : Int) (by omega) (by omega) (by omega)
    refine Ev.pos h1 ?_
    have eb : (r != (a : Int)) = false := bne_eq_false_iff_eq.mpr h2
    rw [eb]
    exact hj
  | succ d ih =>
    intro i hd'
    have hn : i < l.length := by omega
    have h1 := ih (i + 1) (by omega)
    have hr := hd_range (a : Int) (l.take i)
    have hlt : (l.take i).length ≤ 20 := by rw [List.length_take]; omega
    obtain ⟨x, t, hx⟩ := rank_cons (hall l[i] (List.getElem_mem _))
    rw [List.take_succ_eq_append_getElem hn, hd_snoc] at h1
    refine Ev.step (fun k => laws_FnRankings.l1.eq_2 ..) (Ev.pos (by omega) (Ev.pos (by omega) ?_))
    simp only [rdL1_at hn, w64s (show i < 4611686018427387904 by omega)]
    refine Ev.pos (by rw [hx]; simp <;> omega) ?_
    refine Ev.ite (fun he => ?_) (fun he => ?_)
    · rw [if_pos he] at h1
      rw [w64 (x := hd (a : Int) (l.take i) + 1) (by omega) (by omega)]
      exact h1
    · rw [if_neg he, Int.add_zero] at h1
      exact h1
theorem fr_l0 (ht : ∀ m : Int, ¬ m < (N : Int) → Ev (fun k => laws_FnRankings.l0 k c l (N : Int) r w m) true) : ∀ (d a : Nat), a + d = N → Ev (fun k => laws_FnRankings.l0 k c l (N : Int) r w (a : Int)) true := by
  intro d
  induction d with
  | zero =>
    intro a hd'
    exact ht a (by omega)
  | succ d ih =>
    intro a hd'
    refine Ev.step (fun k => laws_FnRankings.l0.eq_2 ..) (Ev.pos (by omega) ?_)
    have := fr_l1 c l N r w hall h8 hlen hi hmaj a (by omega) (ih (a + 1) (by omega)) l.length 0 (by omega)
    exact this
end
theorem FnRankings_pure (l0 : List Int) (b0 : l0.length ≤ 9223372036854775807) : ∃ k, laws_FnRankings.f k l0 = some true := by
  refine Ev.rounds (g := fun k => laws_FnRankings.f k l0) ?_
  unfold laws_FnRankings.f
  refine Ev.bnd (big_eq l0) (Ev.ite (fun _ => Ev.now _) (fun hb => ?_))
  have hl : l0.length ≤ 1099511627776 := by simp only [decide_eq_true_eq] at hb; omega
  obtain ⟨l, n, e, hl10, hi⟩ := DrawRun_ev l0 hl
  have hi2 : ∀ x ∈ l, x.length ≤ 1099511627776 := fun x hx => by have := hi x hx; omega
  refine Ev.bind e (Ev.bind (iRunOff_ev l n (by omega) hi2) (Ev.bind (iPoints_ev l n (by omega) hi2) (Ev.bind (iPairWinner_ev l n (by omega) hi2) (Ev.bind (iAreRankings_ev l n (by omega) hi2) ?_))))
  by_cases ho : okRanks l n = true
  rotate_left
  · have e1 : runT l n = -1 := if_neg ho
    have e2 : pairW l n = -1 := if_neg ho
    have e3 : pointsT l n = [] := if_neg ho
    exact Ev.neg ho (Ev.pos e1 (Ev.pos e2 (Ev.some_ (by rw [e3]; rfl))))
  obtain ⟨hall, hn, hlen⟩ := okRanks_iff.1 ho
  obtain ⟨N, rfl⟩ : ∃ N : Nat, n = (N : Int) := ⟨n.toNat, by omega⟩
  have e1 : runT l (N : Int) = runL l (upto N) := by unfold runT; rw [if_pos ho, Int.toNat_natCast]
  have e2 : pairW l (N : Int) = pairF l N (upto N) := by unfold pairW; rw [if_pos ho, Int.toNat_natCast]
  have e3 : pointsT l (N : Int) = tab N (pts (N : Int) l) := by unfold pointsT; rw [if_pos ho, Int.toNat_natCast]
  have hru := mem_upto.1 (runL_mem (l := l) (N - 1) (upto N) (by rw [upto_length]; omega))
  refine Ev.pos ho ?_
  rw [e1, e2, e3]
  refine Ev.neg (by omega) (Ev.neg (by omega) (Ev.pos (by rw [tab_length]) ?_))
  have hpr : ∀ x ∈ tab N (pts (N : Int) l), 0 ≤ x ∧ x ≤ 1000 := by
    intro x hx
    unfold tab at hx
    obtain ⟨y, hy, rfl⟩ := List.mem_map.1 hx
    have hy2 := mem_upto.1 hy
    have := pts_range hy2.1 hy2.2 (by omega) l hall
    omega
  refine Ev.bind (sum_ev _ (by rw [tab_length]; omega) hpr) ?_
  have hs := pts_sum N l hall
  have hb1 : (l.length : Int) * (N : Int) ≤ 20 * 8 := Int.mul_le_mul (by omega) (by omega) (by omega) (by omega)
  have hb2 : 0 ≤ (l.length : Int) * (N : Int) := Int.mul_nonneg (by omega) (by omega)
  have hb3 : (l.length : Int) * (N : Int) * ((N : Int) - 1) ≤ 160 * 7 := Int.mul_le_mul (by omega) (by omega) (by omega) (by omega)
  have hb4 : 0 ≤ (l.length : Int) * (N : Int) * ((N : Int) - 1) := Int.mul_nonneg hb2 (by omega)
  have hs2 : 2 * (tab N (pts (N : Int) l)).sum = (l.length : Int) * (N : Int) * ((N : Int) - 1) := by rw [Int.mul_assoc]; exact hs
  have eb : ((wrap64 (2 * (tab N (pts (N : Int) l)).sum)) != (wrap64 ((wrap64 ((l.length : Int) * (N : Int))) * (wrap64 ((N : Int) - 1))))) = false := by
    rw [w64 (x := (l.length : Int) * (N : Int)) (by omega) (by omega), w64 (x := (N : Int) - 1) (by omega) (by omega), hs2]
    exact bne_eq_false_iff_eq.mpr rfl
  rw [eb]
  refine Ev.step (fun k => laws_FnRankings.j0.eq_2 ..) (Ev.neg (by simp) ?_)
  refine fr_l0 l0 l N _ _ hall (by omega) hlen hi (fun a h0 h1 hm => ⟨?_, ?_⟩) (fun m hm => ?_) N 0 (by omega)
  · exact pairF_major hall ⟨h0, h1⟩ hm (upto N) (mem_upto.2 ⟨h0, h1⟩) (fun x hx => mem_upto.1 hx)
  · exact runL_major hall hm (N - 1) (upto N) (by rw [upto_length]; omega) (upto_nodup N) (mem_upto.2 ⟨h0, h1⟩)
  · obtain ⟨x, q, e4, hx⟩ := DrawIs_ev l0 hl
    refine Ev.step (fun k => laws_FnRankings.l0.eq_2 ..) (Ev.neg hm (Ev.bind e4 (Ev.bind (iIsRanking_ev x q (by omega)) (Ev.ite (fun hk => Ev.some_ ?_) (fun _ => Ev.now _)))))
    exact beq_iff_eq.2 (isRank_iff.1 hk).2.1
end Go.Proofs.Ytadcndmhdbhfkaa.L
end
