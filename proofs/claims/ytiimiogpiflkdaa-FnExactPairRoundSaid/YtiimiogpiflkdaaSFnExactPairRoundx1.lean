/- What the row FnExactPairRound rests on, put together: LHSortT, LHBef, LBase, A4, A7, LInt, A5, A6, A8, A9, LTeam1, A12, A19, LFind, A14, A21, LCnt, A13, LRngS, A20, LRngI, LTeamP, LHAreTi, LHAreTs. No condition. -/
import Derived.Test.YtiimiogpiflkdaaSFnExactPairRoundx0
import Derived.Shelf.SlSortCmp.SmallK
import Derived.BigQuiet
section
set_option linter.unusedVariables false
set_option linter.unusedSimpArgs false
namespace Go.Proofs.Ytiimiogpiflkdaa.A
open Go.RowKit Go.Proofs.YtiimiogpiflkdaaW.PrintWords Go.Proofs.YtiimiogpiflkdaaW.PrintLast Go.Proofs.YtiimiogpiflkdaaW.PrintMore Go.Shelf Go.Sort
abbrev K3 := Int × Int × Int
def befK (u v : K3) : Bool := decide (v.1 < u.1) || (decide (u.1 = v.1) && (decide (v.2.1 < u.2.1) || (decide (u.2.1 = v.2.1) && decide (u.2.2 < v.2.2))))
theorem befK_iff {u v : K3} : befK u v = true ↔ v.1 < u.1 ∨ u.1 = v.1 ∧ (v.2.1 < u.2.1 ∨ u.2.1 = v.2.1 ∧ u.2.2 < v.2.2) := by simp [befK]
def keyA (x : TmA) : K3 := (x.f2, x.f3, x.f0)
def keyS (x : S61) : K3 := (x.f2, x.f3, x.f0)
def befB (u v : S61) : Bool := befK (keyS u) (keyS v)
def ordT (l : List S61) : List S61 := l.mergeSort (fun u v => !befB v u)
theorem cmpC_neg {x y : Int} : cmpC x y < 0 ↔ x < y := by
  unfold cmpC
  split
  · omega
  · split <;> omega
theorem cmpC_zero {x y : Int} : cmpC x y = 0 ↔ x = y := by
  unfold cmpC
  split
  · omega
  · split <;> omega
theorem orC_neg {a b c : Int} : orC a b c < 0 ↔ a < 0 ∨ a = 0 ∧ (b < 0 ∨ b = 0 ∧ c < 0) := by
  unfold orC
  split
  · omega
  · split <;> omega
theorem ltOf_cmpT (x y : TmA) : ltOf cmpT x y = befK (keyA x) (keyA y) := by
  rw [Bool.eq_iff_iff, befK_iff]
  simp only [ltOf, cmpT, decide_eq_true_eq, orC_neg, cmpC_neg, cmpC_zero, keyA]
  omega
theorem swo_cmpT : SWO (ltOf cmpT) where
  irrefl x := by rw [ltOf_cmpT, Bool.eq_false_iff, Ne, befK_iff]; omega
  trans x y z h1 h2 := by rw [ltOf_cmpT, befK_iff] at *; omega
  ntrans x y z h1 h2 := by rw [ltOf_cmpT, Bool.eq_false_iff, Ne, befK_iff] at *; omega
theorem sorted_one {l1 l2 : List K3} (hp : l1.Perm l2) (h1 : l1.Pairwise (fun u v => befK v u = false)) (h2 : l2.Pairwise (fun u v => befK v u = false)) : l1 = l2 := by
  refine List.Perm.eq_of_pairwise (le := fun u v => befK v u = false) (fun a b _ _ hab hba => ?_) h1 h2 hp
  rw [Bool.eq_false_iff, Ne, befK_iff] at hab hba
  have e1 : a.1 = b.1 := by omega
  have e2 : a.2.1 = b.2.1 := by omega
  have e3 : a.2.2 = b.2.2 := by omega
  exact Prod.ext e1 (Prod.ext e2 e3)
theorem ordT_sortedK (l : List S61) : ((ordT l).map keyS).Pairwise (fun u v => befK v u = false) := by
  rw [List.pairwise_map]
  have := List.pairwise_mergeSort (le := fun u v : S61 => !befB v u) (fun a b c h1 h2 => by
    simp only [befB, Bool.not_eq_true', Bool.eq_false_iff, Ne, befK_iff] at *
    omega) (fun a b => by
    simp only [befB, Bool.or_eq_true, Bool.not_eq_true', Bool.eq_false_iff, Ne, befK_iff]
    omega) l
  exact this.imp (fun h => by simpa [befB] using h)
theorem sorted_ids {d d' : Array TmA} {l : List S61} (hd : d.toList.map keyA = l.map keyS) (hp : PermIn 0 d.size d d') (hs : SortedIn (ltOf cmpT) 0 d.size d') : d'.toList.map keyA = (ordT l).map keyS := by
  have hsz := hp.1
  have e1 : (d.extract 0 d.size).toList = d.toList := by simp
  have e2 : (d'.extract 0 d.size).toList = d'.toList := by rw [← hsz]; simp
  have hp' : d'.toList.Perm d.toList := by
    have := hp.2.2
    rwa [e1, e2] at this
  refine sorted_one (((hp'.map keyA).trans (by rw [hd])).trans ((List.mergeSort_perm l _).map keyS).symm) ?_ (ordT_sortedK l)
  rw [List.pairwise_map, List.pairwise_iff_getElem]
  intro i j hi hj hij
  simp only [Array.length_toList] at hi hj
  have := hs i j (Nat.zero_le _) hij (by omega)
  rw [ltOf_cmpT] at this
  simpa [hi, hj] using this
theorem listOf {α : Type} : ∀ (n : Nat) (P : Nat → α → Prop), (∀ i, i < n → ∃ x, P i x) → ∃ d : List α, d.length = n ∧ ∀ (i : Nat) (hi : i < d.length), P i d[i]
  | 0, P, h => ⟨[], rfl, fun i hi => by simp at hi⟩
  | n + 1, P, h => by
    obtain ⟨x, hx⟩ := h 0 (by omega)
    obtain ⟨d, hd, hP⟩ := listOf n (fun i => P (i + 1)) (fun i hi => h (i + 1) (by omega))
    refine ⟨x :: d, by simp [hd], fun i hi => ?_⟩
    cases i with
    | zero => exact hx
    | succ i => exact hP i (by simpa using hi)
theorem sortW_below {α : Type} [Inhabited α] {enc : α → List Value} {k : Nat} {w0 w : World} {g n : Nat} {d : Array α} {os : Array Obj} (hb : Below w0.heap.size w0 w) (hg : w0.heap.size ≤ g) : Below w0.heap.size w0 (sortWorldK enc k w g 0 n d os) := by
  refine hb.trans ⟨rfl, rfl, rfl, by unfold sortWorldK; rw [size_grow]; simp [putRowK, putRow, mapBlock, Sort.ahead], fun i hi => ?_⟩
  have hs := hb.size
  unfold sortWorldK
  rw [heap_grow_old _ _ (by simp [putRowK, putRow, mapBlock, Sort.ahead]; omega)]
  simp only [putRowK, putRow, mapBlock, Sort.ahead, Array.getElem?_modify]
  rw [if_neg (by omega)]
theorem sortW_size {α : Type} [Inhabited α] {enc : α → List Value} {k : Nat} {w : World} {g n : Nat} {d : Array α} {os : Array Obj} : w.heap.size ≤ (sortWorldK enc k w g 0 n d os).heap.size := by
  unfold sortWorldK
  rw [size_grow]
  simp [putRowK, putRow, mapBlock, Sort.ahead]
set_option maxHeartbeats 2000000 in
theorem SortFunc_calls (g cap : Nat) (d : Array TmA) (w : World) (hH : HoldsK TmA.cells 6 w g 0 d) (hblk : g < w.heap.size) (h12 : d.size ≤ 12) :
    Calls Try.prog 69 #[.slice (some ⟨g, 0, none⟩) d.size cap, .func (.func 70) #[] #[]] w fun e w' => e = .returned (.tuple #[]) ∧ ∃ d' n os, PermIn 0 d.size d d' ∧ SortedIn (ltOf cmpT) 0 d.size d' ∧ w' = sortWorldK TmA.cells 6 w g 0 n d' os := by
  have eg : ∀ args w, (callFunc 70 args).run Try.prog w = .ok (.enter 70 args) w := enters_of Try.func70 (by kernel_rfl) rfl
  have hlen : ∀ (n : Nat) (W : World), n ≤ 12 → Calls Try.prog 86 #[.int .u64 n] W fun e w' => (∃ l : Int, e = .returned (.int .i64 l)) ∧ w' = W := fun n W h =>
    (Any.bits_Len Try.lays125 n W (by omega) (by omega)).mono fun _ _ ⟨he, hw⟩ => ⟨⟨_, he⟩, hw⟩
  exact AnyQ.slices_SortFunc_small_sorted Try.sortT 6 Try.isAgg61 Try.sizeOf61 TmA.cells (fun _ => rfl) (fun x v hv => by simp only [TmA.cells, List.mem_cons, List.not_mem_nil, or_false] at hv; rcases hv with rfl | rfl | rfl | rfl | rfl | rfl <;> rfl) cmpT _ #[] swo_cmpT g 0 cap d w eg (fun _ _ _ _ x y => Standing1_calls x y _) hH hblk h12 hlen
end Go.Proofs.Ytiimiogpiflkdaa.A
end

section
set_option linter.unusedVariables false
set_option linter.unusedSimpArgs false
namespace Go.Proofs.Ytiimiogpiflkdaa.A
open Go.RowKit Go.Proofs.YtiimiogpiflkdaaW.PrintWords Go.Proofs.YtiimiogpiflkdaaW.PrintLast Go.Proofs.YtiimiogpiflkdaaW.PrintMore Go.Shelf Go.Sort
def kTm : Kd TmA where
  sz := 6
  E := []
  K := fun _ x cs => cs = x.cells
  M := fun _ _ _ x cs => cs = x.cells
  K_len := fun h => by rw [h]; rfl
  K_one := fun {w x cs} h u hu => by
    rw [h] at hu
    simp only [TmA.cells, List.mem_cons, List.not_mem_nil, or_false] at hu
    rcases hu with rfl | rfl | rfl | rfl | rfl | rfl <;> rfl
  K_below := fun _ h => h
  K_of_M := fun h => h
  M_mono := fun _ h => h
  M_bound := fun h => h
  M_move := fun _ h => h
  M_lower := fun _ h => h
set_option maxHeartbeats 4000000 in
set_option maxRecDepth 100000 in
theorem Before_calls (x y : TmA) (W : World) : Calls Try.prog 67 #[.agg x.cells.toArray, .agg y.cells.toArray] W fun e w' => e = .returned (.bool (befK (keyA x) (keyA y))) ∧ Below W.heap.size W w' := by
  obtain ⟨x0, x1, x2, x3, x4, xA, xn, xc⟩ := x
  obtain ⟨y0, y1, y2, y3, y4, yA, yn, yc⟩ := y
  have hu61 := Try.underlying61
  show Calls Try.prog 67 #[.agg #[.int .i64 x0, .int .i64 x1, .int .i64 x2, .int .i64 x3, .int .i64 x4, .slice xA xn xc], .agg #[.int .i64 y0, .int .i64 y1, .int .i64 y2, .int .i64 y3, .int .i64 y4, .slice yA yn yc]] W fun e w' => e = .returned (.bool (befK (x2, x3, x0) (y2, y3, y0))) ∧ _
  have hb : ∀ o p : Obj, Below W.heap.size W ((W.alloc o).alloc p) := fun o p => below_alloc (below_alloc (Below.refl _ _) _) _
  by_cases h2 : x2 = y2
  · subst h2
    by_cases h3 : y3 < x3
    · have e : befK (x2, x3, x0) (x2, y3, y0) = true := befK_iff.2 (.inr ⟨rfl, .inl h3⟩)
      have hd : (y3 < x3) = True := eq_true h3
      rw [e]
      clear e h3
      go_enter Try.func67, Try.ntmps67
      go_wp2
      go_ret
      exact ⟨rfl, hb _ _⟩
    · by_cases h4 : x3 = y3
      · subst h4
        have e : befK (x2, x3, x0) (x2, x3, y0) = decide (x0 < y0) := by
          rw [Bool.eq_iff_iff, befK_iff, decide_eq_true_eq]
          simp
        rw [e]
        clear e h3
        go_enter Try.func67, Try.ntmps67
        go_wp2
        go_ret
        exact ⟨rfl, hb _ _⟩
      · have e : befK (x2, x3, x0) (x2, y3, y0) = false := by
          rw [Bool.eq_false_iff, Ne, befK_iff]
          simp; omega
        have hd : (y3 < x3) = False := eq_false h3
        have hd2 : (x3 = y3) = False := eq_false h4
        have hd3 : (x3 == y3) = false := beq_false_of_ne h4
        rw [e]
        clear e h3 h4
        go_enter Try.func67, Try.ntmps67
        go_wp2
        go_ret
        exact ⟨rfl, hb _ _⟩
  · have e : befK (x2, x3, x0) (y2, y3, y0) = decide (y2 < x2) := by
      rw [Bool.eq_iff_iff, befK_iff, decide_eq_true_eq]
      simp only
      omega
    have hd2 : (x2 = y2) = False := eq_false h2
    have hd3 : (x2 != y2) = true := bne_iff_ne.mpr h2
    rw [e]
    clear e h2
    go_enter Try.func67, Try.ntmps67
    go_wp2
    go_ret
    exact ⟨rfl, hb _ _⟩
end Go.Proofs.Ytiimiogpiflkdaa.A
end

section
set_option linter.unusedVariables false
set_option linter.unusedSimpArgs false
namespace Go.Proofs.Ytiimiogpiflkdaa.L
open Go Go.RowKit Go.Proofs.YtiimiogpiflkdaaW.PrintWords
theorem Ev.pos {α : Type} {c : Prop} [Decidable c] {A B : Nat → Option α} {r : α} (h : c) (k : Ev A r) : Ev (fun k => if c then A k else B k) r := by
  obtain ⟨K, k⟩ := k
  exact ⟨K, fun n hn => by show (if c then A n else B n) = some r; rw [if_pos h]; exact k n hn⟩
theorem Ev.neg {α : Type} {c : Prop} [Decidable c] {A B : Nat → Option α} {r : α} (h : ¬ c) (k : Ev B r) : Ev (fun k => if c then A k else B k) r := by
  obtain ⟨K, k⟩ := k
  exact ⟨K, fun n hn => by show (if c then A n else B n) = some r; rw [if_neg h]; exact k n hn⟩
theorem Ev.ite {α : Type} {c : Prop} [Decidable c] {A B : Nat → Option α} {r : α} (h : c → Ev A r) (k : ¬ c → Ev B r) : Ev (fun k => if c then A k else B k) r := by
  by_cases e : c
  · exact Ev.pos e (h e)
  · exact Ev.neg e (k e)
theorem Ev.cast {α : Type} {g : Nat → Option α} {r r' : α} (h : Ev g r) (e : r = r') : Ev g r' := e ▸ h
theorem Ev.bnd {α β : Type} {o : Option α} {a : α} {f : Nat → α → Option β} {r : β} (h : o = some a) (k : Ev (fun n => f n a) r) : Ev (fun n => o.bind (f n)) r := by
  obtain ⟨K, k⟩ := k
  exact ⟨K, fun n hn => by show o.bind (f n) = some r; rw [h]; exact k n hn⟩
theorem Ev.some_ {α : Type} {r r' : α} (h : r = r') : Ev (fun _ => some r) r' := h ▸ Ev.now r
theorem w64 {x : Int} (h0 : -9223372036854775808 ≤ x) (h1 : x ≤ 9223372036854775807) : wrap64 x = x := by
  unfold wrap64
  omega
theorem w64s {n : Nat} (h : n < 4611686018427387904) : wrap64 ((n : Int) + 1) = ((n + 1 : Nat) : Int) := by
  unfold wrap64
  omega
theorem rd_at {l : List Int} {n : Nat} (h : n < l.length) : rd l (n : Int) = l[n] := by
  simp [rd, h]
def inR (a b c : Int) : Bool := decide (b ≤ a ∧ a ≤ c)
theorem take_snoc {α : Type} (l : List α) (n : Nat) (h : n < l.length) : l.take (n + 1) = l.take n ++ [l[n]] := by
  rw [List.take_succ_eq_append_getElem h]
end Go.Proofs.Ytiimiogpiflkdaa.L
end

section
namespace Go.Proofs.Ytiimiogpiflkdaa.A
open Go.RowKit Go.Proofs.YtiimiogpiflkdaaW.PrintWords Go.Proofs.YtiimiogpiflkdaaW.PrintLast Go.Proofs.YtiimiogpiflkdaaW.PrintMore
attribute [local go_sem] max2_int min2_int max_two min_two max_three min_three max_four min_four   -- for this text's walks alone
set_option linter.unusedVariables false
set_option linter.unusedSimpArgs false
def laws_toIntS.l0 : Nat → List Int → List Int → Int → Option (List Int)
  | 0, _, _, _ => none
  | k + 1, x0, x3, x4 => if x4 < (x0.length : Int) then (if 0 ≤ x4 then (if x4 < (x3.length : Int) then (laws_toIntS.l0 k x0 (x3.set (x4 : Int).toNat (rd x0 x4)) (wrap64 (x4 + 1))) else (none)) else (none)) else (some x3)
def laws_toIntS.f (k : Nat) (l0 : List Int) : Option (List Int) := if 0 ≤ (l0.length : Int) then (if ((l0.length : Int) : Int).toNat ≤ 35184372088832 then (laws_toIntS.l0 k l0 (List.replicate ((l0.length : Int) : Int).toNat 0) 0) else (none)) else (none)
set_option maxHeartbeats 8000000 in
set_option maxRecDepth 100000 in
theorem laws_toIntS.calls (k : Nat) (A0 : Option Addr) (c0 : Nat) (l0 : List Int) (r : List Int) (w : World) (hr0 : Kd.C (Kd.int .i64) w A0 l0.length l0) (hc0 : l0.length ≤ c0) (h : laws_toIntS.f k l0 = some r) :
  Calls Try.prog 84 #[.slice A0 l0.length c0] w fun e w' => ∃ v0_ : Value, e = .returned (v0_) ∧ Kd.R (Kd.int .i64) 3 w' w.heap.size (fun _ => True) v0_ r ∧ Below w.heap.size w w' := by
 have HR0 := Aside0.mk hr0
 have HC0 := Aside0.mk hc0
 clear hr0 hc0
 have HB := Aside0.mk (Below.refl w.heap.size w)
 have H : (if 0 ≤ (l0.length : Int) then (if ((l0.length : Int) : Int).toNat ≤ 35184372088832 then (laws_toIntS.l0 k l0 (List.replicate ((l0.length : Int) : Int).toNat 0) 0) else (none)) else (none)) = some r := h
 clear h
 by_cases c2 : 0 ≤ (l0.length : Int)
 ·
  rw [if_pos c2] at H
  have c2b0 := eq_true c2
  have c2b1 : decide (0 ≤ (l0.length : Int)) = true := decide_eq_true c2
  clear c2
  by_cases c3 : ((l0.length : Int) : Int).toNat ≤ 35184372088832
  ·
   rw [if_pos c3] at H
   have c3b0 := eq_true c3
   have c3b1 : decide (((l0.length : Int) : Int).toNat ≤ 35184372088832) = true := decide_eq_true c3
   clear c3
   obtain ⟨y105, hy105⟩ : ∃ y_ : List Int, y_ = (List.replicate ((l0.length : Int) : Int).toNat 0) := ⟨_, rfl⟩
   replace H : (laws_toIntS.l0 k l0 y105 0) = some r := by first | (rw [hy105]; with_reducible exact H) | (have H2_ := (Option.bind_some _ _).symm.trans H; rw [hy105]; with_reducible exact H2_) | (have H2_ := (Option.bind_some _ _).symm.trans H; with_reducible exact H2_) | with_reducible exact H | (rw [hy105]; exact H) | exact H
   have Ny105 := Aside0.mk hy105
   clear hy105
   have H' := Aside0.mk H
   clear H
   go_enter Try.func84, Try.ntmps84
   go_wp2_with (first | ((with_reducible refine gate_dst (N := 7) rfl ?_); refine Kd.R_make (Kd.int .i64) _ 3 rfl (N := 7) rfl 41 _ _ rfl (l0.length : Int) rfl rfl Try.underlying41 (.int .i64 0) 8 info3 rfl (by decide) (by omega) 0 (ok := fun _ => True) (okp := fun _ => True) rfl (fun _ hk => hk) trivial (of_decide_eq_true (by first | (with_reducible assumption) | assumption)) (Nat.le_trans (Nat.mul_le_mul_right _ (of_decide_eq_true (by first | (with_reducible assumption) | assumption) : (l0.length : Int).toNat ≤ 35184372088832)) (by omega)) (Below.refl _ _) (Nat.le_refl _) ?_; intro v106 w4 ho5 hb hg_ hnew_; clear hg_ hnew_; (first | rw [← Ny105.out] at ho5 | (simp only [Int.reduceToNat] at ho5; rw [← Ny105.out] at ho5)); have n0_ := Aside0.mk (Kd.R_lower ho5 (below_size (by repeat (first | (with_reducible first | exact HB.out | apply below_alloc | apply pw_below_drewN | apply below_drew1) | exact HB.out)))); have n1_ := Aside0.mk (below_step (by repeat (first | (with_reducible first | exact HB.out | apply below_alloc | apply pw_below_drewN | apply below_drew1) | exact HB.out)) hb); clear HB; have HO107 := n0_; have HB := n1_; clear n0_ n1_; clear hb ho5))
   go_loopg [4] k (fun kq v4 w' => ∃ (x3_1 : List Int) (x4_1 : Int), v4 = .int .i64 x4_1 ∧ Aside0 (laws_toIntS.l0 kq l0 x3_1 x4_1 = some r) ∧ Aside0 (kq ≤ k) ∧ Aside0 (Kd.R (Kd.int .i64) 3 w' w.heap.size (fun _ => True) v106 x3_1) ∧ Aside0 (Below w.heap.size w w'))
   case atStart => exact ⟨(y105), (0), (by first | rfl | (simp; done) | (simp [*]; done)), H', ⟨Nat.le_refl _⟩, ⟨by (with_reducible repeat (first | apply Kd.R_alloc | apply Kd.R_drewN | apply Kd.R_drew)); exact HO107.out⟩, ⟨by repeat (first | (with_reducible first | exact HB.out | apply below_alloc | apply pw_below_drewN | apply below_drew1) | exact HB.out)⟩⟩
   case round =>
    clear H'
    try clear c2
    try clear c2b0
    try clear c2b1
    try clear p2
    try clear c3
    try clear c3b0
    try clear c3b1
    obtain ⟨x3_1, x4_1, rfl, HA, HK1, HO_3, HB⟩ := hrel
    cases gk with
    | zero => exact absurd HA.out (by simp [laws_toIntS.l0])
    | succ k1 =>
     have H := HA.out
     clear HA
     simp only [laws_toIntS.l0] at H
     by_cases c6 : x4_1 < (l0.length : Int)
     ·
      rw [if_pos c6] at H
      have c6b0 : decide (x4_1 < (l0.length : Int)) = true := decide_eq_true c6
      clear c6
      by_cases c7 : 0 ≤ x4_1
      ·
       rw [if_pos c7] at H
       have c7b0 : decide (0 ≤ x4_1) = true := decide_eq_true c7
       clear c7
       by_cases c8 : x4_1 < (x3_1.length : Int)
       ·
        rw [if_pos c8] at H
        have c8b0 : decide (x4_1 < (x3_1.length : Int)) = true := decide_eq_true c8
        clear c8
        obtain ⟨y109, hy109⟩ : ∃ y_ : List Int, y_ = (x3_1.set (x4_1 : Int).toNat (rd l0 x4_1)) := ⟨_, rfl⟩
        replace H : (laws_toIntS.l0 k1 l0 y109 (wrap64 (x4_1 + 1))) = some r := by first | (rw [hy109]; with_reducible exact H) | (have H2_ := (Option.bind_some _ _).symm.trans H; rw [hy109]; with_reducible exact H2_) | (have H2_ := (Option.bind_some _ _).symm.trans H; with_reducible exact H2_) | with_reducible exact H | (rw [hy109]; exact H) | exact H
        have Ny109 := Aside0.mk hy109
        clear hy109
        have H' := Aside0.mk H
        clear H
        have p108 : 0 ≤ (x4_1 : Int) := of_decide_eq_true (by first | (with_reducible assumption) | assumption)
        have q108 : x4_1 < (l0.length : Int) := of_decide_eq_true (by first | (with_reducible assumption) | assumption)
        obtain ⟨ad108, e108, hx108_0⟩ := Kd.at_int HR0.out x4_1 p108 q108
        cases e108
        replace hx108_0 := (HB.out.cell (World.block_lt_of_cell? w _ hx108_0)).trans hx108_0
        replace p108 := eq_true p108
        replace q108 := eq_true q108
        have p9 : 0 ≤ (x4_1 : Int) := of_decide_eq_true (by first | (with_reducible assumption) | assumption)
        have q9 : (x4_1 : Int) < ((x3_1.length : Int) : Int) := of_decide_eq_true (by first | (with_reducible assumption) | assumption)
        obtain ⟨go9, co9, eo9, gb9, gl9, cl9, HG9⟩ := Kd.R_form HO_3.out (by omega)
        (first | cases eo9 | (injection eo9 with ea_ en_ ec_; (first | subst ea_ | (injection ea_ with ea_; subst ea_)); subst ec_; clear en_))
        have GB9 := Aside0.mk gb9
        have GG9 := Aside0.mk HG9
        clear gb9 gl9 HG9
        obtain ⟨hx9_0, hf9_0⟩ := Kd.R_celln 0 HO_3.out (x4_1 : Int) p9 q9
        replace p9 := eq_true p9
        replace q9 := eq_true q9
        have HP10 := Kd.R_putg HO_3.out (x4_1 : Int) (rd l0 x4_1)
        go_wp2_with (first | ((with_reducible refine gate_store (t := 3) (p := 20) rfl ?_); refine store_event (t := 3) (p := 20) (v := ?vo_w11) (w1 := (wr.setCell ⟨go9, (x4_1 : Int).toNat, none⟩ (.int .i64 (rd l0 x4_1)))) ?hg ?ho ?hn ?hr ?_; (case ho => rfl); (case hg => rfl); (case hn => rfl); (case hr => first | (go_simp; done) | (go_simp; rfl)); intro w11 hw; have hg : wr.grownBy w11 (some go9) := (by rw [hw]; exact HP10.2); have hp_ : Kd.R (Kd.int .i64) 3 w11 w.heap.size (fun _ => True) (.slice (some ⟨go9, 0, none⟩) x3_1.length co9) y109 := (by rw [hw, Ny109.out]; exact HP10.1); clear HP10; have n0_ := Aside0.mk (hp_); have n1_ := Aside0.mk ((by rw [hw]; exact below_set (HB.out) GB9.out : Below w.heap.size w w11)); clear HO_3; clear HB; have HO_3 := n0_; have HB := n1_; clear n0_ n1_; clear hg hw hp_))
        go_roundg k1
        case measure => have := HK1.out; omega
        case rel => exact ⟨(y109), (wrap64 (x4_1 + 1)), (by first | rfl | (simp; done) | (simp [*]; done)), H', ⟨by have := HK1.out; omega⟩, ⟨by (with_reducible repeat (first | apply Kd.R_alloc | apply Kd.R_drewN | apply Kd.R_drew)); exact HO_3.out⟩, ⟨by repeat (first | (with_reducible first | exact HB.out | apply below_alloc | apply pw_below_drewN | apply below_drew1) | exact HB.out)⟩⟩
       ·
        rw [if_neg c8] at H
        exact absurd H (by simp)
      ·
       rw [if_neg c7] at H
       exact absurd H (by simp)
     ·
      rw [if_neg c6] at H
      have c6b0 : decide (x4_1 < (l0.length : Int)) = false := decide_eq_false c6
      clear c6
      obtain rfl := Option.some.inj H
      go_wp2
      go_ret
      exact ⟨_, by first | rfl | (simp [errW_none, errW_some] <;> rfl) | (simp [*, errW_none, errW_some] <;> rfl), by (with_reducible repeat (first | apply Kd.R_alloc | apply Kd.R_drewN | apply Kd.R_drew)); exact HO_3.out, by repeat (first | (with_reducible first | exact HB.out | apply below_alloc | apply pw_below_drewN | apply below_drew1) | exact HB.out)⟩
  ·
   rw [if_neg c3] at H
   exact absurd H (by simp)
 ·
  rw [if_neg c2] at H
  exact absurd H (by simp)
end Go.Proofs.Ytiimiogpiflkdaa.A
end

section
namespace Go.Proofs.Ytiimiogpiflkdaa.A
open Go.RowKit Go.Proofs.YtiimiogpiflkdaaW.PrintWords Go.Proofs.YtiimiogpiflkdaaW.PrintLast Go.Proofs.YtiimiogpiflkdaaW.PrintMore
attribute [local go_sem] max2_int min2_int max_two min_two max_three min_three max_four min_four   -- for this text's walks alone
set_option linter.unusedVariables false
set_option linter.unusedSimpArgs false
def laws_eqIntS.l0 : Nat → List Int → List Int → Int → Option (Bool)
  | 0, _, _, _ => none
  | k + 1, x0, x1, x5 => if x5 < (x0.length : Int) then (if 0 ≤ x5 then (if x5 < (x1.length : Int) then (if (rd x0 x5) = (rd x1 x5) then (laws_eqIntS.l0 k x0 x1 (wrap64 (x5 + 1))) else (some false)) else (none)) else (none)) else (some true)
def laws_eqIntS.f (k : Nat) (l0 : List Int) (l1 : List Int) : Option (Bool) := if (l0.length : Int) = (l1.length : Int) then (laws_eqIntS.l0 k l0 l1 0) else (some false)
set_option maxHeartbeats 8000000 in
set_option maxRecDepth 100000 in
theorem laws_eqIntS.calls (k : Nat) (A0 : Option Addr) (c0 : Nat) (l0 : List Int) (A1 : Option Addr) (c1 : Nat) (l1 : List Int) (r : Bool) (w : World) (hr0 : Kd.C (Kd.int .i64) w A0 l0.length l0) (hc0 : l0.length ≤ c0) (hr1 : Kd.C (Kd.int .i64) w A1 l1.length l1) (hc1 : l1.length ≤ c1) (h : laws_eqIntS.f k l0 l1 = some r) :
  Calls Try.prog 35 #[.slice A0 l0.length c0, .slice A1 l1.length c1] w fun e w' => e = .returned (.bool r) ∧ Drawn0 w w' := by
 have HR0 := Aside0.mk hr0
 have HC0 := Aside0.mk hc0
 clear hr0 hc0
 have HR1 := Aside0.mk hr1
 have HC1 := Aside0.mk hc1
 clear hr1 hc1
 have H : (if (l0.length : Int) = (l1.length : Int) then (laws_eqIntS.l0 k l0 l1 0) else (some false)) = some r := h
 clear h
 by_cases c3 : (l0.length : Int) = (l1.length : Int)
 ·
  rw [if_pos c3] at H
  have c3b0 : ((l0.length : Int) == (l1.length : Int)) = true := beq_iff_eq.mpr c3
  have c3b1 : ((l0.length : Int) != (l1.length : Int)) = false := bne_eq_false_iff_eq.mpr c3
  have c3b2 : (l0.length == l1.length) = true := by first | simpa using c3 | (simp at c3 ⊢; omega)
  clear c3
  have H' := Aside0.mk H
  clear H
  go_enter Try.func35, Try.ntmps35
  go_wp2
  repeat (go_quiet (fail); try go_wp2)
  go_loopg [5] k (fun kq v5 w' => ∃ (x5_1 : Int), v5 = .int .i64 x5_1 ∧ Aside0 (laws_eqIntS.l0 kq l0 l1 x5_1 = some r) ∧ Aside0 (kq ≤ k) ∧ Drawn0 w w')
  case atStart => exact ⟨(0), (by first | rfl | (simp; done) | (simp [*]; done)), H', ⟨Nat.le_refl _⟩, by repeat (first | exact Drawn0.refl _ | apply Drawn0.step)⟩
  case round =>
   clear H'
   try clear c1
   try clear p2
   try clear c3
   try clear c3b0
   try clear c3b1
   try clear c3b2
   obtain ⟨x5_1, rfl, HA, HK1, ⟨m1, rfl⟩⟩ := hrel
   cases gk with
   | zero => exact absurd HA.out (by simp [laws_eqIntS.l0])
   | succ k1 =>
    have H := HA.out
    clear HA
    simp only [laws_eqIntS.l0] at H
    by_cases c4 : x5_1 < (l0.length : Int)
    ·
     rw [if_pos c4] at H
     have c4b0 : decide (x5_1 < (l0.length : Int)) = true := decide_eq_true c4
     clear c4
     by_cases c5 : 0 ≤ x5_1
     ·
      rw [if_pos c5] at H
      have c5b0 : decide (0 ≤ x5_1) = true := decide_eq_true c5
      clear c5
      by_cases c6 : x5_1 < (l1.length : Int)
      ·
       rw [if_pos c6] at H
       have c6b0 : decide (x5_1 < (l1.length : Int)) = true := decide_eq_true c6
       clear c6
       by_cases c7 : (rd l0 x5_1) = (rd l1 x5_1)
       ·
        rw [if_pos c7] at H
        have c7b0 : ((rd l0 x5_1) == (rd l1 x5_1)) = true := beq_iff_eq.mpr c7
        have c7b1 : ((rd l0 x5_1) != (rd l1 x5_1)) = false := bne_eq_false_iff_eq.mpr c7
        clear c7
        have H' := Aside0.mk H
        clear H
        have p129 : 0 ≤ (x5_1 : Int) := of_decide_eq_true (by first | (with_reducible assumption) | assumption)
        have q129 : x5_1 < (l0.length : Int) := of_decide_eq_true (by first | (with_reducible assumption) | assumption)
        obtain ⟨ad129, e129, hx129_0⟩ := Kd.at_int HR0.out x5_1 p129 q129
        cases e129
        replace p129 := eq_true p129
        replace q129 := eq_true q129
        have p130 : 0 ≤ (x5_1 : Int) := of_decide_eq_true (by first | (with_reducible assumption) | assumption)
        have q130 : x5_1 < (l1.length : Int) := of_decide_eq_true (by first | (with_reducible assumption) | assumption)
        obtain ⟨ad130, e130, hx130_0⟩ := Kd.at_int HR1.out x5_1 p130 q130
        cases e130
        replace p130 := eq_true p130
        replace q130 := eq_true q130
        go_wp2
        repeat (go_quiet (fail); try go_wp2)
        go_roundg k1
        case measure => have := HK1.out; omega
        case rel => exact ⟨(wrap64 (x5_1 + 1)), (by first | rfl | (simp; done) | (simp [*]; done)), H', ⟨by have := HK1.out; omega⟩, by repeat (first | exact Drawn0.refl _ | apply Drawn0.step)⟩
       ·
        rw [if_neg c7] at H
        have c7b0 : ((rd l0 x5_1) == (rd l1 x5_1)) = false := beq_eq_false_iff_ne.mpr c7
        have c7b1 : ((rd l0 x5_1) != (rd l1 x5_1)) = true := bne_iff_ne.mpr c7
        obtain rfl := Option.some.inj H
        have p129 : 0 ≤ (x5_1 : Int) := of_decide_eq_true (by first | (with_reducible assumption) | assumption)
        have q129 : x5_1 < (l0.length : Int) := of_decide_eq_true (by first | (with_reducible assumption) | assumption)
        obtain ⟨ad129, e129, hx129_0⟩ := Kd.at_int HR0.out x5_1 p129 q129
        cases e129
        replace p129 := eq_true p129
        replace q129 := eq_true q129
        have p130 : 0 ≤ (x5_1 : Int) := of_decide_eq_true (by first | (with_reducible assumption) | assumption)
        have q130 : x5_1 < (l1.length : Int) := of_decide_eq_true (by first | (with_reducible assumption) | assumption)
        obtain ⟨ad130, e130, hx130_0⟩ := Kd.at_int HR1.out x5_1 p130 q130
        cases e130
        replace p130 := eq_true p130
        replace q130 := eq_true q130
        go_wp2
        repeat (go_quiet (fail); try go_wp2)
        go_ret
        exact ⟨by first | rfl | (simp; done) | (simp [*]; done), by repeat (first | exact Drawn0.refl _ | apply Drawn0.step)⟩
      ·
       rw [if_neg c6] at H
       exact absurd H (by simp)
     ·
      rw [if_neg c5] at H
      exact absurd H (by simp)
    ·
     rw [if_neg c4] at H
     have c4b0 : decide (x5_1 < (l0.length : Int)) = false := decide_eq_false c4
     clear c4
     obtain rfl := Option.some.inj H
     go_wp2
     repeat (go_quiet (fail); try go_wp2)
     go_ret
     exact ⟨by first | rfl | (simp; done) | (simp [*]; done), by repeat (first | exact Drawn0.refl _ | apply Drawn0.step)⟩
 ·
  rw [if_neg c3] at H
  have c3b0 : ((l0.length : Int) == (l1.length : Int)) = false := beq_eq_false_iff_ne.mpr c3
  have c3b1 : ((l0.length : Int) != (l1.length : Int)) = true := bne_iff_ne.mpr c3
  have c3b2 : (l0.length == l1.length) = false := by first | simpa using c3 | (simp at c3 ⊢; omega)
  obtain rfl := Option.some.inj H
  go_enter Try.func35, Try.ntmps35
  go_wp2
  repeat (go_quiet (fail); try go_wp2)
  go_ret
  exact ⟨by first | rfl | (simp; done) | (simp [*]; done), by repeat (first | exact Drawn0.refl _ | apply Drawn0.step)⟩
end Go.Proofs.Ytiimiogpiflkdaa.A
end

section
set_option linter.unusedVariables false
set_option linter.unusedSimpArgs false
namespace Go.Proofs.Ytiimiogpiflkdaa.L
open Go Go.RowKit Go.Proofs.Ytiimiogpiflkdaa.A Go.Proofs.YtiimiogpiflkdaaW.PrintWords
theorem toIntS_l0 (l : List Int) (hl : l.length ≤ 1099511627776) : ∀ (d n : Nat) (xs : List Int), n + d = l.length → xs.length = l.length → xs.take n = l.take n → Ev (fun k => laws_toIntS.l0 k l xs (n : Int)) l := by
  intro d
  induction d with
  | zero =>
    intro n xs hd hx ht
    refine Ev.step (fun k => laws_toIntS.l0.eq_2 ..) ?_
    refine Ev.neg (by omega) (Ev.some_ ?_)
    rw [List.take_of_length_le (by omega), List.take_of_length_le (by omega)] at ht
    exact ht
  | succ d ih =>
    intro n xs hd hx ht
    refine Ev.step (fun k => laws_toIntS.l0.eq_2 ..) ?_
    refine Ev.pos (by omega) (Ev.pos (by omega) (Ev.pos (by omega) ?_))
    simp only [w64s (show n < 4611686018427387904 by omega), rd_at (show n < l.length by omega), Int.toNat_natCast]
    refine ih (n + 1) _ (by omega) (by simp [hx]) ?_
    rw [List.take_succ_eq_append_getElem (by simp; omega), List.take_succ_eq_append_getElem (by omega), List.take_set_of_le (by omega), ht]
    simp
theorem toIntS_ev (l : List Int) (hl : l.length ≤ 1099511627776) : Ev (fun k => laws_toIntS.f k l) l := by
  unfold laws_toIntS.f
  refine Ev.pos (by omega) (Ev.pos (by simp; omega) ?_)
  exact toIntS_l0 l hl l.length 0 _ (by omega) (by simp) (by simp)
theorem eqIntS_l0 (l m : List Int) (hl : l.length ≤ 1099511627776) (hm : l.length = m.length) : ∀ (d n : Nat), n + d = l.length → Ev (fun k => laws_eqIntS.l0 k l m (n : Int)) (decide (l.drop n = m.drop n)) := by
  intro d
  induction d with
  | zero =>
    intro n hd
    refine Ev.step (fun k => laws_eqIntS.l0.eq_2 ..) ?_
    refine Ev.neg (by omega) (Ev.some_ ?_)
    rw [List.drop_eq_nil_of_le (by omega), List.drop_eq_nil_of_le (by omega)]
    simp
  | succ d ih =>
    intro n hd
    refine Ev.step (fun k => laws_eqIntS.l0.eq_2 ..) ?_
    refine Ev.pos (by omega) (Ev.pos (by omega) (Ev.pos (by omega) ?_))
    simp only [w64s (show n < 4611686018427387904 by omega), rd_at (show n < l.length by omega), rd_at (show n < m.length by omega)]
    have h1 := ih (n + 1) (by omega)
    rw [List.drop_eq_getElem_cons (show n < l.length by omega), List.drop_eq_getElem_cons (show n < m.length by omega)]
    generalize l.drop (n + 1) = u at h1 ⊢
    generalize m.drop (n + 1) = v at h1 ⊢
    refine Ev.ite (fun h => Ev.cast h1 ?_) (fun h => Ev.some_ ?_)
    · simp [h]
    · simp [h]
theorem eqIntS_ev (l m : List Int) (hl : l.length ≤ 1099511627776) : Ev (fun k => laws_eqIntS.f k l m) (decide (l = m)) := by
  unfold laws_eqIntS.f
  refine Ev.ite (fun h => Ev.cast (eqIntS_l0 l m hl (by omega) l.length 0 (by omega)) (by simp)) (fun h => Ev.some_ ?_)
  have : l ≠ m := fun e => h (by rw [e])
  simp [this]
end Go.Proofs.Ytiimiogpiflkdaa.L
end

section
namespace Go.Proofs.Ytiimiogpiflkdaa.A
open Go.RowKit Go.Proofs.YtiimiogpiflkdaaW.PrintWords Go.Proofs.YtiimiogpiflkdaaW.PrintLast Go.Proofs.YtiimiogpiflkdaaW.PrintMore
attribute [local go_sem] max2_int min2_int max_two min_two max_three min_three max_four min_four   -- for this text's walks alone
set_option linter.unusedVariables false
set_option linter.unusedSimpArgs false
def laws_toTeam.f (k : Nat) (a0_0 : Int) (a0_1 : Int) (a0_2 : Int) (a0_3 : Int) (a0_4 : Int) (l0_5 : List Int) : Option (Int × Int × Int × Int × Int × List Int) := (laws_toIntS.f k l0_5).bind fun t113 => (some (a0_0, a0_1, a0_2, a0_3, a0_4, t113))
set_option maxHeartbeats 8000000 in
set_option maxRecDepth 100000 in
theorem laws_toTeam.calls (k : Nat) (a0_0 : Int) (a0_1 : Int) (a0_2 : Int) (a0_3 : Int) (a0_4 : Int) (A0_5 : Option Addr) (c0_5 : Nat) (l0_5 : List Int) (r1 : Int) (r2 : Int) (r3 : Int) (r4 : Int) (r5 : Int) (r6 : List Int) (w : World) (hr0_5 : Kd.C (Kd.int .i64) w A0_5 l0_5.length l0_5) (hc0_5 : l0_5.length ≤ c0_5) (h : laws_toTeam.f k a0_0 a0_1 a0_2 a0_3 a0_4 l0_5 = some (r1, r2, r3, r4, r5, r6)) :
  Calls Try.prog 55 #[.agg #[.int .i64 a0_0, .int .i64 a0_1, .int .i64 a0_2, .int .i64 a0_3, .int .i64 a0_4, .slice A0_5 l0_5.length c0_5]] w fun e w' => ∃ v5_ : Value, e = .returned (.agg #[.int .i64 r1, .int .i64 r2, .int .i64 r3, .int .i64 r4, .int .i64 r5, v5_]) ∧ Kd.R (Kd.int .i64) 3 w' w.heap.size (fun _ => True) v5_ r6 ∧ Below w.heap.size w w' := by
 have hu64 := Try.underlying64
 have hu61 := Try.underlying61
 have HR0_5 := Aside0.mk hr0_5
 have HC0_5 := Aside0.mk hc0_5
 clear hr0_5 hc0_5
 have HB := Aside0.mk (Below.refl w.heap.size w)
 have H : ((laws_toIntS.f k l0_5).bind fun t113 => (some (a0_0, a0_1, a0_2, a0_3, a0_4, t113))) = some (r1, r2, r3, r4, r5, r6) := h
 clear h
 replace H := Option.bind_eq_some_iff.mp H
 obtain ⟨t113, A20, H⟩ := H
 replace H : (some (a0_0, a0_1, a0_2, a0_3, a0_4, t113)) = some (r1, r2, r3, r4, r5, r6) := H
 have A2 := Aside0.mk A20
 clear A20
 simp only [Option.some.injEq, Prod.mk.injEq] at H
 obtain ⟨rfl, rfl, rfl, rfl, rfl, rfl⟩ := H
 go_enter Try.func55, Try.ntmps55
 go_wp2_with (first | ((with_reducible refine gate_dst (N := 1) rfl ?_); refine box_event ?hg (N := 1) ?hd (cs := #[.int .i64 a0_0, .int .i64 a0_1, .int .i64 a0_2, .int .i64 a0_3, .int .i64 a0_4, .slice A0_5 l0_5.length c0_5]) (t := 64) ?hr ?_; (case hd => rfl); (case hg => rfl); (case hr => first | (go_simp; done) | (go_simp; rfl)); intro gb110 hg w3 hbox hb; have n0_ := Aside0.mk (below_step (by repeat (first | (with_reducible first | exact HB.out | apply below_alloc | apply pw_below_drewN | apply below_drew1) | exact HB.out)) hb); have n1_ := Aside0.mk (hbox); have n2_ := Aside0.mk ((by rw [hg]; exact (below_size (by repeat (first | (with_reducible first | exact HB.out | apply below_alloc | apply pw_below_drewN | apply below_drew1) | exact HB.out))) : w.heap.size ≤ gb110)); have n3_ := Aside0.mk ((by rw [hg]; exact (below_size (by repeat (first | (with_reducible first | exact HB.out | apply below_alloc | apply pw_below_drewN | apply below_drew1) | exact HB.out))) : w.heap.size ≤ gb110)); clear HB; have HB := n0_; have BK110 := n1_; have GW110 := n2_; have GE110 := n3_; clear n0_ n1_ n2_ n3_; clear hb hbox hg) | ((with_reducible refine gate_dst (N := 2) rfl ?_); refine box_event ?hg (N := 2) ?hd (cs := #[.int .i64 0, .int .i64 0, .int .i64 0, .int .i64 0, .int .i64 0, .slice none 0 0]) (t := 61) ?hr ?_; (case hd => rfl); (case hg => rfl); (case hr => first | (go_simp; done) | (go_simp; rfl)); intro gb111 hg w4 hbox hb; have n0_ := Aside0.mk (blk_below (g := gb110) (o := .cells #[.int .i64 a0_0, .int .i64 a0_1, .int .i64 a0_2, .int .i64 a0_3, .int .i64 a0_4, .slice A0_5 l0_5.length c0_5] 64 (0, 0)) (by (with_reducible repeat (first | refine blk_drewN ?_ _ | refine blk_drew ?_ | refine blk_alloc ?_ _)); exact BK110.out) hb); have n1_ := Aside0.mk (below_step (by repeat (first | (with_reducible first | exact HB.out | apply below_alloc | apply pw_below_drewN | apply below_drew1 | refine below_set ?_ GE110.out) | exact HB.out)) hb); have n2_ := Aside0.mk (hbox); have n3_ := Aside0.mk ((by rw [hg]; exact (below_size (by repeat (first | (with_reducible first | exact HB.out | apply below_alloc | apply pw_below_drewN | apply below_drew1 | refine below_set ?_ GE110.out) | exact HB.out))) : w.heap.size ≤ gb111)); have n4_ := Aside0.mk ((by rw [hg]; exact (below_size (by repeat (first | (with_reducible first | exact HB.out | apply below_alloc | apply pw_below_drewN | apply below_drew1 | refine below_set ?_ GE110.out) | exact HB.out))) : w.heap.size ≤ gb111)); have n5_ := Aside0.mk ((by rw [hg]; exact Nat.ne_of_lt (blk_lt (g := gb110) (o := .cells #[.int .i64 a0_0, .int .i64 a0_1, .int .i64 a0_2, .int .i64 a0_3, .int .i64 a0_4, .slice A0_5 l0_5.length c0_5] 64 (0, 0)) (by (with_reducible repeat (first | refine blk_drewN ?_ _ | refine blk_drew ?_ | refine blk_alloc ?_ _)); exact BK110.out)) : gb110 ≠ gb111)); have n6_ := Aside0.mk ((by rw [hg]; exact Nat.ne_of_gt (blk_lt (g := gb110) (o := .cells #[.int .i64 a0_0, .int .i64 a0_1, .int .i64 a0_2, .int .i64 a0_3, .int .i64 a0_4, .slice A0_5 l0_5.length c0_5] 64 (0, 0)) (by (with_reducible repeat (first | refine blk_drewN ?_ _ | refine blk_drew ?_ | refine blk_alloc ?_ _)); exact BK110.out)) : gb111 ≠ gb110)); clear BK110; clear HB; have BK110 := n0_; have HB := n1_; have BK111 := n2_; have GW111 := n3_; have GE111 := n4_; have NB110_111 := n5_; have NB111_110 := n6_; clear n0_ n1_ n2_ n3_ n4_ n5_ n6_; clear hb hbox hg) | ((with_reducible refine gate_dst (N := 3) rfl ?_); refine box_event ?hg (N := 3) ?hd (cs := #[.int .i64 0, .int .i64 0, .int .i64 0, .int .i64 0, .int .i64 0, .slice none 0 0]) (t := 61) ?hr ?_; (case hd => rfl); (case hg => rfl); (case hr => first | (go_simp; done) | (go_simp; rfl)); intro gb112 hg w5 hbox hb; have n0_ := Aside0.mk (blk_below (g := gb110) (o := .cells #[.int .i64 a0_0, .int .i64 a0_1, .int .i64 a0_2, .int .i64 a0_3, .int .i64 a0_4, .slice A0_5 l0_5.length c0_5] 64 (0, 0)) (by (with_reducible repeat (first | refine blk_drewN ?_ _ | refine blk_drew ?_ | refine blk_alloc ?_ _)); exact BK110.out) hb); have n1_ := Aside0.mk (blk_below (g := gb111) (o := .cells #[.int .i64 0, .int .i64 0, .int .i64 0, .int .i64 0, .int .i64 0, .slice none 0 0] 61 (0, 0)) (by (with_reducible repeat (first | refine blk_drewN ?_ _ | refine blk_drew ?_ | refine blk_alloc ?_ _)); exact BK111.out) hb); have n2_ := Aside0.mk (below_step (by repeat (first | (with_reducible first | exact HB.out | apply below_alloc | apply pw_below_drewN | apply below_drew1 | refine below_set ?_ GE110.out | refine below_set ?_ GE111.out) | exact HB.out)) hb); have n3_ := Aside0.mk (hbox); have n4_ := Aside0.mk ((by rw [hg]; exact (below_size (by repeat (first | (with_reducible first | exact HB.out | apply below_alloc | apply pw_below_drewN | apply below_drew1 | refine below_set ?_ GE110.out | refine below_set ?_ GE111.out) | exact HB.out))) : w.heap.size ≤ gb112)); have n5_ := Aside0.mk ((by rw [hg]; exact (below_size (by repeat (first | (with_reducible first | exact HB.out | apply below_alloc | apply pw_below_drewN | apply below_drew1 | refine below_set ?_ GE110.out | refine below_set ?_ GE111.out) | exact HB.out))) : w.heap.size ≤ gb112)); have n6_ := Aside0.mk ((by rw [hg]; exact Nat.ne_of_lt (blk_lt (g := gb110) (o := .cells #[.int .i64 a0_0, .int .i64 a0_1, .int .i64 a0_2, .int .i64 a0_3, .int .i64 a0_4, .slice A0_5 l0_5.length c0_5] 64 (0, 0)) (by (with_reducible repeat (first | refine blk_drewN ?_ _ | refine blk_drew ?_ | refine blk_alloc ?_ _)); exact BK110.out)) : gb110 ≠ gb112)); have n7_ := Aside0.mk ((by rw [hg]; exact Nat.ne_of_gt (blk_lt (g := gb110) (o := .cells #[.int .i64 a0_0, .int .i64 a0_1, .int .i64 a0_2, .int .i64 a0_3, .int .i64 a0_4, .slice A0_5 l0_5.length c0_5] 64 (0, 0)) (by (with_reducible repeat (first | refine blk_drewN ?_ _ | refine blk_drew ?_ | refine blk_alloc ?_ _)); exact BK110.out)) : gb112 ≠ gb110)); have n8_ := Aside0.mk ((by rw [hg]; exact Nat.ne_of_lt (blk_lt (g := gb111) (o := .cells #[.int .i64 0, .int .i64 0, .int .i64 0, .int .i64 0, .int .i64 0, .slice none 0 0] 61 (0, 0)) (by (with_reducible repeat (first | refine blk_drewN ?_ _ | refine blk_drew ?_ | refine blk_alloc ?_ _)); exact BK111.out)) : gb111 ≠ gb112)); have n9_ := Aside0.mk ((by rw [hg]; exact Nat.ne_of_gt (blk_lt (g := gb111) (o := .cells #[.int .i64 0, .int .i64 0, .int .i64 0, .int .i64 0, .int .i64 0, .slice none 0 0] 61 (0, 0)) (by (with_reducible repeat (first | refine blk_drewN ?_ _ | refine blk_drew ?_ | refine blk_alloc ?_ _)); exact BK111.out)) : gb112 ≠ gb111)); clear BK110; clear BK111; clear HB; have BK110 := n0_; have BK111 := n1_; have HB := n2_; have BK112 := n3_; have GW112 := n4_; have GE112 := n5_; have NB110_112 := n6_; have NB112_110 := n7_; have NB111_112 := n8_; have NB112_111 := n9_; clear n0_ n1_ n2_ n3_ n4_ n5_ n6_ n7_ n8_ n9_; clear hb hbox hg; have hnb6 := NB110_111.out; have hnc6 := NB111_110.out; have hnb7 := NB110_112.out; have hnc7 := NB112_110.out; have hcz8_0 : w5.cell? ⟨gb110, 0, none⟩ = some (.int .i64 a0_0) := (blk_cell BK110.out 0).trans rfl; have hcz8_1 : w5.cell? ⟨gb110, 1, none⟩ = some (.int .i64 a0_1) := (blk_cell BK110.out 1).trans rfl; have hcz8_2 : w5.cell? ⟨gb110, 2, none⟩ = some (.int .i64 a0_2) := (blk_cell BK110.out 2).trans rfl; have hcz8_3 : w5.cell? ⟨gb110, 3, none⟩ = some (.int .i64 a0_3) := (blk_cell BK110.out 3).trans rfl; have hcz8_4 : w5.cell? ⟨gb110, 4, none⟩ = some (.int .i64 a0_4) := (blk_cell BK110.out 4).trans rfl; have hcz8_5 : w5.cell? ⟨gb110, 5, none⟩ = some (.slice A0_5 l0_5.length c0_5) := (blk_cell BK110.out 5).trans rfl; have hfz8_0 := blk_frozen BK110.out 0; have hfz8_1 := blk_frozen BK110.out 1; have hfz8_2 := blk_frozen BK110.out 2; have hfz8_3 := blk_frozen BK110.out 3; have hfz8_4 := blk_frozen BK110.out 4; have hfz8_5 := blk_frozen BK110.out 5; have hnb9 := NB112_111.out; have hnc9 := NB111_112.out; have hcz10_0 : w5.cell? ⟨gb112, 0, none⟩ = some (.int .i64 0) := (blk_cell BK112.out 0).trans rfl; have hcz10_1 : w5.cell? ⟨gb112, 1, none⟩ = some (.int .i64 0) := (blk_cell BK112.out 1).trans rfl; have hcz10_2 : w5.cell? ⟨gb112, 2, none⟩ = some (.int .i64 0) := (blk_cell BK112.out 2).trans rfl; have hcz10_3 : w5.cell? ⟨gb112, 3, none⟩ = some (.int .i64 0) := (blk_cell BK112.out 3).trans rfl; have hcz10_4 : w5.cell? ⟨gb112, 4, none⟩ = some (.int .i64 0) := (blk_cell BK112.out 4).trans rfl; have hcz10_5 : w5.cell? ⟨gb112, 5, none⟩ = some (.slice none 0 0) := (blk_cell BK112.out 5).trans rfl; have hfz10_0 := blk_frozen BK112.out 0; have hfz10_1 := blk_frozen BK112.out 1; have hfz10_2 := blk_frozen BK112.out 2; have hfz10_3 := blk_frozen BK112.out 3; have hfz10_4 := blk_frozen BK112.out 4; have hfz10_5 := blk_frozen BK112.out 5) | ((with_reducible refine gate_callee (f := 84) rfl ?_); refine goesL_ (some 21) rfl rfl Try.func84 (by kernel_rfl) rfl #[.slice A0_5 l0_5.length c0_5] rfl (by (try simp only [List.map_toArray, List.map_cons, List.map_nil]); first | done | rfl | (simp only [List.length_drop, List.length_take]; rfl)) ?_; (with_reducible refine (laws_toIntS.calls k _ _ l0_5 t113 _ ?side1 ?side2 A2.out).mono ?_); (case side1 => exact Kd.C_below HR0_5.out (by repeat (first | (with_reducible first | exact HB.out | apply below_alloc | apply pw_below_drewN | apply below_drew1 | refine below_set ?_ GE110.out | refine below_set ?_ GE111.out | refine below_set ?_ GE112.out) | exact HB.out))); (case side2 => exact HC0_5.out); rintro e w11 ⟨v114, rfl, ho0, hb⟩; refine ⟨_, rfl, ?_⟩; have n0_ := Aside0.mk (Kd.R_lower ho0 (below_size (by repeat (first | (with_reducible first | exact HB.out | apply below_alloc | apply pw_below_drewN | apply below_drew1 | refine below_set ?_ GE110.out | refine below_set ?_ GE111.out | refine below_set ?_ GE112.out) | exact HB.out)))); have n1_ := Aside0.mk (blk_below (g := gb110) (o := .cells #[.int .i64 a0_0, .int .i64 a0_1, .int .i64 a0_2, .int .i64 a0_3, .int .i64 a0_4, .slice A0_5 l0_5.length c0_5] 64 (0, 0)) (by (with_reducible repeat (first | refine blk_drewN ?_ _ | refine blk_drew ?_ | refine blk_alloc ?_ _)); refine blk_far ?_ NB110_112.out _; (with_reducible repeat (first | refine blk_drewN ?_ _ | refine blk_drew ?_ | refine blk_alloc ?_ _)); refine blk_far ?_ NB110_112.out _; (with_reducible repeat (first | refine blk_drewN ?_ _ | refine blk_drew ?_ | refine blk_alloc ?_ _)); refine blk_far ?_ NB110_112.out _; (with_reducible repeat (first | refine blk_drewN ?_ _ | refine blk_drew ?_ | refine blk_alloc ?_ _)); refine blk_far ?_ NB110_112.out _; (with_reducible repeat (first | refine blk_drewN ?_ _ | refine blk_drew ?_ | refine blk_alloc ?_ _)); refine blk_far ?_ NB110_112.out _; (with_reducible repeat (first | refine blk_drewN ?_ _ | refine blk_drew ?_ | refine blk_alloc ?_ _)); exact BK110.out) hb); have n2_ := Aside0.mk (blk_below (g := gb111) (o := .cells #[.int .i64 0, .int .i64 0, .int .i64 0, .int .i64 0, .int .i64 0, .slice none 0 0] 61 (0, 0)) (by (with_reducible repeat (first | refine blk_drewN ?_ _ | refine blk_drew ?_ | refine blk_alloc ?_ _)); refine blk_far ?_ NB111_112.out _; (with_reducible repeat (first | refine blk_drewN ?_ _ | refine blk_drew ?_ | refine blk_alloc ?_ _)); refine blk_far ?_ NB111_112.out _; (with_reducible repeat (first | refine blk_drewN ?_ _ | refine blk_drew ?_ | refine blk_alloc ?_ _)); refine blk_far ?_ NB111_112.out _; (with_reducible repeat (first | refine blk_drewN ?_ _ | refine blk_drew ?_ | refine blk_alloc ?_ _)); refine blk_far ?_ NB111_112.out _; (with_reducible repeat (first | refine blk_drewN ?_ _ | refine blk_drew ?_ | refine blk_alloc ?_ _)); refine blk_far ?_ NB111_112.out _; (with_reducible repeat (first | refine blk_drewN ?_ _ | refine blk_drew ?_ | refine blk_alloc ?_ _)); exact BK111.out) hb); have n3_ := Aside0.mk (blk_below (g := gb112) (o := .cells #[.int .i64 a0_0, .int .i64 a0_1, .int .i64 a0_2, .int .i64 a0_3, .int .i64 a0_4, .slice none 0 0] 61 (0, 0)) (by (with_reducible repeat (first | refine blk_drewN ?_ _ | refine blk_drew ?_ | refine blk_alloc ?_ _)); refine blk_put (cs := #[.int .i64 a0_0, .int .i64 a0_1, .int .i64 a0_2, .int .i64 a0_3, .int .i64 0, .slice none 0 0]) ?_ 4 _ rfl; (with_reducible repeat (first | refine blk_drewN ?_ _ | refine blk_drew ?_ | refine blk_alloc ?_ _)); refine blk_put (cs := #[.int .i64 a0_0, .int .i64 a0_1, .int .i64 a0_2, .int .i64 0, .int .i64 0, .slice none 0 0]) ?_ 3 _ rfl; (with_reducible repeat (first | refine blk_drewN ?_ _ | refine blk_drew ?_ | refine blk_alloc ?_ _)); refine blk_put (cs := #[.int .i64 a0_0, .int .i64 a0_1, .int .i64 0, .int .i64 0, .int .i64 0, .slice none 0 0]) ?_ 2 _ rfl; (with_reducible repeat (first | refine blk_drewN ?_ _ | refine blk_drew ?_ | refine blk_alloc ?_ _)); refine blk_put (cs := #[.int .i64 a0_0, .int .i64 0, .int .i64 0, .int .i64 0, .int .i64 0, .slice none 0 0]) ?_ 1 _ rfl; (with_reducible repeat (first | refine blk_drewN ?_ _ | refine blk_drew ?_ | refine blk_alloc ?_ _)); refine blk_put (cs := #[.int .i64 0, .int .i64 0, .int .i64 0, .int .i64 0, .int .i64 0, .slice none 0 0]) ?_ 0 _ rfl; (with_reducible repeat (first | refine blk_drewN ?_ _ | refine blk_drew ?_ | refine blk_alloc ?_ _)); exact BK112.out) hb); have n4_ := Aside0.mk (below_step (by repeat (first | (with_reducible first | exact HB.out | apply below_alloc | apply pw_below_drewN | apply below_drew1 | refine below_set ?_ GE110.out | refine below_set ?_ GE111.out | refine below_set ?_ GE112.out) | exact HB.out)) hb); clear BK110; clear BK111; clear BK112; clear HB; have HO115 := n0_; have BK110 := n1_; have BK111 := n2_; have BK112 := n3_; have HB := n4_; clear n0_ n1_ n2_ n3_ n4_; (try clear hb); (try clear hb2); (try clear hk); (try clear hi); (try clear ho0); obtain ⟨Ao12, co12, eo12⟩ := Kd.R_slice HO115.out; subst eo12; have hcz13_0 : w11.cell? ⟨gb112, 0, none⟩ = some (.int .i64 a0_0) := (blk_cell BK112.out 0).trans rfl; have hcz13_1 : w11.cell? ⟨gb112, 1, none⟩ = some (.int .i64 a0_1) := (blk_cell BK112.out 1).trans rfl; have hcz13_2 : w11.cell? ⟨gb112, 2, none⟩ = some (.int .i64 a0_2) := (blk_cell BK112.out 2).trans rfl; have hcz13_3 : w11.cell? ⟨gb112, 3, none⟩ = some (.int .i64 a0_3) := (blk_cell BK112.out 3).trans rfl; have hcz13_4 : w11.cell? ⟨gb112, 4, none⟩ = some (.int .i64 a0_4) := (blk_cell BK112.out 4).trans rfl; have hcz13_5 : w11.cell? ⟨gb112, 5, none⟩ = some (.slice none 0 0) := (blk_cell BK112.out 5).trans rfl; have hfz13_0 := blk_frozen BK112.out 0; have hfz13_1 := blk_frozen BK112.out 1; have hfz13_2 := blk_frozen BK112.out 2; have hfz13_3 := blk_frozen BK112.out 3; have hfz13_4 := blk_frozen BK112.out 4; have hfz13_5 := blk_frozen BK112.out 5; have hcz14_0 : w11.cell? ⟨gb111, 0, none⟩ = some (.int .i64 0) := (blk_cell BK111.out 0).trans rfl; have hcz14_1 : w11.cell? ⟨gb111, 1, none⟩ = some (.int .i64 0) := (blk_cell BK111.out 1).trans rfl; have hcz14_2 : w11.cell? ⟨gb111, 2, none⟩ = some (.int .i64 0) := (blk_cell BK111.out 2).trans rfl; have hcz14_3 : w11.cell? ⟨gb111, 3, none⟩ = some (.int .i64 0) := (blk_cell BK111.out 3).trans rfl; have hcz14_4 : w11.cell? ⟨gb111, 4, none⟩ = some (.int .i64 0) := (blk_cell BK111.out 4).trans rfl; have hcz14_5 : w11.cell? ⟨gb111, 5, none⟩ = some (.slice none 0 0) := (blk_cell BK111.out 5).trans rfl; have hfz14_0 := blk_frozen BK111.out 0; have hfz14_1 := blk_frozen BK111.out 1; have hfz14_2 := blk_frozen BK111.out 2; have hfz14_3 := blk_frozen BK111.out 3; have hfz14_4 := blk_frozen BK111.out 4; have hfz14_5 := blk_frozen BK111.out 5))
 refine bodyPost_ret (results_cell_row rfl _ _ gb111 61 #[.int .i64 a0_0, .int .i64 a0_1, .int .i64 a0_2, .int .i64 a0_3, .int .i64 a0_4, .slice Ao12 t113.length co12] (0, 0) _ rfl (by (with_reducible repeat (first | refine blk_drewN ?_ _ | refine blk_drew ?_ | refine blk_alloc ?_ _)); refine blk_put (cs := #[.int .i64 a0_0, .int .i64 a0_1, .int .i64 a0_2, .int .i64 a0_3, .int .i64 a0_4, .slice none 0 0]) ?_ 5 _ rfl; (with_reducible repeat (first | refine blk_drewN ?_ _ | refine blk_drew ?_ | refine blk_alloc ?_ _)); refine blk_put (cs := #[.int .i64 a0_0, .int .i64 a0_1, .int .i64 a0_2, .int .i64 a0_3, .int .i64 0, .slice none 0 0]) ?_ 4 _ rfl; (with_reducible repeat (first | refine blk_drewN ?_ _ | refine blk_drew ?_ | refine blk_alloc ?_ _)); refine blk_put (cs := #[.int .i64 a0_0, .int .i64 a0_1, .int .i64 a0_2, .int .i64 0, .int .i64 0, .slice none 0 0]) ?_ 3 _ rfl; (with_reducible repeat (first | refine blk_drewN ?_ _ | refine blk_drew ?_ | refine blk_alloc ?_ _)); refine blk_put (cs := #[.int .i64 a0_0, .int .i64 a0_1, .int .i64 0, .int .i64 0, .int .i64 0, .slice none 0 0]) ?_ 2 _ rfl; (with_reducible repeat (first | refine blk_drewN ?_ _ | refine blk_drew ?_ | refine blk_alloc ?_ _)); refine blk_put (cs := #[.int .i64 a0_0, .int .i64 0, .int .i64 0, .int .i64 0, .int .i64 0, .slice none 0 0]) ?_ 1 _ rfl; (with_reducible repeat (first | refine blk_drewN ?_ _ | refine blk_drew ?_ | refine blk_alloc ?_ _)); refine blk_put (cs := #[.int .i64 0, .int .i64 0, .int .i64 0, .int .i64 0, .int .i64 0, .slice none 0 0]) ?_ 0 _ rfl; (with_reducible repeat (first | refine blk_drewN ?_ _ | refine blk_drew ?_ | refine blk_alloc ?_ _)); refine blk_far ?_ NB111_112.out _; (with_reducible repeat (first | refine blk_drewN ?_ _ | refine blk_drew ?_ | refine blk_alloc ?_ _)); exact BK111.out) Try.underlying61 rfl (by kernel_rfl)) rfl ?_
 exact ⟨_, by first | rfl | (simp [errW_none, errW_some] <;> rfl) | (simp [*, errW_none, errW_some] <;> rfl), by (with_reducible repeat (first | apply Kd.R_alloc | apply Kd.R_drewN | apply Kd.R_drew)); exact Kd.R_mono (Kd.R_far (p := ⟨gb111, 5, none⟩) (Kd.R_far (p := ⟨gb111, 4, none⟩) (Kd.R_far (p := ⟨gb111, 3, none⟩) (Kd.R_far (p := ⟨gb111, 2, none⟩) (Kd.R_far (p := ⟨gb111, 1, none⟩) (Kd.R_far (p := ⟨gb111, 0, none⟩) (Kd.R_far (p := ⟨gb112, 5, none⟩) (Kd.R_types (Kd.R_types HO115.out BK112.out (by decide)) BK111.out (by decide)) (fun _ hk => hk.1.2) (.slice Ao12 t113.length co12)) (fun _ hk => hk.2) (.int .i64 a0_0)) (fun _ hk => hk.2) (.int .i64 a0_1)) (fun _ hk => hk.2) (.int .i64 a0_2)) (fun _ hk => hk.2) (.int .i64 a0_3)) (fun _ hk => hk.2) (.int .i64 a0_4)) (fun _ hk => hk.2) (.slice Ao12 t113.length co12)) (fun _ hk => trivial), by repeat (first | (with_reducible first | exact HB.out | apply below_alloc | apply pw_below_drewN | apply below_drew1 | refine below_set ?_ GE110.out | refine below_set ?_ GE111.out | refine below_set ?_ GE112.out) | exact HB.out)⟩
end Go.Proofs.Ytiimiogpiflkdaa.A
end

section
namespace Go.Proofs.Ytiimiogpiflkdaa.A
open Go.RowKit Go.Proofs.YtiimiogpiflkdaaW.PrintWords Go.Proofs.YtiimiogpiflkdaaW.PrintLast Go.Proofs.YtiimiogpiflkdaaW.PrintMore
attribute [local go_sem] max2_int min2_int max_two min_two max_three min_three max_four min_four   -- for this text's walks alone
set_option linter.unusedVariables false
set_option linter.unusedSimpArgs false
def laws_toTeamS.l0 : Nat → List (S64) → List (S61) → Int → Option ((List (S61)))
  | 0, _, _, _ => none
  | k + 1, x0, x3, x4 => if x4 < (x0.length : Int) then (if 0 ≤ x4 then ((laws_toTeam.f k ((rd_T64 x0 x4).f0) ((rd_T64 x0 x4).f1) ((rd_T64 x0 x4).f2) ((rd_T64 x0 x4).f3) ((rd_T64 x0 x4).f4) ((rd_T64 x0 x4).f5)).bind fun bt120 => (if x4 < (x3.length : Int) then (laws_toTeamS.l0 k x0 (x3.set (x4 : Int).toNat (⟨bt120.1, bt120.2.1, bt120.2.2.1, bt120.2.2.2.1, bt120.2.2.2.2.1, bt120.2.2.2.2.2⟩ : S61)) (wrap64 (x4 + 1))) else (none))) else (none)) else (some x3)
def laws_toTeamS.f (k : Nat) (l0 : List (S64)) : Option ((List (S61))) := if 0 ≤ (l0.length : Int) then (if ((l0.length : Int) : Int).toNat ≤ 4398046511104 then (laws_toTeamS.l0 k l0 (List.replicate ((l0.length : Int) : Int).toNat z61) 0) else (none)) else (none)
set_option maxHeartbeats 8000000 in
set_option maxRecDepth 100000 in
theorem laws_toTeamS.calls (k : Nat) (A0 : Option Addr) (c0 : Nat) (l0 : List (S64)) (r : List (S61)) (w : World) (hr0 : Kd.C k64 w A0 l0.length l0) (hc0 : l0.length ≤ c0) (h : laws_toTeamS.f k l0 = some r) :
  Calls Try.prog 17 #[.slice A0 l0.length c0] w fun e w' => ∃ v0_ : Value, e = .returned (v0_) ∧ Kd.S k61 61 w' w.heap.size (fun _ => True) v0_ r ∧ Below w.heap.size w w' := by
 have hu64 := Try.underlying64
 have hu61 := Try.underlying61
 have HR0 := Aside0.mk hr0
 have HC0 := Aside0.mk hc0
 clear hr0 hc0
 have HB := Aside0.mk (Below.refl w.heap.size w)
 have H : (if 0 ≤ (l0.length : Int) then (if ((l0.length : Int) : Int).toNat ≤ 4398046511104 then (laws_toTeamS.l0 k l0 (List.replicate ((l0.length : Int) : Int).toNat z61) 0) else (none)) else (none)) = some r := h
 clear h
 by_cases c2 : 0 ≤ (l0.length : Int)
 ·
  rw [if_pos c2] at H
  have c2b0 := eq_true c2
  have c2b1 : decide (0 ≤ (l0.length : Int)) = true := decide_eq_true c2
  clear c2
  by_cases c3 : ((l0.length : Int) : Int).toNat ≤ 4398046511104
  ·
   rw [if_pos c3] at H
   have c3b0 := eq_true c3
   have c3b1 : decide (((l0.length : Int) : Int).toNat ≤ 4398046511104) = true := decide_eq_true c3
   clear c3
   obtain ⟨y116, hy116⟩ : ∃ y_ : List (S61), y_ = (List.replicate ((l0.length : Int) : Int).toNat z61) := ⟨_, rfl⟩
   replace H : (laws_toTeamS.l0 k l0 y116 0) = some r := by first | (rw [hy116]; with_reducible exact H) | (have H2_ := (Option.bind_some _ _).symm.trans H; rw [hy116]; with_reducible exact H2_) | (have H2_ := (Option.bind_some _ _).symm.trans H; with_reducible exact H2_) | with_reducible exact H | (rw [hy116]; exact H) | exact H
   have Ny116 := Aside0.mk hy116
   clear hy116
   have H' := Aside0.mk H
   clear H
   go_enter Try.func17, Try.ntmps17
   go_wp2_with (first | ((with_reducible refine gate_dst (N := 7) rfl ?_); refine Kd.S_make k61 _ 61 rfl (N := 7) rfl 25 _ _ rfl (l0.length : Int) rfl rfl Try.underlying25 (.agg #[(.int .i64 0), (.int .i64 0), (.int .i64 0), (.int .i64 0), (.int .i64 0), (.slice none 0 0)]) 64 info61 rfl (by decide) (by omega) z61 (ok := fun _ => True) (okp := fun _ => True) (k61_mkM _ _ _ z61 (Kd.R_nil _ _ _ _ _)) (fun _ hk => hk) trivial (of_decide_eq_true (by first | (with_reducible assumption) | assumption)) (Nat.le_trans (Nat.mul_le_mul_right _ (of_decide_eq_true (by first | (with_reducible assumption) | assumption) : (l0.length : Int).toNat ≤ 4398046511104)) (by omega)) (Below.refl _ _) (Nat.le_refl _) ?_; intro v117 w4 ho5 hb hg_ hnew_; clear hg_ hnew_; (first | rw [← Ny116.out] at ho5 | (simp only [Int.reduceToNat] at ho5; rw [← Ny116.out] at ho5)); have n0_ := Aside0.mk (Kd.S_lower ho5 (below_size (by repeat (first | (with_reducible first | exact HB.out | apply below_alloc | apply pw_below_drewN | apply below_drew1) | exact HB.out)))); have n1_ := Aside0.mk (below_step (by repeat (first | (with_reducible first | exact HB.out | apply below_alloc | apply pw_below_drewN | apply below_drew1) | exact HB.out)) hb); clear HB; have HO118 := n0_; have HB := n1_; clear n0_ n1_; clear hb ho5))
   go_loopg [4] k (fun kq v4 w' => ∃ (x3_1 : List (S61)) (x4_1 : Int), v4 = .int .i64 x4_1 ∧ Aside0 (laws_toTeamS.l0 kq l0 x3_1 x4_1 = some r) ∧ Aside0 (kq ≤ k) ∧ Aside0 (Kd.S k61 61 w' w.heap.size (fun _ => True) v117 x3_1) ∧ Aside0 (Below w.heap.size w w'))
   case atStart => exact ⟨(y116), (0), (by first | rfl | (simp; done) | (simp [*]; done)), H', ⟨Nat.le_refl _⟩, ⟨by (with_reducible repeat (first | apply Kd.S_alloc | apply Kd.S_drewN | apply Kd.S_drew)); exact HO118.out⟩, ⟨by repeat (first | (with_reducible first | exact HB.out | apply below_alloc | apply pw_below_drewN | apply below_drew1) | exact HB.out)⟩⟩
   case round =>
    clear H'
    try clear c1
    try clear c2
    try clear c2b0
    try clear c2b1
    try clear p2
    try clear c3
    try clear c3b0
    try clear c3b1
    obtain ⟨x3_1, x4_1, rfl, HA, HK1, HO_3, HB⟩ := hrel
    cases gk with
    | zero => exact absurd HA.out (by simp [laws_toTeamS.l0])
    | succ k1 =>
     have H := HA.out
     clear HA
     simp only [laws_toTeamS.l0] at H
     by_cases c6 : x4_1 < (l0.length : Int)
     ·
      rw [if_pos c6] at H
      have c6b0 : decide (x4_1 < (l0.length : Int)) = true := decide_eq_true c6
      clear c6
      by_cases c7 : 0 ≤ x4_1
      ·
       rw [if_pos c7] at H
       have c7b0 : decide (0 ≤ x4_1) = true := decide_eq_true c7
       clear c7
       replace H := Option.bind_eq_some_iff.mp H
       obtain ⟨⟨t120, t121, t122, t123, t124, t125⟩, A80, H⟩ := H
       replace H : (if x4_1 < (x3_1.length : Int) then (laws_toTeamS.l0 k1 l0 (x3_1.set (x4_1 : Int).toNat (⟨t120, t121, t122, t123, t124, t125⟩ : S61)) (wrap64 (x4_1 + 1))) else (none)) = some r := H
       have A8 := Aside0.mk A80
       clear A80
       by_cases c9 : x4_1 < (x3_1.length : Int)
       ·
        rw [if_pos c9] at H
        have c9b0 : decide (x4_1 < (x3_1.length : Int)) = true := decide_eq_true c9
        clear c9
        obtain ⟨y128, hy128⟩ : ∃ y_ : List (S61), y_ = (x3_1.set (x4_1 : Int).toNat (⟨t120, t121, t122, t123, t124, t125⟩ : S61)) := ⟨_, rfl⟩
        replace H : (laws_toTeamS.l0 k1 l0 y128 (wrap64 (x4_1 + 1))) = some r := by first | (rw [hy128]; with_reducible exact H) | (have H2_ := (Option.bind_some _ _).symm.trans H; rw [hy128]; with_reducible exact H2_) | (have H2_ := (Option.bind_some _ _).symm.trans H; with_reducible exact H2_) | with_reducible exact H | (rw [hy128]; exact H) | exact H
        have Ny128 := Aside0.mk hy128
        clear hy128
        have H' := Aside0.mk H
        clear H
        have p119 : 0 ≤ (x4_1 : Int) := of_decide_eq_true (by first | (with_reducible assumption) | assumption)
        have q119 : x4_1 < (l0.length : Int) := of_decide_eq_true (by first | (with_reducible assumption) | assumption)
        obtain ⟨ad119, A119_5, c119_5, e119, hx119_0, hx119_1, hx119_2, hx119_3, hx119_4, hx119_5, hl119_5, hi119_5⟩ := at_T64 HR0.out x4_1 p119 q119
        cases e119
        replace hx119_0 := (HB.out.cell (World.block_lt_of_cell? w _ hx119_0)).trans hx119_0
        replace hx119_1 := (HB.out.cell (World.block_lt_of_cell? w _ hx119_1)).trans hx119_1
        replace hx119_2 := (HB.out.cell (World.block_lt_of_cell? w _ hx119_2)).trans hx119_2
        replace hx119_3 := (HB.out.cell (World.block_lt_of_cell? w _ hx119_3)).trans hx119_3
        replace hx119_4 := (HB.out.cell (World.block_lt_of_cell? w _ hx119_4)).trans hx119_4
        replace hx119_5 := (HB.out.cell (World.block_lt_of_cell? w _ hx119_5)).trans hx119_5
        have HR119_5 := Aside0.mk hi119_5
        have HC119_5 := Aside0.mk hl119_5
        clear hi119_5 hl119_5
        replace p119 := eq_true p119
        replace q119 := eq_true q119
        go_wp2_with (first | ((with_reducible refine gate_callee (f := 55) rfl ?_); refine goesL_ (some 20) rfl rfl Try.func55 (by kernel_rfl) rfl #[.agg #[.int .i64 ((rd_T64 l0 x4_1).f0), .int .i64 ((rd_T64 l0 x4_1).f1), .int .i64 ((rd_T64 l0 x4_1).f2), .int .i64 ((rd_T64 l0 x4_1).f3), .int .i64 ((rd_T64 l0 x4_1).f4), .slice A119_5 ((rd_T64 l0 x4_1).f5).length c119_5]] rfl (by (try simp only [List.map_toArray, List.map_cons, List.map_nil]); first | done | rfl | (simp only [List.length_drop, List.length_take]; rfl)) ?_; (with_reducible refine (laws_toTeam.calls k1 ((rd_T64 l0 x4_1).f0) ((rd_T64 l0 x4_1).f1) ((rd_T64 l0 x4_1).f2) ((rd_T64 l0 x4_1).f3) ((rd_T64 l0 x4_1).f4) _ _ ((rd_T64 l0 x4_1).f5) t120 t121 t122 t123 t124 t125 _ ?side1 ?side2 A8.out).mono ?_); (case side1 => repeat (first | exact (Kd.C_below HR119_5.out HB.out) | (with_reducible refine Kd.C_alloc ?_ _) | (with_reducible refine Kd.C_drewN ?_ _) | (with_reducible refine Kd.C_drew ?_))); (case side2 => exact HC119_5.out); rintro e w11 ⟨v126, rfl, ho0, hb⟩; refine ⟨_, rfl, ?_⟩; have n0_ := Aside0.mk (Kd.S_elder' (by (with_reducible repeat (first | apply Kd.S_alloc | apply Kd.S_drewN | apply Kd.S_drew)); exact HO_3.out) (Kd.R_base ho0) hb); have n1_ := Aside0.mk (Kd.R_lower ho0 (below_size (by repeat (first | (with_reducible first | exact HB.out | apply below_alloc | apply pw_below_drewN | apply below_drew1) | exact HB.out)))); have n2_ := Aside0.mk (below_step (by repeat (first | (with_reducible first | exact HB.out | apply below_alloc | apply pw_below_drewN | apply below_drew1) | exact HB.out)) hb); clear HO_3; clear HB; have HO_3 := n0_; have HO127 := n1_; have HB := n2_; clear n0_ n1_ n2_; (try clear hb); (try clear hb2); (try clear hk); (try clear hi); (try clear ho0); have p10 : 0 ≤ (x4_1 : Int) := of_decide_eq_true (by first | (with_reducible assumption) | assumption); have q10 : (x4_1 : Int) < ((x3_1.length : Int) : Int) := of_decide_eq_true (by first | (with_reducible assumption) | assumption); obtain ⟨go10, co10, eo10, gb10, gl10, cl10, HG10⟩ := Kd.S_form HO_3.out (by omega); (first | cases eo10 | (injection eo10 with ea_ en_ ec_; (first | subst ea_ | (injection ea_ with ea_; subst ea_)); subst ec_; clear en_)); have GB10 := Aside0.mk gb10; have GG10 := Aside0.mk HG10; clear gb10 gl10 HG10; obtain ⟨_, ce10, hcl10, hM10, hcc10, hfr10, _, _⟩ := Kd.S_elem HO_3.out z61 (x4_1 : Int) p10 q10; obtain ⟨ve10_5, rfl, ge10_5⟩ := k61_openM hM10; have hx10_0 : w11.cell? ⟨go10, (x4_1 : Int).toNat * 6, none⟩ = some (.int .i64 ((rd_T61 x3_1 x4_1).f0)) := hcc10 0 _ rfl; have hx10_1 : w11.cell? ⟨go10, (x4_1 : Int).toNat * 6 + 1, none⟩ = some (.int .i64 ((rd_T61 x3_1 x4_1).f1)) := hcc10 1 _ rfl; have hx10_2 : w11.cell? ⟨go10, (x4_1 : Int).toNat * 6 + 2, none⟩ = some (.int .i64 ((rd_T61 x3_1 x4_1).f2)) := hcc10 2 _ rfl; have hx10_3 : w11.cell? ⟨go10, (x4_1 : Int).toNat * 6 + 3, none⟩ = some (.int .i64 ((rd_T61 x3_1 x4_1).f3)) := hcc10 3 _ rfl; have hx10_4 : w11.cell? ⟨go10, (x4_1 : Int).toNat * 6 + 4, none⟩ = some (.int .i64 ((rd_T61 x3_1 x4_1).f4)) := hcc10 4 _ rfl; have hx10_5 : w11.cell? ⟨go10, (x4_1 : Int).toNat * 6 + 5, none⟩ = some (ve10_5) := hcc10 5 _ rfl; have hf10_0 : w11.frozen? ⟨go10, (x4_1 : Int).toNat * 6, none⟩ = false := hfr10 0; have hf10_1 : w11.frozen? ⟨go10, (x4_1 : Int).toNat * 6 + 1, none⟩ = false := hfr10 1; have hf10_2 : w11.frozen? ⟨go10, (x4_1 : Int).toNat * 6 + 2, none⟩ = false := hfr10 2; have hf10_3 : w11.frozen? ⟨go10, (x4_1 : Int).toNat * 6 + 3, none⟩ = false := hfr10 3; have hf10_4 : w11.frozen? ⟨go10, (x4_1 : Int).toNat * 6 + 4, none⟩ = false := hfr10 4; have hf10_5 : w11.frozen? ⟨go10, (x4_1 : Int).toNat * 6 + 5, none⟩ = false := hfr10 5; (try clear hcl10); (try clear hcc10); (try clear hfr10); (try clear hM10); replace p10 := eq_true p10; replace q10 := eq_true q10; have n_ := Aside0.mk (Kd.S_mono (ok' := (fun k_ => some k_ ≠ (v126 : Value).ownBlock)) HO_3.out (fun k_ hk => hk.2)); clear HO_3; have HO_3 := n_; clear n_; have HX12 := Aside0.mk (show Kd.S k61 61 w11 w.heap.size (fun k_ => ((fun _ => True)) k_ ∧ ¬ ((fun k_ => some k_ = (v126 : Value).ownBlock)) k_) (.slice (some ⟨go10, 0, none⟩) x3_1.length co10) x3_1 from (by (with_reducible repeat (first | apply Kd.S_alloc | apply Kd.S_drewN | apply Kd.S_drew)); exact Kd.S_mono HO_3.out (fun k_ hk => ⟨trivial, fun e_ => hk e_⟩))); obtain ⟨oki12, ce12, hcl12, hM12, hcc12, hfr12, hoki12, hH12⟩ := Kd.S_elem HX12.out z61 (x4_1 : Int) (of_decide_eq_true (by first | (with_reducible assumption) | assumption)) (by have h_ : (x4_1 : Int) < ((x3_1.length : Int) : Int) := of_decide_eq_true (by first | (with_reducible assumption) | assumption); first | exact h_ | (have e_ := (Kd.S_reads' HO_3.out).1; omega) | simpa using h_); obtain ⟨ve12_5, rfl, ge12_5⟩ := k61_openM hM12; have HP12 := Kd.S_seg hH12 (of_decide_eq_true (by first | (with_reducible assumption) | assumption)) (by have h_ : (x4_1 : Int) < ((x3_1.length : Int) : Int) := of_decide_eq_true (by first | (with_reducible assumption) | assumption); first | exact h_ | (have e_ := (Kd.S_reads' HO_3.out).1; omega) | simpa using h_) (seg := [.int .i64 t120, .int .i64 t121, .int .i64 t122, .int .i64 t123, .int .i64 t124, v126]) (j := 0) (show 6 ≤ 6 from by decide) (x' := (⟨t120, t121, t122, t123, t124, t125⟩ : S61)) (k61_mkM _ _ _ (⟨t120, t121, t122, t123, t124, t125⟩ : S61) (Kd.R_mono (Kd.R_tight rfl (Kd.R_mono (ok' := fun k_ => ((fun _ => True)) k_ ∧ k_ ≠ go10) (Kd.R_apart' (HO127.out) (Kd.S_typed HO_3.out) (by decide)) (fun k_ hk => ⟨trivial, fun e_ => (hk.2) (by rw [e_]; rfl)⟩))) (fun _ h_ => Or.inr (h_)))) (fun _ hk => hk) (fun k_ hk_ => ((Kd.R_mono (ok' := fun k_ => ((fun _ => True)) k_ ∧ k_ ≠ go10) (Kd.R_apart' (HO127.out) (Kd.S_typed HO_3.out) (by decide)) (fun k_ hk => ⟨trivial, fun e_ => (hk.2) (by rw [e_]; rfl)⟩))).1 k_ hk_.symm); have hx12_0 := hcc12 0 _ rfl; (try simp only [show (k61).sz = 6 from rfl, Nat.mul_one, Nat.add_zero] at hx12_0); have hf12_0 := hfr12 0; (try simp only [show (k61).sz = 6 from rfl, Nat.mul_one, Nat.add_zero] at hf12_0); have hx12_1 := hcc12 1 _ rfl; (try simp only [show (k61).sz = 6 from rfl, Nat.mul_one, Nat.add_zero] at hx12_1); have hf12_1 := hfr12 1; (try simp only [show (k61).sz = 6 from rfl, Nat.mul_one, Nat.add_zero] at hf12_1); have hx12_2 := hcc12 2 _ rfl; (try simp only [show (k61).sz = 6 from rfl, Nat.mul_one, Nat.add_zero] at hx12_2); have hf12_2 := hfr12 2; (try simp only [show (k61).sz = 6 from rfl, Nat.mul_one, Nat.add_zero] at hf12_2); have hx12_3 := hcc12 3 _ rfl; (try simp only [show (k61).sz = 6 from rfl, Nat.mul_one, Nat.add_zero] at hx12_3); have hf12_3 := hfr12 3; (try simp only [show (k61).sz = 6 from rfl, Nat.mul_one, Nat.add_zero] at hf12_3); have hx12_4 := hcc12 4 _ rfl; (try simp only [show (k61).sz = 6 from rfl, Nat.mul_one, Nat.add_zero] at hx12_4); have hf12_4 := hfr12 4; (try simp only [show (k61).sz = 6 from rfl, Nat.mul_one, Nat.add_zero] at hf12_4); have hx12_5 := hcc12 5 _ rfl; (try simp only [show (k61).sz = 6 from rfl, Nat.mul_one, Nat.add_zero] at hx12_5); have hf12_5 := hfr12 5; (try simp only [show (k61).sz = 6 from rfl, Nat.mul_one, Nat.add_zero] at hf12_5); (try clear hcl12); (try clear hcc12); (try clear hfr12); (try clear hM12); (try clear hoki12); (try clear hH12)) | ((with_reducible refine gate_store (t := 61) (p := 21) rfl ?_); refine store_event (t := 61) (p := 21) (v := ?vo_w13) (w1 := ((((((w11.setCell ⟨go10, (x4_1 : Int).toNat * 6, none⟩ (.int .i64 t120)).setCell ⟨go10, (x4_1 : Int).toNat * 6 + 1, none⟩ (.int .i64 t121)).setCell ⟨go10, (x4_1 : Int).toNat * 6 + 2, none⟩ (.int .i64 t122)).setCell ⟨go10, (x4_1 : Int).toNat * 6 + 3, none⟩ (.int .i64 t123)).setCell ⟨go10, (x4_1 : Int).toNat * 6 + 4, none⟩ (.int .i64 t124)).setCell ⟨go10, (x4_1 : Int).toNat * 6 + 5, none⟩ (v126))) ?hg ?ho ?hn ?hr ?_; (case ho => rfl); (case hg => rfl); (case hn => rfl); (case hr => first | (go_simp; done) | (go_simp; rfl) | (obtain ⟨_, _, e_⟩ := Kd.R_slice HO127.out; subst e_; first | (go_simp; done) | (go_simp; rfl))); intro w13 hw; have hg : w11.grownBy w13 (some go10) := (by rw [hw]; exact HP12.2); have hp_ : Kd.S k61 61 w13 w.heap.size (fun _ => True) (.slice (some ⟨go10, 0, none⟩) x3_1.length co10) y128 := (by rw [hw, Ny128.out]; exact HP12.1); clear HP12; have n0_ := Aside0.mk (hp_); have n1_ := Aside0.mk ((by rw [hw]; exact below_set (below_set (below_set (below_set (below_set (below_set (HB.out) GB10.out) GB10.out) GB10.out) GB10.out) GB10.out) GB10.out : Below w.heap.size w w13)); clear HO_3; clear HB; clear HO127; have HO_3 := n0_; have HB := n1_; clear n0_ n1_; clear hg hw hp_))
        go_roundg k1
        case measure => have := HK1.out; omega
        case rel => exact ⟨(y128), (wrap64 (x4_1 + 1)), (by first | rfl | (simp; done) | (simp [*]; done)), H', ⟨by have := HK1.out; omega⟩, ⟨by (with_reducible repeat (first | apply Kd.S_alloc | apply Kd.S_drewN | apply Kd.S_drew)); exact HO_3.out⟩, ⟨by repeat (first | (with_reducible first | exact HB.out | apply below_alloc | apply pw_below_drewN | apply below_drew1) | exact HB.out)⟩⟩
       ·
        rw [if_neg c9] at H
        exact absurd H (by simp)
      ·
       rw [if_neg c7] at H
       exact absurd H (by simp)
     ·
      rw [if_neg c6] at H
      have c6b0 : decide (x4_1 < (l0.length : Int)) = false := decide_eq_false c6
      clear c6
      obtain rfl := Option.some.inj H
      go_wp2
      all_goals (go_ret; exact ⟨_, by first | rfl | (simp [errW_none, errW_some] <;> rfl) | (simp [*, errW_none, errW_some] <;> rfl), by (with_reducible repeat (first | apply Kd.S_alloc | apply Kd.S_drewN | apply Kd.S_drew)); exact HO_3.out, by repeat (first | (with_reducible first | exact HB.out | apply below_alloc | apply pw_below_drewN | apply below_drew1) | exact HB.out)⟩)
  ·
   rw [if_neg c3] at H
   exact absurd H (by simp)
 ·
  rw [if_neg c2] at H
  exact absurd H (by simp)
end Go.Proofs.Ytiimiogpiflkdaa.A
end

section
namespace Go.Proofs.Ytiimiogpiflkdaa.A
open Go.RowKit Go.Proofs.YtiimiogpiflkdaaW.PrintWords Go.Proofs.YtiimiogpiflkdaaW.PrintLast Go.Proofs.YtiimiogpiflkdaaW.PrintMore
attribute [local go_sem] max2_int min2_int max_two min_two max_three min_three max_four min_four   -- for this text's walks alone
set_option linter.unusedVariables false
set_option linter.unusedSimpArgs false
def laws_eqTeam.f (k : Nat) (a0_0 : Int) (a0_1 : Int) (a0_2 : Int) (a0_3 : Int) (a0_4 : Int) (l0_5 : List Int) (a1_0 : Int) (a1_1 : Int) (a1_2 : Int) (a1_3 : Int) (a1_4 : Int) (l1_5 : List Int) : Option (Bool) := if a0_0 = a1_0 then (if a0_1 = a1_1 then (if a0_2 = a1_2 then (if a0_3 = a1_3 then (if a0_4 = a1_4 then ((laws_eqIntS.f k l0_5 l1_5).bind fun t133 => (if t133 = true then (some true) else (some false))) else (some false)) else (some false)) else (some false)) else (some false)) else (some false)
set_option maxHeartbeats 8000000 in
set_option maxRecDepth 100000 in
theorem laws_eqTeam.calls (k : Nat) (a0_0 : Int) (a0_1 : Int) (a0_2 : Int) (a0_3 : Int) (a0_4 : Int) (A0_5 : Option Addr) (c0_5 : Nat) (l0_5 : List Int) (a1_0 : Int) (a1_1 : Int) (a1_2 : Int) (a1_3 : Int) (a1_4 : Int) (A1_5 : Option Addr) (c1_5 : Nat) (l1_5 : List Int) (r : Bool) (w : World) (hr0_5 : Kd.C (Kd.int .i64) w A0_5 l0_5.length l0_5) (hc0_5 : l0_5.length ≤ c0_5) (hr1_5 : Kd.C (Kd.int .i64) w A1_5 l1_5.length l1_5) (hc1_5 : l1_5.length ≤ c1_5) (h : laws_eqTeam.f k a0_0 a0_1 a0_2 a0_3 a0_4 l0_5 a1_0 a1_1 a1_2 a1_3 a1_4 l1_5 = some r) :
  Calls Try.prog 58 #[.agg #[.int .i64 a0_0, .int .i64 a0_1, .int .i64 a0_2, .int .i64 a0_3, .int .i64 a0_4, .slice A0_5 l0_5.length c0_5], .agg #[.int .i64 a1_0, .int .i64 a1_1, .int .i64 a1_2, .int .i64 a1_3, .int .i64 a1_4, .slice A1_5 l1_5.length c1_5]] w fun e w' => e = .returned (.bool r) ∧ Below w.heap.size w w' := by
 have hu61 := Try.underlying61
 have HR0_5 := Aside0.mk hr0_5
 have HC0_5 := Aside0.mk hc0_5
 clear hr0_5 hc0_5
 have HR1_5 := Aside0.mk hr1_5
 have HC1_5 := Aside0.mk hc1_5
 clear hr1_5 hc1_5
 have HB := Aside0.mk (Below.refl w.heap.size w)
 have H : (if a0_0 = a1_0 then (if a0_1 = a1_1 then (if a0_2 = a1_2 then (if a0_3 = a1_3 then (if a0_4 = a1_4 then ((laws_eqIntS.f k l0_5 l1_5).bind fun t133 => (if t133 = true then (some true) else (some false))) else (some false)) else (some false)) else (some false)) else (some false)) else (some false)) = some r := h
 clear h
 by_cases c3 : a0_0 = a1_0
 ·
  rw [if_pos c3] at H
  have c3b0 : (a0_0 == a1_0) = true := beq_iff_eq.mpr c3
  have c3b1 : (a0_0 != a1_0) = false := bne_eq_false_iff_eq.mpr c3
  clear c3
  by_cases c4 : a0_1 = a1_1
  ·
   rw [if_pos c4] at H
   have c4b0 : (a0_1 == a1_1) = true := beq_iff_eq.mpr c4
   have c4b1 : (a0_1 != a1_1) = false := bne_eq_false_iff_eq.mpr c4
   clear c4
   by_cases c5 : a0_2 = a1_2
   ·
    rw [if_pos c5] at H
    have c5b0 : (a0_2 == a1_2) = true := beq_iff_eq.mpr c5
    have c5b1 : (a0_2 != a1_2) = false := bne_eq_false_iff_eq.mpr c5
    clear c5
    by_cases c6 : a0_3 = a1_3
    ·
     rw [if_pos c6] at H
     have c6b0 : (a0_3 == a1_3) = true := beq_iff_eq.mpr c6
     have c6b1 : (a0_3 != a1_3) = false := bne_eq_false_iff_eq.mpr c6
     clear c6
     by_cases c7 : a0_4 = a1_4
     ·
      rw [if_pos c7] at H
      have c7b0 : (a0_4 == a1_4) = true := beq_iff_eq.mpr c7
      have c7b1 : (a0_4 != a1_4) = false := bne_eq_false_iff_eq.mpr c7
      clear c7
      replace H := Option.bind_eq_some_iff.mp H
      obtain ⟨t133, A80, H⟩ := H
      replace H : (if t133 = true then (some true) else (some false)) = some r := H
      have A8 := Aside0.mk A80
      clear A80
      by_cases c9 : t133 = true
      ·
       subst c9
       have H1 : (some true) = some r := by rw [if_pos rfl] at H; exact H
       clear H
       have H := H1
       clear H1
       obtain rfl := Option.some.inj H
       go_enter Try.func58, Try.ntmps58
       go_wp2_with (first | ((with_reducible refine gate_dst (N := 2) rfl ?_); refine box_event ?hg (N := 2) ?hd (cs := #[.int .i64 a0_0, .int .i64 a0_1, .int .i64 a0_2, .int .i64 a0_3, .int .i64 a0_4, .slice A0_5 l0_5.length c0_5]) (t := 61) ?hr ?_; (case hd => rfl); (case hg => rfl); (case hr => first | (go_simp; done) | (go_simp; rfl)); intro gb131 hg w10 hbox hb; have n0_ := Aside0.mk (below_step (by repeat (first | (with_reducible first | exact HB.out | apply below_alloc | apply pw_below_drewN | apply below_drew1) | exact HB.out)) hb); have n1_ := Aside0.mk (hbox); have n2_ := Aside0.mk ((by rw [hg]; exact (below_size (by repeat (first | (with_reducible first | exact HB.out | apply below_alloc | apply pw_below_drewN | apply below_drew1) | exact HB.out))) : w.heap.size ≤ gb131)); have n3_ := Aside0.mk ((by rw [hg]; exact (below_size (by repeat (first | (with_reducible first | exact HB.out | apply below_alloc | apply pw_below_drewN | apply below_drew1) | exact HB.out))) : w.heap.size ≤ gb131)); clear HB; have HB := n0_; have BK131 := n1_; have GW131 := n2_; have GE131 := n3_; clear n0_ n1_ n2_ n3_; clear hb hbox hg) | ((with_reducible refine gate_dst (N := 3) rfl ?_); refine box_event ?hg (N := 3) ?hd (cs := #[.int .i64 a1_0, .int .i64 a1_1, .int .i64 a1_2, .int .i64 a1_3, .int .i64 a1_4, .slice A1_5 l1_5.length c1_5]) (t := 61) ?hr ?_; (case hd => rfl); (case hg => rfl); (case hr => first | (go_simp; done) | (go_simp; rfl)); intro gb132 hg w11 hbox hb; have n0_ := Aside0.mk (blk_below (g := gb131) (o := .cells #[.int .i64 a0_0, .int .i64 a0_1, .int .i64 a0_2, .int .i64 a0_3, .int .i64 a0_4, .slice A0_5 l0_5.length c0_5] 61 (0, 0)) (by (with_reducible repeat (first | refine blk_drewN ?_ _ | refine blk_drew ?_ | refine blk_alloc ?_ _)); exact BK131.out) hb); have n1_ := Aside0.mk (below_step (by repeat (first | (with_reducible first | exact HB.out | apply below_alloc | apply pw_below_drewN | apply below_drew1 | refine below_set ?_ GE131.out) | exact HB.out)) hb); have n2_ := Aside0.mk (hbox); have n3_ := Aside0.mk ((by rw [hg]; exact (below_size (by repeat (first | (with_reducible first | exact HB.out | apply below_alloc | apply pw_below_drewN | apply below_drew1 | refine below_set ?_ GE131.out) | exact HB.out))) : w.heap.size ≤ gb132)); have n4_ := Aside0.mk ((by rw [hg]; exact (below_size (by repeat (first | (with_reducible first | exact HB.out | apply below_alloc | apply pw_below_drewN | apply below_drew1 | refine below_set ?_ GE131.out) | exact HB.out))) : w.heap.size ≤ gb132)); have n5_ := Aside0.mk ((by rw [hg]; exact Nat.ne_of_lt (blk_lt (g := gb131) (o := .cells #[.int .i64 a0_0, .int .i64 a0_1, .int .i64 a0_2, .int .i64 a0_3, .int .i64 a0_4, .slice A0_5 l0_5.length c0_5] 61 (0, 0)) (by (with_reducible repeat (first | refine blk_drewN ?_ _ | refine blk_drew ?_ | refine blk_alloc ?_ _)); exact BK131.out)) : gb131 ≠ gb132)); have n6_ := Aside0.mk ((by rw [hg]; exact Nat.ne_of_gt (blk_lt (g := gb131) (o := .cells #[.int .i64 a0_0, .int .i64 a0_1, .int .i64 a0_2, .int .i64 a0_3, .int .i64 a0_4, .slice A0_5 l0_5.length c0_5] 61 (0, 0)) (by (with_reducible repeat (first | refine blk_drewN ?_ _ | refine blk_drew ?_ | refine blk_alloc ?_ _)); exact BK131.out)) : gb132 ≠ gb131)); clear BK131; clear HB; have BK131 := n0_; have HB := n1_; have BK132 := n2_; have GW132 := n3_; have GE132 := n4_; have NB131_132 := n5_; have NB132_131 := n6_; clear n0_ n1_ n2_ n3_ n4_ n5_ n6_; clear hb hbox hg; have hnb12 := NB131_132.out; have hnc12 := NB132_131.out; have hcz13_0 : w11.cell? ⟨gb131, 0, none⟩ = some (.int .i64 a0_0) := (blk_cell BK131.out 0).trans rfl; have hcz13_1 : w11.cell? ⟨gb131, 1, none⟩ = some (.int .i64 a0_1) := (blk_cell BK131.out 1).trans rfl; have hcz13_2 : w11.cell? ⟨gb131, 2, none⟩ = some (.int .i64 a0_2) := (blk_cell BK131.out 2).trans rfl; have hcz13_3 : w11.cell? ⟨gb131, 3, none⟩ = some (.int .i64 a0_3) := (blk_cell BK131.out 3).trans rfl; have hcz13_4 : w11.cell? ⟨gb131, 4, none⟩ = some (.int .i64 a0_4) := (blk_cell BK131.out 4).trans rfl; have hcz13_5 : w11.cell? ⟨gb131, 5, none⟩ = some (.slice A0_5 l0_5.length c0_5) := (blk_cell BK131.out 5).trans rfl; have hfz13_0 := blk_frozen BK131.out 0; have hfz13_1 := blk_frozen BK131.out 1; have hfz13_2 := blk_frozen BK131.out 2; have hfz13_3 := blk_frozen BK131.out 3; have hfz13_4 := blk_frozen BK131.out 4; have hfz13_5 := blk_frozen BK131.out 5; have hcz14_0 : w11.cell? ⟨gb132, 0, none⟩ = some (.int .i64 a1_0) := (blk_cell BK132.out 0).trans rfl; have hcz14_1 : w11.cell? ⟨gb132, 1, none⟩ = some (.int .i64 a1_1) := (blk_cell BK132.out 1).trans rfl; have hcz14_2 : w11.cell? ⟨gb132, 2, none⟩ = some (.int .i64 a1_2) := (blk_cell BK132.out 2).trans rfl; have hcz14_3 : w11.cell? ⟨gb132, 3, none⟩ = some (.int .i64 a1_3) := (blk_cell BK132.out 3).trans rfl; have hcz14_4 : w11.cell? ⟨gb132, 4, none⟩ = some (.int .i64 a1_4) := (blk_cell BK132.out 4).trans rfl; have hcz14_5 : w11.cell? ⟨gb132, 5, none⟩ = some (.slice A1_5 l1_5.length c1_5) := (blk_cell BK132.out 5).trans rfl; have hfz14_0 := blk_frozen BK132.out 0; have hfz14_1 := blk_frozen BK132.out 1; have hfz14_2 := blk_frozen BK132.out 2; have hfz14_3 := blk_frozen BK132.out 3; have hfz14_4 := blk_frozen BK132.out 4; have hfz14_5 := blk_frozen BK132.out 5) | ((with_reducible refine gate_callee (f := 35) rfl ?_); refine goesL_ (some 34) rfl rfl Try.func35 (by kernel_rfl) rfl #[.slice A0_5 l0_5.length c0_5, .slice A1_5 l1_5.length c1_5] rfl (by (try simp only [List.map_toArray, List.map_cons, List.map_nil]); first | done | rfl | (simp only [List.length_drop, List.length_take]; rfl)) ?_; (with_reducible refine (laws_eqIntS.calls k _ _ l0_5 _ _ l1_5 true _ ?side1 ?side2 ?side3 ?side4 A8.out).mono ?_); (case side1 => repeat (first | exact (Kd.C_below HR0_5.out HB.out) | (with_reducible refine Kd.C_alloc ?_ _) | (with_reducible refine Kd.C_drewN ?_ _) | (with_reducible refine Kd.C_drew ?_))); (case side2 => exact HC0_5.out); (case side3 => repeat (first | exact (Kd.C_below HR1_5.out HB.out) | (with_reducible refine Kd.C_alloc ?_ _) | (with_reducible refine Kd.C_drewN ?_ _) | (with_reducible refine Kd.C_drew ?_))); (case side4 => exact HC1_5.out); rintro e w' ⟨rfl, ⟨nd, rfl⟩⟩; refine ⟨_, rfl, ?_⟩))
       go_ret
       exact ⟨by first | rfl | (simp [errW_none, errW_some] <;> rfl) | (simp [*, errW_none, errW_some] <;> rfl), by repeat (first | (with_reducible first | exact HB.out | apply below_alloc | apply pw_below_drewN | apply below_drew1 | refine below_set ?_ GE131.out | refine below_set ?_ GE132.out) | exact HB.out)⟩
      ·
       replace c9 := Bool.eq_false_iff.mpr c9
       subst c9
       have H1 : (some false) = some r := by rw [if_neg (show ¬ (false = true) by decide)] at H; exact H
       clear H
       have H := H1
       clear H1
       obtain rfl := Option.some.inj H
       go_enter Try.func58, Try.ntmps58
       go_wp2_with (first | ((with_reducible refine gate_dst (N := 2) rfl ?_); refine box_event ?hg (N := 2) ?hd (cs := #[.int .i64 a0_0, .int .i64 a0_1, .int .i64 a0_2, .int .i64 a0_3, .int .i64 a0_4, .slice A0_5 l0_5.length c0_5]) (t := 61) ?hr ?_; (case hd => rfl); (case hg => rfl); (case hr => first | (go_simp; done) | (go_simp; rfl)); intro gb131 hg w15 hbox hb; have n0_ := Aside0.mk (below_step (by repeat (first | (with_reducible first | exact HB.out | apply below_alloc | apply pw_below_drewN | apply below_drew1) | exact HB.out)) hb); have n1_ := Aside0.mk (hbox); have n2_ := Aside0.mk ((by rw [hg]; exact (below_size (by repeat (first | (with_reducible first | exact HB.out | apply below_alloc | apply pw_below_drewN | apply below_drew1) | exact HB.out))) : w.heap.size ≤ gb131)); have n3_ := Aside0.mk ((by rw [hg]; exact (below_size (by repeat (first | (with_reducible first | exact HB.out | apply below_alloc | apply pw_below_drewN | apply below_drew1) | exact HB.out))) : w.heap.size ≤ gb131)); clear HB; have HB := n0_; have BK131 := n1_; have GW131 := n2_; have GE131 := n3_; clear n0_ n1_ n2_ n3_; clear hb hbox hg) | ((with_reducible refine gate_dst (N := 3) rfl ?_); refine box_event ?hg (N := 3) ?hd (cs := #[.int .i64 a1_0, .int .i64 a1_1, .int .i64 a1_2, .int .i64 a1_3, .int .i64 a1_4, .slice A1_5 l1_5.length c1_5]) (t := 61) ?hr ?_; (case hd => rfl); (case hg => rfl); (case hr => first | (go_simp; done) | (go_simp; rfl)); intro gb132 hg w16 hbox hb; have n0_ := Aside0.mk (blk_below (g := gb131) (o := .cells #[.int .i64 a0_0, .int .i64 a0_1, .int .i64 a0_2, .int .i64 a0_3, .int .i64 a0_4, .slice A0_5 l0_5.length c0_5] 61 (0, 0)) (by (with_reducible repeat (first | refine blk_drewN ?_ _ | refine blk_drew ?_ | refine blk_alloc ?_ _)); exact BK131.out) hb); have n1_ := Aside0.mk (below_step (by repeat (first | (with_reducible first | exact HB.out | apply below_alloc | apply pw_below_drewN | apply below_drew1 | refine below_set ?_ GE131.out) | exact HB.out)) hb); have n2_ := Aside0.mk (hbox); have n3_ := Aside0.mk ((by rw [hg]; exact (below_size (by repeat (first | (with_reducible first | exact HB.out | apply below_alloc | apply pw_below_drewN | apply below_drew1 | refine below_set ?_ GE131.out) | exact HB.out))) : w.heap.size ≤ gb132)); have n4_ := Aside0.mk ((by rw [hg]; exact (below_size (by repeat (first | (with_reducible first | exact HB.out | apply below_alloc | apply pw_below_drewN | apply below_drew1 | refine below_set ?_ GE131.out) | exact HB.out))) : w.heap.size ≤ gb132)); have n5_ := Aside0.mk ((by rw [hg]; exact Nat.ne_of_lt (blk_lt (g := gb131) (o := .cells #[.int .i64 a0_0, .int .i64 a0_1, .int .i64 a0_2, .int .i64 a0_3, .int .i64 a0_4, .slice A0_5 l0_5.length c0_5] 61 (0, 0)) (by (with_reducible repeat (first | refine blk_drewN ?_ _ | refine blk_drew ?_ | refine blk_alloc ?_ _)); exact BK131.out)) : gb131 ≠ gb132)); have n6_ := Aside0.mk ((by rw [hg]; exact Nat.ne_of_gt (blk_lt (g := gb131) (o := .cells #[.int .i64 a0_0, .int .i64 a0_1, .int .i64 a0_2, .int .i64 a0_3, .int .i64 a0_4, .slice A0_5 l0_5.length c0_5] 61 (0, 0)) (by (with_reducible repeat (first | refine blk_drewN ?_ _ | refine blk_drew ?_ | refine blk_alloc ?_ _)); exact BK131.out)) : gb132 ≠ gb131)); clear BK131; clear HB; have BK131 := n0_; have HB := n1_; have BK132 := n2_; have GW132 := n3_; have GE132 := n4_; have NB131_132 := n5_; have NB132_131 := n6_; clear n0_ n1_ n2_ n3_ n4_ n5_ n6_; clear hb hbox hg; have hnb17 := NB131_132.out; have hnc17 := NB132_131.out; have hcz18_0 : w16.cell? ⟨gb131, 0, none⟩ = some (.int .i64 a0_0) := (blk_cell BK131.out 0).trans rfl; have hcz18_1 : w16.cell? ⟨gb131, 1, none⟩ = some (.int .i64 a0_1) := (blk_cell BK131.out 1).trans rfl; have hcz18_2 : w16.cell? ⟨gb131, 2, none⟩ = some (.int .i64 a0_2) := (blk_cell BK131.out 2).trans rfl; have hcz18_3 : w16.cell? ⟨gb131, 3, none⟩ = some (.int .i64 a0_3) := (blk_cell BK131.out 3).trans rfl; have hcz18_4 : w16.cell? ⟨gb131, 4, none⟩ = some (.int .i64 a0_4) := (blk_cell BK131.out 4).trans rfl; have hcz18_5 : w16.cell? ⟨gb131, 5, none⟩ = some (.slice A0_5 l0_5.length c0_5) := (blk_cell BK131.out 5).trans rfl; have hfz18_0 := blk_frozen BK131.out 0; have hfz18_1 := blk_frozen BK131.out 1; have hfz18_2 := blk_frozen BK131.out 2; have hfz18_3 := blk_frozen BK131.out 3; have hfz18_4 := blk_frozen BK131.out 4; have hfz18_5 := blk_frozen BK131.out 5; have hcz19_0 : w16.cell? ⟨gb132, 0, none⟩ = some (.int .i64 a1_0) := (blk_cell BK132.out 0).trans rfl; have hcz19_1 : w16.cell? ⟨gb132, 1, none⟩ = some (.int .i64 a1_1) := (blk_cell BK132.out 1).trans rfl; have hcz19_2 : w16.cell? ⟨gb132, 2, none⟩ = some (.int .i64 a1_2) := (blk_cell BK132.out 2).trans rfl; have hcz19_3 : w16.cell? ⟨gb132, 3, none⟩ = some (.int .i64 a1_3) := (blk_cell BK132.out 3).trans rfl; have hcz19_4 : w16.cell? ⟨gb132, 4, none⟩ = some (.int .i64 a1_4) := (blk_cell BK132.out 4).trans rfl; have hcz19_5 : w16.cell? ⟨gb132, 5, none⟩ = some (.slice A1_5 l1_5.length c1_5) := (blk_cell BK132.out 5).trans rfl; have hfz19_0 := blk_frozen BK132.out 0; have hfz19_1 := blk_frozen BK132.out 1; have hfz19_2 := blk_frozen BK132.out 2; have hfz19_3 := blk_frozen BK132.out 3; have hfz19_4 := blk_frozen BK132.out 4; have hfz19_5 := blk_frozen BK132.out 5) | ((with_reducible refine gate_callee (f := 35) rfl ?_); refine goesL_ (some 34) rfl rfl Try.func35 (by kernel_rfl) rfl #[.slice A0_5 l0_5.length c0_5, .slice A1_5 l1_5.length c1_5] rfl (by (try simp only [List.map_toArray, List.map_cons, List.map_nil]); first | done | rfl | (simp only [List.length_drop, List.length_take]; rfl)) ?_; (with_reducible refine (laws_eqIntS.calls k _ _ l0_5 _ _ l1_5 false _ ?side1 ?side2 ?side3 ?side4 A8.out).mono ?_); (case side1 => repeat (first | exact (Kd.C_below HR0_5.out HB.out) | (with_reducible refine Kd.C_alloc ?_ _) | (with_reducible refine Kd.C_drewN ?_ _) | (with_reducible refine Kd.C_drew ?_))); (case side2 => exact HC0_5.out); (case side3 => repeat (first | exact (Kd.C_below HR1_5.out HB.out) | (with_reducible refine Kd.C_alloc ?_ _) | (with_reducible refine Kd.C_drewN ?_ _) | (with_reducible refine Kd.C_drew ?_))); (case side4 => exact HC1_5.out); rintro e w' ⟨rfl, ⟨nd, rfl⟩⟩; refine ⟨_, rfl, ?_⟩))
       go_ret
       exact ⟨by first | rfl | (simp [errW_none, errW_some] <;> rfl) | (simp [*, errW_none, errW_some] <;> rfl), by repeat (first | (with_reducible first | exact HB.out | apply below_alloc | apply pw_below_drewN | apply below_drew1 | refine below_set ?_ GE131.out | refine below_set ?_ GE132.out) | exact HB.out)⟩
     ·
      rw [if_neg c7] at H
      have c7b0 : (a0_4 == a1_4) = false := beq_eq_false_iff_ne.mpr c7
      have c7b1 : (a0_4 != a1_4) = true := bne_iff_ne.mpr c7
      obtain rfl := Option.some.inj H
      go_enter Try.func58, Try.ntmps58
      go_wp2_with (first | ((with_reducible refine gate_dst (N := 2) rfl ?_); refine box_event ?hg (N := 2) ?hd (cs := #[.int .i64 a0_0, .int .i64 a0_1, .int .i64 a0_2, .int .i64 a0_3, .int .i64 a0_4, .slice A0_5 l0_5.length c0_5]) (t := 61) ?hr ?_; (case hd => rfl); (case hg => rfl); (case hr => first | (go_simp; done) | (go_simp; rfl)); intro gb131 hg w20 hbox hb; have n0_ := Aside0.mk (below_step (by repeat (first | (with_reducible first | exact HB.out | apply below_alloc | apply pw_below_drewN | apply below_drew1) | exact HB.out)) hb); have n1_ := Aside0.mk (hbox); have n2_ := Aside0.mk ((by rw [hg]; exact (below_size (by repeat (first | (with_reducible first | exact HB.out | apply below_alloc | apply pw_below_drewN | apply below_drew1) | exact HB.out))) : w.heap.size ≤ gb131)); have n3_ := Aside0.mk ((by rw [hg]; exact (below_size (by repeat (first | (with_reducible first | exact HB.out | apply below_alloc | apply pw_below_drewN | apply below_drew1) | exact HB.out))) : w.heap.size ≤ gb131)); clear HB; have HB := n0_; have BK131 := n1_; have GW131 := n2_; have GE131 := n3_; clear n0_ n1_ n2_ n3_; clear hb hbox hg) | ((with_reducible refine gate_dst (N := 3) rfl ?_); refine box_event ?hg (N := 3) ?hd (cs := #[.int .i64 a1_0, .int .i64 a1_1, .int .i64 a1_2, .int .i64 a1_3, .int .i64 a1_4, .slice A1_5 l1_5.length c1_5]) (t := 61) ?hr ?_; (case hd => rfl); (case hg => rfl); (case hr => first | (go_simp; done) | (go_simp; rfl)); intro gb132 hg w21 hbox hb; have n0_ := Aside0.mk (blk_below (g := gb131) (o := .cells #[.int .i64 a0_0, .int .i64 a0_1, .int .i64 a0_2, .int .i64 a0_3, .int .i64 a0_4, .slice A0_5 l0_5.length c0_5] 61 (0, 0)) (by (with_reducible repeat (first | refine blk_drewN ?_ _ | refine blk_drew ?_ | refine blk_alloc ?_ _)); exact BK131.out) hb); have n1_ := Aside0.mk (below_step (by repeat (first | (with_reducible first | exact HB.out | apply below_alloc | apply pw_below_drewN | apply below_drew1 | refine below_set ?_ GE131.out) | exact HB.out)) hb); have n2_ := Aside0.mk (hbox); have n3_ := Aside0.mk ((by rw [hg]; exact (below_size (by repeat (first | (with_reducible first | exact HB.out | apply below_alloc | apply pw_below_drewN | apply below_drew1 | refine below_set ?_ GE131.out) | exact HB.out))) : w.heap.size ≤ gb132)); have n4_ := Aside0.mk ((by rw [hg]; exact (below_size (by repeat (first | (with_reducible first | exact HB.out | apply below_alloc | apply pw_below_drewN | apply below_drew1 | refine below_set ?_ GE131.out) | exact HB.out))) : w.heap.size ≤ gb132)); have n5_ := Aside0.mk ((by rw [hg]; exact Nat.ne_of_lt (blk_lt (g := gb131) (o := .cells #[.int .i64 a0_0, .int .i64 a0_1, .int .i64 a0_2, .int .i64 a0_3, .int .i64 a0_4, .slice A0_5 l0_5.length c0_5] 61 (0, 0)) (by (with_reducible repeat (first | refine blk_drewN ?_ _ | refine blk_drew ?_ | refine blk_alloc ?_ _)); exact BK131.out)) : gb131 ≠ gb132)); have n6_ := Aside0.mk ((by rw [hg]; exact Nat.ne_of_gt (blk_lt (g := gb131) (o := .cells #[.int .i64 a0_0, .int .i64 a0_1, .int .i64 a0_2, .int .i64 a0_3, .int .i64 a0_4, .slice A0_5 l0_5.length c0_5] 61 (0, 0)) (by (with_reducible repeat (first | refine blk_drewN ?_ _ | refine blk_drew ?_ | refine blk_alloc ?_ _)); exact BK131.out)) : gb132 ≠ gb131)); clear BK131; clear HB; have BK131 := n0_; have HB := n1_; have BK132 := n2_; have GW132 := n3_; have GE132 := n4_; have NB131_132 := n5_; have NB132_131 := n6_; clear n0_ n1_ n2_ n3_ n4_ n5_ n6_; clear hb hbox hg; have hnb22 := NB131_132.out; have hnc22 := NB132_131.out; have hcz23_0 : w21.cell? ⟨gb131, 0, none⟩ = some (.int .i64 a0_0) := (blk_cell BK131.out 0).trans rfl; have hcz23_1 : w21.cell? ⟨gb131, 1, none⟩ = some (.int .i64 a0_1) := (blk_cell BK131.out 1).trans rfl; have hcz23_2 : w21.cell? ⟨gb131, 2, none⟩ = some (.int .i64 a0_2) := (blk_cell BK131.out 2).trans rfl; have hcz23_3 : w21.cell? ⟨gb131, 3, none⟩ = some (.int .i64 a0_3) := (blk_cell BK131.out 3).trans rfl; have hcz23_4 : w21.cell? ⟨gb131, 4, none⟩ = some (.int .i64 a0_4) := (blk_cell BK131.out 4).trans rfl; have hcz23_5 : w21.cell? ⟨gb131, 5, none⟩ = some (.slice A0_5 l0_5.length c0_5) := (blk_cell BK131.out 5).trans rfl; have hfz23_0 := blk_frozen BK131.out 0; have hfz23_1 := blk_frozen BK131.out 1; have hfz23_2 := blk_frozen BK131.out 2; have hfz23_3 := blk_frozen BK131.out 3; have hfz23_4 := blk_frozen BK131.out 4; have hfz23_5 := blk_frozen BK131.out 5; have hcz24_0 : w21.cell? ⟨gb132, 0, none⟩ = some (.int .i64 a1_0) := (blk_cell BK132.out 0).trans rfl; have hcz24_1 : w21.cell? ⟨gb132, 1, none⟩ = some (.int .i64 a1_1) := (blk_cell BK132.out 1).trans rfl; have hcz24_2 : w21.cell? ⟨gb132, 2, none⟩ = some (.int .i64 a1_2) := (blk_cell BK132.out 2).trans rfl; have hcz24_3 : w21.cell? ⟨gb132, 3, none⟩ = some (.int .i64 a1_3) := (blk_cell BK132.out 3).trans rfl; have hcz24_4 : w21.cell? ⟨gb132, 4, none⟩ = some (.int .i64 a1_4) := (blk_cell BK132.out 4).trans rfl; have hcz24_5 : w21.cell? ⟨gb132, 5, none⟩ = some (.slice A1_5 l1_5.length c1_5) := (blk_cell BK132.out 5).trans rfl; have hfz24_0 := blk_frozen BK132.out 0; have hfz24_1 := blk_frozen BK132.out 1; have hfz24_2 := blk_frozen BK132.out 2; have hfz24_3 := blk_frozen BK132.out 3; have hfz24_4 := blk_frozen BK132.out 4; have hfz24_5 := blk_frozen BK132.out 5))
      go_ret
      exact ⟨by first | rfl | (simp [errW_none, errW_some] <;> rfl) | (simp [*, errW_none, errW_some] <;> rfl), by repeat (first | (with_reducible first | exact HB.out | apply below_alloc | apply pw_below_drewN | apply below_drew1 | refine below_set ?_ GE131.out | refine below_set ?_ GE132.out) | exact HB.out)⟩
    ·
     rw [if_neg c6] at H
     have c6b0 : (a0_3 == a1_3) = false := beq_eq_false_iff_ne.mpr c6
     have c6b1 : (a0_3 != a1_3) = true := bne_iff_ne.mpr c6
     obtain rfl := Option.some.inj H
     go_enter Try.func58, Try.ntmps58
     go_wp2_with (first | ((with_reducible refine gate_dst (N := 2) rfl ?_); refine box_event ?hg (N := 2) ?hd (cs := #[.int .i64 a0_0, .int .i64 a0_1, .int .i64 a0_2, .int .i64 a0_3, .int .i64 a0_4, .slice A0_5 l0_5.length c0_5]) (t := 61) ?hr ?_; (case hd => rfl); (case hg => rfl); (case hr => first | (go_simp; done) | (go_simp; rfl)); intro gb131 hg w25 hbox hb; have n0_ := Aside0.mk (below_step (by repeat (first | (with_reducible first | exact HB.out | apply below_alloc | apply pw_below_drewN | apply below_drew1) | exact HB.out)) hb); have n1_ := Aside0.mk (hbox); have n2_ := Aside0.mk ((by rw [hg]; exact (below_size (by repeat (first | (with_reducible first | exact HB.out | apply below_alloc | apply pw_below_drewN | apply below_drew1) | exact HB.out))) : w.heap.size ≤ gb131)); have n3_ := Aside0.mk ((by rw [hg]; exact (below_size (by repeat (first | (with_reducible first | exact HB.out | apply below_alloc | apply pw_below_drewN | apply below_drew1) | exact HB.out))) : w.heap.size ≤ gb131)); clear HB; have HB := n0_; have BK131 := n1_; have GW131 := n2_; have GE131 := n3_; clear n0_ n1_ n2_ n3_; clear hb hbox hg) | ((with_reducible refine gate_dst (N := 3) rfl ?_); refine box_event ?hg (N := 3) ?hd (cs := #[.int .i64 a1_0, .int .i64 a1_1, .int .i64 a1_2, .int .i64 a1_3, .int .i64 a1_4, .slice A1_5 l1_5.length c1_5]) (t := 61) ?hr ?_; (case hd => rfl); (case hg => rfl); (case hr => first | (go_simp; done) | (go_simp; rfl)); intro gb132 hg w26 hbox hb; have n0_ := Aside0.mk (blk_below (g := gb131) (o := .cells #[.int .i64 a0_0, .int .i64 a0_1, .int .i64 a0_2, .int .i64 a0_3, .int .i64 a0_4, .slice A0_5 l0_5.length c0_5] 61 (0, 0)) (by (with_reducible repeat (first | refine blk_drewN ?_ _ | refine blk_drew ?_ | refine blk_alloc ?_ _)); exact BK131.out) hb); have n1_ := Aside0.mk (below_step (by repeat (first | (with_reducible first | exact HB.out | apply below_alloc | apply pw_below_drewN | apply below_drew1 | refine below_set ?_ GE131.out) | exact HB.out)) hb); have n2_ := Aside0.mk (hbox); have n3_ := Aside0.mk ((by rw [hg]; exact (below_size (by repeat (first | (with_reducible first | exact HB.out | apply below_alloc | apply pw_below_drewN | apply below_drew1 | refine below_set ?_ GE131.out) | exact HB.out))) : w.heap.size ≤ gb132)); have n4_ := Aside0.mk ((by rw [hg]; exact (below_size (by repeat (first | (with_reducible first | exact HB.out | apply below_alloc | apply pw_below_drewN | apply below_drew1 | refine below_set ?_ GE131.out) | exact HB.out))) : w.heap.size ≤ gb132)); have n5_ := Aside0.mk ((by rw [hg]; exact Nat.ne_of_lt (blk_lt (g := gb131) (o := .cells #[.int .i64 a0_0, .int .i64 a0_1, .int .i64 a0_2, .int .i64 a0_3, .int .i64 a0_4, .slice A0_5 l0_5.length c0_5] 61 (0, 0)) (by (with_reducible repeat (first | refine blk_drewN ?_ _ | refine blk_drew ?_ | refine blk_alloc ?_ _)); exact BK131.out)) : gb131 ≠ gb132)); have n6_ := Aside0.mk ((by rw [hg]; exact Nat.ne_of_gt (blk_lt (g := gb131) (o := .cells #[.int .i64 a0_0, .int .i64 a0_1, .int .i64 a0_2, .int .i64 a0_3, .int .i64 a0_4, .slice A0_5 l0_5.length c0_5] 61 (0, 0)) (by (with_reducible repeat (first | refine blk_drewN ?_ _ | refine blk_drew ?_ | refine blk_alloc ?_ _)); exact BK131.out)) : gb132 ≠ gb131)); clear BK131; clear HB; have BK131 := n0_; have HB := n1_; have BK132 := n2_; have GW132 := n3_; have GE132 := n4_; have NB131_132 := n5_; have NB132_131 := n6_; clear n0_ n1_ n2_ n3_ n4_ n5_ n6_; clear hb hbox hg; have hnb27 := NB131_132.out; have hnc27 := NB132_131.out; have hcz28_0 : w26.cell? ⟨gb131, 0, none⟩ = some (.int .i64 a0_0) := (blk_cell BK131.out 0).trans rfl; have hcz28_1 : w26.cell? ⟨gb131, 1, none⟩ = some (.int .i64 a0_1) := (blk_cell BK131.out 1).trans rfl; have hcz28_2 : w26.cell? ⟨gb131, 2, none⟩ = some (.int .i64 a0_2) := (blk_cell BK131.out 2).trans rfl; have hcz28_3 : w26.cell? ⟨gb131, 3, none⟩ = some (.int .i64 a0_3) := (blk_cell BK131.out 3).trans rfl; have hcz28_4 : w26.cell? ⟨gb131, 4, none⟩ = some (.int .i64 a0_4) := (blk_cell BK131.out 4).trans rfl; have hcz28_5 : w26.cell? ⟨gb131, 5, none⟩ = some (.slice A0_5 l0_5.length c0_5) := (blk_cell BK131.out 5).trans rfl; have hfz28_0 := blk_frozen BK131.out 0; have hfz28_1 := blk_frozen BK131.out 1; have hfz28_2 := blk_frozen BK131.out 2; have hfz28_3 := blk_frozen BK131.out 3; have hfz28_4 := blk_frozen BK131.out 4; have hfz28_5 := blk_frozen BK131.out 5; have hcz29_0 : w26.cell? ⟨gb132, 0, none⟩ = some (.int .i64 a1_0) := (blk_cell BK132.out 0).trans rfl; have hcz29_1 : w26.cell? ⟨gb132, 1, none⟩ = some (.int .i64 a1_1) := (blk_cell BK132.out 1).trans rfl; have hcz29_2 : w26.cell? ⟨gb132, 2, none⟩ = some (.int .i64 a1_2) := (blk_cell BK132.out 2).trans rfl; have hcz29_3 : w26.cell? ⟨gb132, 3, none⟩ = some (.int .i64 a1_3) := (blk_cell BK132.out 3).trans rfl; have hcz29_4 : w26.cell? ⟨gb132, 4, none⟩ = some (.int .i64 a1_4) := (blk_cell BK132.out 4).trans rfl; have hcz29_5 : w26.cell? ⟨gb132, 5, none⟩ = some (.slice A1_5 l1_5.length c1_5) := (blk_cell BK132.out 5).trans rfl; have hfz29_0 := blk_frozen BK132.out 0; have hfz29_1 := blk_frozen BK132.out 1; have hfz29_2 := blk_frozen BK132.out 2; have hfz29_3 := blk_frozen BK132.out 3; have hfz29_4 := blk_frozen BK132.out 4; have hfz29_5 := blk_frozen BK132.out 5))
     go_ret
     exact ⟨by first | rfl | (simp [errW_none, errW_some] <;> rfl) | (simp [*, errW_none, errW_some] <;> rfl), by repeat (first | (with_reducible first | exact HB.out | apply below_alloc | apply pw_below_drewN | apply below_drew1 | refine below_set ?_ GE131.out | refine below_set ?_ GE132.out) | exact HB.out)⟩
   ·
    rw [if_neg c5] at H
    have c5b0 : (a0_2 == a1_2) = false := beq_eq_false_iff_ne.mpr c5
    have c5b1 : (a0_2 != a1_2) = true := bne_iff_ne.mpr c5
    obtain rfl := Option.some.inj H
    go_enter Try.func58, Try.ntmps58
    go_wp2_with (first | ((with_reducible refine gate_dst (N := 2) rfl ?_); refine box_event ?hg (N := 2) ?hd (cs := #[.int .i64 a0_0, .int .i64 a0_1, .int .i64 a0_2, .int .i64 a0_3, .int .i64 a0_4, .slice A0_5 l0_5.length c0_5]) (t := 61) ?hr ?_; (case hd => rfl); (case hg => rfl); (case hr => first | (go_simp; done) | (go_simp; rfl)); intro gb131 hg w30 hbox hb; have n0_ := Aside0.mk (below_step (by repeat (first | (with_reducible first | exact HB.out | apply below_alloc | apply pw_below_drewN | apply below_drew1) | exact HB.out)) hb); have n1_ := Aside0.mk (hbox); have n2_ := Aside0.mk ((by rw [hg]; exact (below_size (by repeat (first | (with_reducible first | exact HB.out | apply below_alloc | apply pw_below_drewN | apply below_drew1) | exact HB.out))) : w.heap.size ≤ gb131)); have n3_ := Aside0.mk ((by rw [hg]; exact (below_size (by repeat (first | (with_reducible first | exact HB.out | apply below_alloc | apply pw_below_drewN | apply below_drew1) | exact HB.out))) : w.heap.size ≤ gb131)); clear HB; have HB := n0_; have BK131 := n1_; have GW131 := n2_; have GE131 := n3_; clear n0_ n1_ n2_ n3_; clear hb hbox hg) | ((with_reducible refine gate_dst (N := 3) rfl ?_); refine box_event ?hg (N := 3) ?hd (cs := #[.int .i64 a1_0, .int .i64 a1_1, .int .i64 a1_2, .int .i64 a1_3, .int .i64 a1_4, .slice A1_5 l1_5.length c1_5]) (t := 61) ?hr ?_; (case hd => rfl); (case hg => rfl); (case hr => first | (go_simp; done) | (go_simp; rfl)); intro gb132 hg w31 hbox hb; have n0_ := Aside0.mk (blk_below (g := gb131) (o := .cells #[.int .i64 a0_0, .int .i64 a0_1, .int .i64 a0_2, .int .i64 a0_3, .int .i64 a0_4, .slice A0_5 l0_5.length c0_5] 61 (0, 0)) (by (with_reducible repeat (first | refine blk_drewN ?_ _ | refine blk_drew ?_ | refine blk_alloc ?_ _)); exact BK131.out) hb); have n1_ := Aside0.mk (below_step (by repeat (first | (with_reducible first | exact HB.out | apply below_alloc | apply pw_below_drewN | apply below_drew1 | refine below_set ?_ GE131.out) | exact HB.out)) hb); have n2_ := Aside0.mk (hbox); have n3_ := Aside0.mk ((by rw [hg]; exact (below_size (by repeat (first | (with_reducible first | exact HB.out | apply below_alloc | apply pw_below_drewN | apply below_drew1 | refine below_set ?_ GE131.out) | exact HB.out))) : w.heap.size ≤ gb132)); have n4_ := Aside0.mk ((by rw [hg]; exact (below_size (by repeat (first | (with_reducible first | exact HB.out | apply below_alloc | apply pw_below_drewN | apply below_drew1 | refine below_set ?_ GE131.out) | exact HB.out))) : w.heap.size ≤ gb132)); have n5_ := Aside0.mk ((by rw [hg]; exact Nat.ne_of_lt (blk_lt (g := gb131) (o := .cells #[.int .i64 a0_0, .int .i64 a0_1, .int .i64 a0_2, .int .i64 a0_3, .int .i64 a0_4, .slice A0_5 l0_5.length c0_5] 61 (0, 0)) (by (with_reducible repeat (first | refine blk_drewN ?_ _ | refine blk_drew ?_ | refine blk_alloc ?_ _)); exact BK131.out)) : gb131 ≠ gb132)); have n6_ := Aside0.mk ((by rw [hg]; exact Nat.ne_of_gt (blk_lt (g := gb131) (o := .cells #[.int .i64 a0_0, .int .i64 a0_1, .int .i64 a0_2, .int .i64 a0_3, .int .i64 a0_4, .slice A0_5 l0_5.length c0_5] 61 (0, 0)) (by (with_reducible repeat (first | refine blk_drewN ?_ _ | refine blk_drew ?_ | refine blk_alloc ?_ _)); exact BK131.out)) : gb132 ≠ gb131)); clear BK131; clear HB; have BK131 := n0_; have HB := n1_; have BK132 := n2_; have GW132 := n3_; have GE132 := n4_; have NB131_132 := n5_; have NB132_131 := n6_; clear n0_ n1_ n2_ n3_ n4_ n5_ n6_; clear hb hbox hg; have hnb32 := NB131_132.out; have hnc32 := NB132_131.out; have hcz33_0 : w31.cell? ⟨gb131, 0, none⟩ = some (.int .i64 a0_0) := (blk_cell BK131.out 0).trans rfl; have hcz33_1 : w31.cell? ⟨gb131, 1, none⟩ = some (.int .i64 a0_1) := (blk_cell BK131.out 1).trans rfl; have hcz33_2 : w31.cell? ⟨gb131, 2, none⟩ = some (.int .i64 a0_2) := (blk_cell BK131.out 2).trans rfl; have hcz33_3 : w31.cell? ⟨gb131, 3, none⟩ = some (.int .i64 a0_3) := (blk_cell BK131.out 3).trans rfl; have hcz33_4 : w31.cell? ⟨gb131, 4, none⟩ = some (.int .i64 a0_4) := (blk_cell BK131.out 4).trans rfl; have hcz33_5 : w31.cell? ⟨gb131, 5, none⟩ = some (.slice A0_5 l0_5.length c0_5) := (blk_cell BK131.out 5).trans rfl; have hfz33_0 := blk_frozen BK131.out 0; have hfz33_1 := blk_frozen BK131.out 1; have hfz33_2 := blk_frozen BK131.out 2; have hfz33_3 := blk_frozen BK131.out 3; have hfz33_4 := blk_frozen BK131.out 4; have hfz33_5 := blk_frozen BK131.out 5; have hcz34_0 : w31.cell? ⟨gb132, 0, none⟩ = some (.int .i64 a1_0) := (blk_cell BK132.out 0).trans rfl; have hcz34_1 : w31.cell? ⟨gb132, 1, none⟩ = some (.int .i64 a1_1) := (blk_cell BK132.out 1).trans rfl; have hcz34_2 : w31.cell? ⟨gb132, 2, none⟩ = some (.int .i64 a1_2) := (blk_cell BK132.out 2).trans rfl; have hcz34_3 : w31.cell? ⟨gb132, 3, none⟩ = some (.int .i64 a1_3) := (blk_cell BK132.out 3).trans rfl; have hcz34_4 : w31.cell? ⟨gb132, 4, none⟩ = some (.int .i64 a1_4) := (blk_cell BK132.out 4).trans rfl; have hcz34_5 : w31.cell? ⟨gb132, 5, none⟩ = some (.slice A1_5 l1_5.length c1_5) := (blk_cell BK132.out 5).trans rfl; have hfz34_0 := blk_frozen BK132.out 0; have hfz34_1 := blk_frozen BK132.out 1; have hfz34_2 := blk_frozen BK132.out 2; have hfz34_3 := blk_frozen BK132.out 3; have hfz34_4 := blk_frozen BK132.out 4; have hfz34_5 := blk_frozen BK132.out 5))
    go_ret
    exact ⟨by first | rfl | (simp [errW_none, errW_some] <;> rfl) | (simp [*, errW_none, errW_some] <;> rfl), by repeat (first | (with_reducible first | exact HB.out | apply below_alloc | apply pw_below_drewN | apply below_drew1 | refine below_set ?_ GE131.out | refine below_set ?_ GE132.out) | exact HB.out)⟩
  ·
   rw [if_neg c4] at H
   have c4b0 : (a0_1 == a1_1) = false := beq_eq_false_iff_ne.mpr c4
   have c4b1 : (a0_1 != a1_1) = true := bne_iff_ne.mpr c4
   obtain rfl := Option.some.inj H
   go_enter Try.func58, Try.ntmps58
   go_wp2_with (first | ((with_reducible refine gate_dst (N := 2) rfl ?_); refine box_event ?hg (N := 2) ?hd (cs := #[.int .i64 a0_0, .int .i64 a0_1, .int .i64 a0_2, .int .i64 a0_3, .int .i64 a0_4, .slice A0_5 l0_5.length c0_5]) (t := 61) ?hr ?_; (case hd => rfl); (case hg => rfl); (case hr => first | (go_simp; done) | (go_simp; rfl)); intro gb131 hg w35 hbox hb; have n0_ := Aside0.mk (below_step (by repeat (first | (with_reducible first | exact HB.out | apply below_alloc | apply pw_below_drewN | apply below_drew1) | exact HB.out)) hb); have n1_ := Aside0.mk (hbox); have n2_ := Aside0.mk ((by rw [hg]; exact (below_size (by repeat (first | (with_reducible first | exact HB.out | apply below_alloc | apply pw_below_drewN | apply below_drew1) | exact HB.out))) : w.heap.size ≤ gb131)); have n3_ := Aside0.mk ((by rw [hg]; exact (below_size (by repeat (first | (with_reducible first | exact HB.out | apply below_alloc | apply pw_below_drewN | apply below_drew1) | exact HB.out))) : w.heap.size ≤ gb131)); clear HB; have HB := n0_; have BK131 := n1_; have GW131 := n2_; have GE131 := n3_; clear n0_ n1_ n2_ n3_; clear hb hbox hg) | ((with_reducible refine gate_dst (N := 3) rfl ?_); refine box_event ?hg (N := 3) ?hd (cs := #[.int .i64 a1_0, .int .i64 a1_1, .int .i64 a1_2, .int .i64 a1_3, .int .i64 a1_4, .slice A1_5 l1_5.length c1_5]) (t := 61) ?hr ?_; (case hd => rfl); (case hg => rfl); (case hr => first | (go_simp; done) | (go_simp; rfl)); intro gb132 hg w36 hbox hb; have n0_ := Aside0.mk (blk_below (g := gb131) (o := .cells #[.int .i64 a0_0, .int .i64 a0_1, .int .i64 a0_2, .int .i64 a0_3, .int .i64 a0_4, .slice A0_5 l0_5.length c0_5] 61 (0, 0)) (by (with_reducible repeat (first | refine blk_drewN ?_ _ | refine blk_drew ?_ | refine blk_alloc ?_ _)); exact BK131.out) hb); have n1_ := Aside0.mk (below_step (by repeat (first | (with_reducible first | exact HB.out | apply below_alloc | apply pw_below_drewN | apply below_drew1 | refine below_set ?_ GE131.out) | exact HB.out)) hb); have n2_ := Aside0.mk (hbox); have n3_ := Aside0.mk ((by rw [hg]; exact (below_size (by repeat (first | (with_reducible first | exact HB.out | apply below_alloc | apply pw_below_drewN | apply below_drew1 | refine below_set ?_ GE131.out) | exact HB.out))) : w.heap.size ≤ gb132)); have n4_ := Aside0.mk ((by rw [hg]; exact (below_size (by repeat (first | (with_reducible first | exact HB.out | apply below_alloc | apply pw_below_drewN | apply below_drew1 | refine below_set ?_ GE131.out) | exact HB.out))) : w.heap.size ≤ gb132)); have n5_ := Aside0.mk ((by rw [hg]; exact Nat.ne_of_lt (blk_lt (g := gb131) (o := .cells #[.int .i64 a0_0, .int .i64 a0_1, .int .i64 a0_2, .int .i64 a0_3, .int .i64 a0_4, .slice A0_5 l0_5.length c0_5] 61 (0, 0)) (by (with_reducible repeat (first | refine blk_drewN ?_ _ | refine blk_drew ?_ | refine blk_alloc ?_ _)); exact BK131.out)) : gb131 ≠ gb132)); have n6_ := Aside0.mk ((by rw [hg]; exact Nat.ne_of_gt (blk_lt (g := gb131) (o := .cells #[.int .i64 a0_0, .int .i64 a0_1, .int .i64 a0_2, .int .i64 a0_3, .int .i64 a0_4, .slice A0_5 l0_5.length c0_5] 61 (0, 0)) (by (with_reducible repeat (first | refine blk_drewN ?_ _ | refine blk_drew ?_ | refine blk_alloc ?_ _)); exact BK131.out)) : gb132 ≠ gb131)); clear BK131; clear HB; have BK131 := n0_; have HB := n1_; have BK132 := n2_; have GW132 := n3_; have GE132 := n4_; have NB131_132 := n5_; have NB132_131 := n6_; clear n0_ n1_ n2_ n3_ n4_ n5_ n6_; clear hb hbox hg; have hnb37 := NB131_132.out; have hnc37 := NB132_131.out; have hcz38_0 : w36.cell? ⟨gb131, 0, none⟩ = some (.int .i64 a0_0) := (blk_cell BK131.out 0).trans rfl; have hcz38_1 : w36.cell? ⟨gb131, 1, none⟩ = some (.int .i64 a0_1) := (blk_cell BK131.out 1).trans rfl; have hcz38_2 : w36.cell? ⟨gb131, 2, none⟩ = some (.int .i64 a0_2) := (blk_cell BK131.out 2).trans rfl; have hcz38_3 : w36.cell? ⟨gb131, 3, none⟩ = some (.int .i64 a0_3) := (blk_cell BK131.out 3).trans rfl; have hcz38_4 : w36.cell? ⟨gb131, 4, none⟩ = some (.int .i64 a0_4) := (blk_cell BK131.out 4).trans rfl; have hcz38_5 : w36.cell? ⟨gb131, 5, none⟩ = some (.slice A0_5 l0_5.length c0_5) := (blk_cell BK131.out 5).trans rfl; have hfz38_0 := blk_frozen BK131.out 0; have hfz38_1 := blk_frozen BK131.out 1; have hfz38_2 := blk_frozen BK131.out 2; have hfz38_3 := blk_frozen BK131.out 3; have hfz38_4 := blk_frozen BK131.out 4; have hfz38_5 := blk_frozen BK131.out 5; have hcz39_0 : w36.cell? ⟨gb132, 0, none⟩ = some (.int .i64 a1_0) := (blk_cell BK132.out 0).trans rfl; have hcz39_1 : w36.cell? ⟨gb132, 1, none⟩ = some (.int .i64 a1_1) := (blk_cell BK132.out 1).trans rfl; have hcz39_2 : w36.cell? ⟨gb132, 2, none⟩ = some (.int .i64 a1_2) := (blk_cell BK132.out 2).trans rfl; have hcz39_3 : w36.cell? ⟨gb132, 3, none⟩ = some (.int .i64 a1_3) := (blk_cell BK132.out 3).trans rfl; have hcz39_4 : w36.cell? ⟨gb132, 4, none⟩ = some (.int .i64 a1_4) := (blk_cell BK132.out 4).trans rfl; have hcz39_5 : w36.cell? ⟨gb132, 5, none⟩ = some (.slice A1_5 l1_5.length c1_5) := (blk_cell BK132.out 5).trans rfl; have hfz39_0 := blk_frozen BK132.out 0; have hfz39_1 := blk_frozen BK132.out 1; have hfz39_2 := blk_frozen BK132.out 2; have hfz39_3 := blk_frozen BK132.out 3; have hfz39_4 := blk_frozen BK132.out 4; have hfz39_5 := blk_frozen BK132.out 5))
   go_ret
   exact ⟨by first | rfl | (simp [errW_none, errW_some] <;> rfl) | (simp [*, errW_none, errW_some] <;> rfl), by repeat (first | (with_reducible first | exact HB.out | apply below_alloc | apply pw_below_drewN | apply below_drew1 | refine below_set ?_ GE131.out | refine below_set ?_ GE132.out) | exact HB.out)⟩
 ·
  rw [if_neg c3] at H
  have c3b0 : (a0_0 == a1_0) = false := beq_eq_false_iff_ne.mpr c3
  have c3b1 : (a0_0 != a1_0) = true := bne_iff_ne.mpr c3
  obtain rfl := Option.some.inj H
  go_enter Try.func58, Try.ntmps58
  go_wp2_with (first | ((with_reducible refine gate_dst (N := 2) rfl ?_); refine box_event ?hg (N := 2) ?hd (cs := #[.int .i64 a0_0, .int .i64 a0_1, .int .i64 a0_2, .int .i64 a0_3, .int .i64 a0_4, .slice A0_5 l0_5.length c0_5]) (t := 61) ?hr ?_; (case hd => rfl); (case hg => rfl); (case hr => first | (go_simp; done) | (go_simp; rfl)); intro gb131 hg w40 hbox hb; have n0_ := Aside0.mk (below_step (by repeat (first | (with_reducible first | exact HB.out | apply below_alloc | apply pw_below_drewN | apply below_drew1) | exact HB.out)) hb); have n1_ := Aside0.mk (hbox); have n2_ := Aside0.mk ((by rw [hg]; exact (below_size (by repeat (first | (with_reducible first | exact HB.out | apply below_alloc | apply pw_below_drewN | apply below_drew1) | exact HB.out))) : w.heap.size ≤ gb131)); have n3_ := Aside0.mk ((by rw [hg]; exact (below_size (by repeat (first | (with_reducible first | exact HB.out | apply below_alloc | apply pw_below_drewN | apply below_drew1) | exact HB.out))) : w.heap.size ≤ gb131)); clear HB; have HB := n0_; have BK131 := n1_; have GW131 := n2_; have GE131 := n3_; clear n0_ n1_ n2_ n3_; clear hb hbox hg) | ((with_reducible refine gate_dst (N := 3) rfl ?_); refine box_event ?hg (N := 3) ?hd (cs := #[.int .i64 a1_0, .int .i64 a1_1, .int .i64 a1_2, .int .i64 a1_3, .int .i64 a1_4, .slice A1_5 l1_5.length c1_5]) (t := 61) ?hr ?_; (case hd => rfl); (case hg => rfl); (case hr => first | (go_simp; done) | (go_simp; rfl)); intro gb132 hg w41 hbox hb; have n0_ := Aside0.mk (blk_below (g := gb131) (o := .cells #[.int .i64 a0_0, .int .i64 a0_1, .int .i64 a0_2, .int .i64 a0_3, .int .i64 a0_4, .slice A0_5 l0_5.length c0_5] 61 (0, 0)) (by (with_reducible repeat (first | refine blk_drewN ?_ _ | refine blk_drew ?_ | refine blk_alloc ?_ _)); exact BK131.out) hb); have n1_ := Aside0.mk (below_step (by repeat (first | (with_reducible first | exact HB.out | apply below_alloc | apply pw_below_drewN | apply below_drew1 | refine below_set ?_ GE131.out) | exact HB.out)) hb); have n2_ := Aside0.mk (hbox); have n3_ := Aside0.mk ((by rw [hg]; exact (below_size (by repeat (first | (with_reducible first | exact HB.out | apply below_alloc | apply pw_below_drewN | apply below_drew1 | refine below_set ?_ GE131.out) | exact HB.out))) : w.heap.size ≤ gb132)); have n4_ := Aside0.mk ((by rw [hg]; exact (below_size (by repeat (first | (with_reducible first | exact HB.out | apply below_alloc | apply pw_below_drewN | apply below_drew1 | refine below_set ?_ GE131.out) | exact HB.out))) : w.heap.size ≤ gb132)); have n5_ := Aside0.mk ((by rw [hg]; exact Nat.ne_of_lt (blk_lt (g := gb131) (o := .cells #[.int .i64 a0_0, .int .i64 a0_1, .int .i64 a0_2, .int .i64 a0_3, .int .i64 a0_4, .slice A0_5 l0_5.length c0_5] 61 (0, 0)) (by (with_reducible repeat (first | refine blk_drewN ?_ _ | refine blk_drew ?_ | refine blk_alloc ?_ _)); exact BK131.out)) : gb131 ≠ gb132)); have n6_ := Aside0.mk ((by rw [hg]; exact Nat.ne_of_gt (blk_lt (g := gb131) (o := .cells #[.int .i64 a0_0, .int .i64 a0_1, .int .i64 a0_2, .int .i64 a0_3, .int .i64 a0_4, .slice A0_5 l0_5.length c0_5] 61 (0, 0)) (by (with_reducible repeat (first | refine blk_drewN ?_ _ | refine blk_drew ?_ | refine blk_alloc ?_ _)); exact BK131.out)) : gb132 ≠ gb131)); clear BK131; clear HB; have BK131 := n0_; have HB := n1_; have BK132 := n2_; have GW132 := n3_; have GE132 := n4_; have NB131_132 := n5_; have NB132_131 := n6_; clear n0_ n1_ n2_ n3_ n4_ n5_ n6_; clear hb hbox hg; have hnb42 := NB131_132.out; have hnc42 := NB132_131.out; have hcz43_0 : w41.cell? ⟨gb131, 0, none⟩ = some (.int .i64 a0_0) := (blk_cell BK131.out 0).trans rfl; have hcz43_1 : w41.cell? ⟨gb131, 1, none⟩ = some (.int .i64 a0_1) := (blk_cell BK131.out 1).trans rfl; have hcz43_2 : w41.cell? ⟨gb131, 2, none⟩ = some (.int .i64 a0_2) := (blk_cell BK131.out 2).trans rfl; have hcz43_3 : w41.cell? ⟨gb131, 3, none⟩ = some (.int .i64 a0_3) := (blk_cell BK131.out 3).trans rfl; have hcz43_4 : w41.cell? ⟨gb131, 4, none⟩ = some (.int .i64 a0_4) := (blk_cell BK131.out 4).trans rfl; have hcz43_5 : w41.cell? ⟨gb131, 5, none⟩ = some (.slice A0_5 l0_5.length c0_5) := (blk_cell BK131.out 5).trans rfl; have hfz43_0 := blk_frozen BK131.out 0; have hfz43_1 := blk_frozen BK131.out 1; have hfz43_2 := blk_frozen BK131.out 2; have hfz43_3 := blk_frozen BK131.out 3; have hfz43_4 := blk_frozen BK131.out 4; have hfz43_5 := blk_frozen BK131.out 5; have hcz44_0 : w41.cell? ⟨gb132, 0, none⟩ = some (.int .i64 a1_0) := (blk_cell BK132.out 0).trans rfl; have hcz44_1 : w41.cell? ⟨gb132, 1, none⟩ = some (.int .i64 a1_1) := (blk_cell BK132.out 1).trans rfl; have hcz44_2 : w41.cell? ⟨gb132, 2, none⟩ = some (.int .i64 a1_2) := (blk_cell BK132.out 2).trans rfl; have hcz44_3 : w41.cell? ⟨gb132, 3, none⟩ = some (.int .i64 a1_3) := (blk_cell BK132.out 3).trans rfl; have hcz44_4 : w41.cell? ⟨gb132, 4, none⟩ = some (.int .i64 a1_4) := (blk_cell BK132.out 4).trans rfl; have hcz44_5 : w41.cell? ⟨gb132, 5, none⟩ = some (.slice A1_5 l1_5.length c1_5) := (blk_cell BK132.out 5).trans rfl; have hfz44_0 := blk_frozen BK132.out 0; have hfz44_1 := blk_frozen BK132.out 1; have hfz44_2 := blk_frozen BK132.out 2; have hfz44_3 := blk_frozen BK132.out 3; have hfz44_4 := blk_frozen BK132.out 4; have hfz44_5 := blk_frozen BK132.out 5))
  go_ret
  exact ⟨by first | rfl | (simp [errW_none, errW_some] <;> rfl) | (simp [*, errW_none, errW_some] <;> rfl), by repeat (first | (with_reducible first | exact HB.out | apply below_alloc | apply pw_below_drewN | apply below_drew1 | refine below_set ?_ GE131.out | refine below_set ?_ GE132.out) | exact HB.out)⟩
end Go.Proofs.Ytiimiogpiflkdaa.A
end

section
namespace Go.Proofs.Ytiimiogpiflkdaa.A
open Go.RowKit Go.Proofs.YtiimiogpiflkdaaW.PrintWords Go.Proofs.YtiimiogpiflkdaaW.PrintLast Go.Proofs.YtiimiogpiflkdaaW.PrintMore
attribute [local go_sem] max2_int min2_int max_two min_two max_three min_three max_four min_four   -- for this text's walks alone
set_option linter.unusedVariables false
set_option linter.unusedSimpArgs false
def laws_eqTeamS.l0 : Nat → List (S61) → List (S61) → Int → Option (Bool)
  | 0, _, _, _ => none
  | k + 1, x0, x1, x5 => if x5 < (x0.length : Int) then (if 0 ≤ x5 then (if x5 < (x1.length : Int) then ((laws_eqTeam.f k ((rd_T61 x0 x5).f0) ((rd_T61 x0 x5).f1) ((rd_T61 x0 x5).f2) ((rd_T61 x0 x5).f3) ((rd_T61 x0 x5).f4) ((rd_T61 x0 x5).f5) ((rd_T61 x1 x5).f0) ((rd_T61 x1 x5).f1) ((rd_T61 x1 x5).f2) ((rd_T61 x1 x5).f3) ((rd_T61 x1 x5).f4) ((rd_T61 x1 x5).f5)).bind fun t136 => (if t136 = true then (laws_eqTeamS.l0 k x0 x1 (wrap64 (x5 + 1))) else (some false))) else (none)) else (none)) else (some true)
def laws_eqTeamS.f (k : Nat) (l0 : List (S61)) (l1 : List (S61)) : Option (Bool) := if (l0.length : Int) = (l1.length : Int) then (laws_eqTeamS.l0 k l0 l1 0) else (some false)
def laws_eqTeamS.T6 : Bool × List (List Nat × List Nat) := (true, [([], []), ([], []), ([0, 1], [0, 1]), ([2], [2]), ([], []), ([], []), ([4, 5], [4, 5]), ([6], [6]), ([3, 7], [3, 7]), ([8], [8])])
def laws_eqTeamS.B6 : List Nat := [0, 0, 3, 7, 0, 0, 48, 112, 255, 511]
theorem laws_eqTeamS.tab6 : rtab .any (opsOf Try.f19 6) = laws_eqTeamS.T6 := by kernel_rfl
theorem laws_eqTeamS.bits6 : waitsOk laws_eqTeamS.T6.2 laws_eqTeamS.B6 = true := by kernel_rfl
set_option maxHeartbeats 8000000 in
set_option maxRecDepth 100000 in
theorem laws_eqTeamS.calls (k : Nat) (A0 : Option Addr) (c0 : Nat) (l0 : List (S61)) (A1 : Option Addr) (c1 : Nat) (l1 : List (S61)) (r : Bool) (w : World) (hr0 : Kd.C k61 w A0 l0.length l0) (hc0 : l0.length ≤ c0) (hr1 : Kd.C k61 w A1 l1.length l1) (hc1 : l1.length ≤ c1) (h : laws_eqTeamS.f k l0 l1 = some r) :
  Calls Try.prog 19 #[.slice A0 l0.length c0, .slice A1 l1.length c1] w fun e w' => e = .returned (.bool r) ∧ Below w.heap.size w w' := by
 have hu61 := Try.underlying61
 have HR0 := Aside0.mk hr0
 have HC0 := Aside0.mk hc0
 clear hr0 hc0
 have HR1 := Aside0.mk hr1
 have HC1 := Aside0.mk hc1
 clear hr1 hc1
 have HB := Aside0.mk (Below.refl w.heap.size w)
 have H : (if (l0.length : Int) = (l1.length : Int) then (laws_eqTeamS.l0 k l0 l1 0) else (some false)) = some r := h
 clear h
 by_cases c3 : (l0.length : Int) = (l1.length : Int)
 ·
  rw [if_pos c3] at H
  have c3b0 : ((l0.length : Int) == (l1.length : Int)) = true := beq_iff_eq.mpr c3
  have c3b1 : ((l0.length : Int) != (l1.length : Int)) = false := bne_eq_false_iff_eq.mpr c3
  have c3b2 : (l0.length == l1.length) = true := by first | simpa using c3 | (simp at c3 ⊢; omega)
  clear c3
  have H' := Aside0.mk H
  clear H
  go_enter Try.func19, Try.ntmps19
  go_wp2
  go_loopg [5] k (fun kq v5 w' => ∃ (x5_1 : Int), v5 = .int .i64 x5_1 ∧ Aside0 (laws_eqTeamS.l0 kq l0 l1 x5_1 = some r) ∧ Aside0 (kq ≤ k) ∧ Aside0 (Below w.heap.size w w'))
  case atStart => exact ⟨(0), (by first | rfl | (simp; done) | (simp [*]; done)), H', ⟨Nat.le_refl _⟩, ⟨by repeat (first | (with_reducible first | exact HB.out | apply below_alloc | apply pw_below_drewN | apply below_drew1) | exact HB.out)⟩⟩
  case round =>
   clear H'
   try clear c1
   try clear p2
   try clear c3
   try clear c3b0
   try clear c3b1
   try clear c3b2
   obtain ⟨x5_1, rfl, HA, HK1, HB⟩ := hrel
   cases gk with
   | zero => exact absurd HA.out (by simp [laws_eqTeamS.l0])
   | succ k1 =>
    have H := HA.out
    clear HA
    simp only [laws_eqTeamS.l0] at H
    by_cases c4 : x5_1 < (l0.length : Int)
    ·
     rw [if_pos c4] at H
     have c4b0 : decide (x5_1 < (l0.length : Int)) = true := decide_eq_true c4
     clear c4
     by_cases c5 : 0 ≤ x5_1
     ·
      rw [if_pos c5] at H
      have c5b0 : decide (0 ≤ x5_1) = true := decide_eq_true c5
      clear c5
      by_cases c6 : x5_1 < (l1.length : Int)
      ·
       rw [if_pos c6] at H
       have c6b0 : decide (x5_1 < (l1.length : Int)) = true := decide_eq_true c6
       clear c6
       replace H := Option.bind_eq_some_iff.mp H
       obtain ⟨t136, A70, H⟩ := H
       replace H : (if t136 = true then (laws_eqTeamS.l0 k1 l0 l1 (wrap64 (x5_1 + 1))) else (some false)) = some r := H
       have A7 := Aside0.mk A70
       clear A70
       by_cases c8 : t136 = true
       ·
        subst c8
        have H1 : (laws_eqTeamS.l0 k1 l0 l1 (wrap64 (x5_1 + 1))) = some r := by rw [if_pos rfl] at H; exact H
        clear H
        have H := H1
        clear H1
        have H' := Aside0.mk H
        clear H
        try go_wp2
        have n0_ := Aside0.mk (below_drew1 HB.out)
        clear HB
        have HB := n0_
        clear n0_
        have p134 : 0 ≤ (x5_1 : Int) := of_decide_eq_true (by first | (with_reducible assumption) | assumption)
        have q134 : x5_1 < (l0.length : Int) := of_decide_eq_true (by first | (with_reducible assumption) | assumption)
        obtain ⟨ad134, A134_5, c134_5, e134, hx134_0, hx134_1, hx134_2, hx134_3, hx134_4, hx134_5, hl134_5, hi134_5⟩ := at_T61 HR0.out x5_1 p134 q134
        have hw134_5 := hx134_5
        have hw134_4 := hx134_4
        have hw134_3 := hx134_3
        have hw134_2 := hx134_2
        have hw134_1 := hx134_1
        have hw134_0 := hx134_0
        cases e134
        replace hx134_0 := (HB.out.cell (World.block_lt_of_cell? w _ hx134_0)).trans hx134_0
        replace hx134_1 := (HB.out.cell (World.block_lt_of_cell? w _ hx134_1)).trans hx134_1
        replace hx134_2 := (HB.out.cell (World.block_lt_of_cell? w _ hx134_2)).trans hx134_2
        replace hx134_3 := (HB.out.cell (World.block_lt_of_cell? w _ hx134_3)).trans hx134_3
        replace hx134_4 := (HB.out.cell (World.block_lt_of_cell? w _ hx134_4)).trans hx134_4
        replace hx134_5 := (HB.out.cell (World.block_lt_of_cell? w _ hx134_5)).trans hx134_5
        have HR134_5 := Aside0.mk hi134_5
        have HC134_5 := Aside0.mk hl134_5
        clear hi134_5 hl134_5
        replace p134 := eq_true p134
        replace q134 := eq_true q134
        have p135 : 0 ≤ (x5_1 : Int) := of_decide_eq_true (by first | (with_reducible assumption) | assumption)
        have q135 : x5_1 < (l1.length : Int) := of_decide_eq_true (by first | (with_reducible assumption) | assumption)
        obtain ⟨ad135, A135_5, c135_5, e135, hx135_0, hx135_1, hx135_2, hx135_3, hx135_4, hx135_5, hl135_5, hi135_5⟩ := at_T61 HR1.out x5_1 p135 q135
        have hw135_5 := hx135_5
        have hw135_4 := hx135_4
        have hw135_3 := hx135_3
        have hw135_2 := hx135_2
        have hw135_1 := hx135_1
        have hw135_0 := hx135_0
        cases e135
        replace hx135_0 := (HB.out.cell (World.block_lt_of_cell? w _ hx135_0)).trans hx135_0
        replace hx135_1 := (HB.out.cell (World.block_lt_of_cell? w _ hx135_1)).trans hx135_1
        replace hx135_2 := (HB.out.cell (World.block_lt_of_cell? w _ hx135_2)).trans hx135_2
        replace hx135_3 := (HB.out.cell (World.block_lt_of_cell? w _ hx135_3)).trans hx135_3
        replace hx135_4 := (HB.out.cell (World.block_lt_of_cell? w _ hx135_4)).trans hx135_4
        replace hx135_5 := (HB.out.cell (World.block_lt_of_cell? w _ hx135_5)).trans hx135_5
        have HR135_5 := Aside0.mk hi135_5
        have HC135_5 := Aside0.mk hl135_5
        clear hi135_5 hl135_5
        replace p135 := eq_true p135
        replace q135 := eq_true q135
        refine start_ (n := 10) (S := fun w' => w'.cell? (ad134.add ((x5_1).toNat * 6)) = some (.int .i64 ((rd_T61 l0 x5_1).f0)) ∧ w'.cell? ⟨(ad134.add ((x5_1).toNat * 6)).block, (ad134.add ((x5_1).toNat * 6)).off + 1, none⟩ = some (.int .i64 ((rd_T61 l0 x5_1).f1)) ∧ w'.cell? ⟨(ad134.add ((x5_1).toNat * 6)).block, (ad134.add ((x5_1).toNat * 6)).off + 2, none⟩ = some (.int .i64 ((rd_T61 l0 x5_1).f2)) ∧ w'.cell? ⟨(ad134.add ((x5_1).toNat * 6)).block, (ad134.add ((x5_1).toNat * 6)).off + 3, none⟩ = some (.int .i64 ((rd_T61 l0 x5_1).f3)) ∧ w'.cell? ⟨(ad134.add ((x5_1).toNat * 6)).block, (ad134.add ((x5_1).toNat * 6)).off + 4, none⟩ = some (.int .i64 ((rd_T61 l0 x5_1).f4)) ∧ w'.cell? ⟨(ad134.add ((x5_1).toNat * 6)).block, (ad134.add ((x5_1).toNat * 6)).off + 5, none⟩ = some (.slice A134_5 ((rd_T61 l0 x5_1).f5).length c134_5) ∧ w'.cell? (ad135.add ((x5_1).toNat * 6)) = some (.int .i64 ((rd_T61 l1 x5_1).f0)) ∧ w'.cell? ⟨(ad135.add ((x5_1).toNat * 6)).block, (ad135.add ((x5_1).toNat * 6)).off + 1, none⟩ = some (.int .i64 ((rd_T61 l1 x5_1).f1)) ∧ w'.cell? ⟨(ad135.add ((x5_1).toNat * 6)).block, (ad135.add ((x5_1).toNat * 6)).off + 2, none⟩ = some (.int .i64 ((rd_T61 l1 x5_1).f2)) ∧ w'.cell? ⟨(ad135.add ((x5_1).toNat * 6)).block, (ad135.add ((x5_1).toNat * 6)).off + 3, none⟩ = some (.int .i64 ((rd_T61 l1 x5_1).f3)) ∧ w'.cell? ⟨(ad135.add ((x5_1).toNat * 6)).block, (ad135.add ((x5_1).toNat * 6)).off + 4, none⟩ = some (.int .i64 ((rd_T61 l1 x5_1).f4)) ∧ w'.cell? ⟨(ad135.add ((x5_1).toNat * 6)).block, (ad135.add ((x5_1).toNat * 6)).off + 5, none⟩ = some (.slice A135_5 ((rd_T61 l1 x5_1).f5).length c135_5)) (ds := []) #[zz,zz,zz,zz,zz,zz,zz,zz,zz,zz] (by kernel_rfl) rfl rfl ⟨((HB.out.cell (World.block_lt_of_cell? w _ hw134_0)).trans hw134_0), ((HB.out.cell (World.block_lt_of_cell? w _ hw134_1)).trans hw134_1), ((HB.out.cell (World.block_lt_of_cell? w _ hw134_2)).trans hw134_2), ((HB.out.cell (World.block_lt_of_cell? w _ hw134_3)).trans hw134_3), ((HB.out.cell (World.block_lt_of_cell? w _ hw134_4)).trans hw134_4), ((HB.out.cell (World.block_lt_of_cell? w _ hw134_5)).trans hw134_5), ((HB.out.cell (World.block_lt_of_cell? w _ hw135_0)).trans hw135_0), ((HB.out.cell (World.block_lt_of_cell? w _ hw135_1)).trans hw135_1), ((HB.out.cell (World.block_lt_of_cell? w _ hw135_2)).trans hw135_2), ((HB.out.cell (World.block_lt_of_cell? w _ hw135_3)).trans hw135_3), ((HB.out.cell (World.block_lt_of_cell? w _ hw135_4)).trans hw135_4), ((HB.out.cell (World.block_lt_of_cell? w _ hw135_5)).trans hw135_5)⟩ (fun hHeld => ?_); refine with_tabW laws_eqTeamS.tab6 laws_eqTeamS.bits6 (fun HT_ HW_ => ?_)
        generalize wr.drew = w9 at HB HR134_5 HR135_5 hx134_0 hx134_1 hx134_2 hx134_3 hx134_4 hx134_5 hx135_0 hx135_1 hx135_2 hx135_3 hx135_4 hx135_5 hHeld ⊢
        refine pure_ (i := 0) (N := some 17) (v := ?_) (a' := ?_) #[oo,zz,zz,zz,zz,zz,zz,zz,zz,zz] rfl rfl (any_of HT_.out (by kernel_rfl)) (fun _ _ _ h => h) (Or.inl ⟨by rfl, ?_⟩) ?_ ?_
        rotate_left
        ·
         intro w'
         go_simp
         with_reducible rfl
        rotate_left
        ·
         simp only [Act.put, List.setIfInBounds_toArray, List.set_cons_zero, List.set_cons_succ, i64_w, i32_w]
         rfl
        refine pure_ (i := 1) (N := some 18) (v := ?_) (a' := ?_) #[oo,oo,zz,zz,zz,zz,zz,zz,zz,zz] rfl rfl (any_of HT_.out (by kernel_rfl)) (fun _ _ _ h => h) (Or.inl ⟨by rfl, ?_⟩) ?_ ?_
        rotate_left
        ·
         intro w'
         go_simp
         with_reducible rfl
        rotate_left
        ·
         simp only [Act.put, List.setIfInBounds_toArray, List.set_cons_zero, List.set_cons_succ, i64_w, i32_w]
         rfl
        refine pure_ (i := 2) (N := some 19) (v := ?_) (a' := ?_) #[oo,oo,oo,zz,zz,zz,zz,zz,zz,zz] rfl rfl (any_of HT_.out (by kernel_rfl)) (fun _ _ _ h => h) (Or.inl ⟨by rfl, ?_⟩) ?_ ?_
        rotate_left
        ·
         intro w'
         go_simp
         with_reducible rfl
        rotate_left
        ·
         simp only [Act.put, List.setIfInBounds_toArray, List.set_cons_zero, List.set_cons_succ, i64_w, i32_w]
         rfl
        refine pure_ (i := 4) (N := some 21) (v := ?_) (a' := ?_) #[oo,oo,oo,zz,oo,zz,zz,zz,zz,zz] rfl rfl (any_of HT_.out (by kernel_rfl)) (fun _ _ _ h => h) (Or.inl ⟨by rfl, ?_⟩) ?_ ?_
        rotate_left
        ·
         intro w'
         go_simp
         with_reducible rfl
        rotate_left
        ·
         simp only [Act.put, List.setIfInBounds_toArray, List.set_cons_zero, List.set_cons_succ, i64_w, i32_w]
         rfl
        refine pure_ (i := 5) (N := some 22) (v := ?_) (a' := ?_) #[oo,oo,oo,zz,oo,oo,zz,zz,zz,zz] rfl rfl (any_of HT_.out (by kernel_rfl)) (fun _ _ _ h => h) (Or.inl ⟨by rfl, ?_⟩) ?_ ?_
        rotate_left
        ·
         intro w'
         go_simp
         with_reducible rfl
        rotate_left
        ·
         simp only [Act.put, List.setIfInBounds_toArray, List.set_cons_zero, List.set_cons_succ, i64_w, i32_w]
         rfl
        refine pure_ (i := 6) (N := some 23) (v := ?_) (a' := ?_) #[oo,oo,oo,zz,oo,oo,oo,zz,zz,zz] rfl rfl (any_of HT_.out (by kernel_rfl)) (fun _ _ _ h => h) (Or.inl ⟨by rfl, ?_⟩) ?_ ?_
        rotate_left
        ·
         intro w'
         go_simp
         with_reducible rfl
        rotate_left
        ·
         simp only [Act.put, List.setIfInBounds_toArray, List.set_cons_zero, List.set_cons_succ, i64_w, i32_w]
         rfl
        refine take_ (i := 3) (N := some 20) (v := ?_) (a' := ?_) #[oo,oo,oo,oo,oo,oo,oo,zz,zz,zz] rfl rfl (take_ofW HT_.out HW_.out (by kernel_rfl)) (fun _ _ _ h => h) (Or.inl ⟨by rfl, ?_⟩) hHeld ?_ ?_
        rotate_left
        ·
         rintro w' ⟨s0, s1, s2, s3, s4, s5, s6, s7, s8, s9, s10, s11⟩
         go_simp
         with_reducible rfl
        rotate_left
        ·
         simp only [Act.put, List.setIfInBounds_toArray, List.set_cons_zero, List.set_cons_succ, i64_w, i32_w]
         rfl
        refine take_ (i := 7) (N := some 24) (v := ?_) (a' := ?_) #[oo,oo,oo,oo,oo,oo,oo,oo,zz,zz] rfl rfl (take_ofW HT_.out HW_.out (by kernel_rfl)) (fun _ _ _ h => h) (Or.inl ⟨by rfl, ?_⟩) hHeld ?_ ?_
        rotate_left
        ·
         rintro w' ⟨s0, s1, s2, s3, s4, s5, s6, s7, s8, s9, s10, s11⟩
         go_simp
         with_reducible rfl
        rotate_left
        ·
         simp only [Act.put, List.setIfInBounds_toArray, List.set_cons_zero, List.set_cons_succ, i64_w, i32_w]
         rfl
        refine one_ (i := 8) (N := some 25) #[oo,oo,oo,oo,oo,oo,oo,oo,oo,zz] rfl rfl (one_of HT_.out (by kernel_rfl)) (by decide) (fun K hK => ?_)
        refine goes_ Try.func58 (by kernel_rfl) rfl #[.agg #[.int .i64 ((rd_T61 l0 x5_1).f0), .int .i64 ((rd_T61 l0 x5_1).f1), .int .i64 ((rd_T61 l0 x5_1).f2), .int .i64 ((rd_T61 l0 x5_1).f3), .int .i64 ((rd_T61 l0 x5_1).f4), .slice A134_5 ((rd_T61 l0 x5_1).f5).length c134_5], .agg #[.int .i64 ((rd_T61 l1 x5_1).f0), .int .i64 ((rd_T61 l1 x5_1).f1), .int .i64 ((rd_T61 l1 x5_1).f2), .int .i64 ((rd_T61 l1 x5_1).f3), .int .i64 ((rd_T61 l1 x5_1).f4), .slice A135_5 ((rd_T61 l1 x5_1).f5).length c135_5]] (by rfl) rfl rfl (by (try simp only [List.map_toArray, List.map_cons, List.map_nil]); first | done | rfl | (simp only [List.length_drop, List.length_take]; rfl)) ?_
        with_reducible refine (laws_eqTeam.calls k1 ((rd_T61 l0 x5_1).f0) ((rd_T61 l0 x5_1).f1) ((rd_T61 l0 x5_1).f2) ((rd_T61 l0 x5_1).f3) ((rd_T61 l0 x5_1).f4) _ _ ((rd_T61 l0 x5_1).f5) ((rd_T61 l1 x5_1).f0) ((rd_T61 l1 x5_1).f1) ((rd_T61 l1 x5_1).f2) ((rd_T61 l1 x5_1).f3) ((rd_T61 l1 x5_1).f4) _ _ ((rd_T61 l1 x5_1).f5) true _ ?side1 ?side2 ?side3 ?side4 A7.out).mono ?_
        (case side1 => repeat (first | exact (Kd.C_below HR134_5.out HB.out) | (with_reducible refine Kd.C_alloc ?_ _) | (with_reducible refine Kd.C_drewN ?_ _) | (with_reducible refine Kd.C_drew ?_)))
        (case side2 => exact HC134_5.out)
        (case side3 => repeat (first | exact (Kd.C_below HR135_5.out HB.out) | (with_reducible refine Kd.C_alloc ?_ _) | (with_reducible refine Kd.C_drewN ?_ _) | (with_reducible refine Kd.C_drew ?_)))
        (case side4 => exact HC135_5.out)
        rintro e w10 ⟨rfl, hb⟩
        refine ⟨_, rfl, ?_⟩
        have n0_ := Aside0.mk (below_step (by repeat (first | (with_reducible first | exact HB.out | apply below_alloc | apply pw_below_drewN | apply below_drew1) | exact HB.out)) hb)
        clear HB
        have HB := n0_
        clear n0_
        (try clear hb)
        (try clear hb2)
        (try clear hk)
        (try clear hi)
        refine hK.out _ _ ⟨((HB.out.cell (World.block_lt_of_cell? w _ hw134_0)).trans hw134_0), ((HB.out.cell (World.block_lt_of_cell? w _ hw134_1)).trans hw134_1), ((HB.out.cell (World.block_lt_of_cell? w _ hw134_2)).trans hw134_2), ((HB.out.cell (World.block_lt_of_cell? w _ hw134_3)).trans hw134_3), ((HB.out.cell (World.block_lt_of_cell? w _ hw134_4)).trans hw134_4), ((HB.out.cell (World.block_lt_of_cell? w _ hw134_5)).trans hw134_5), ((HB.out.cell (World.block_lt_of_cell? w _ hw135_0)).trans hw135_0), ((HB.out.cell (World.block_lt_of_cell? w _ hw135_1)).trans hw135_1), ((HB.out.cell (World.block_lt_of_cell? w _ hw135_2)).trans hw135_2), ((HB.out.cell (World.block_lt_of_cell? w _ hw135_3)).trans hw135_3), ((HB.out.cell (World.block_lt_of_cell? w _ hw135_4)).trans hw135_4), ((HB.out.cell (World.block_lt_of_cell? w _ hw135_5)).trans hw135_5)⟩ (fun hHeld => ?_)
        clear hK K
        refine norm_ (a' := ?_) ?_ ?_
        rotate_left
        ·
         show Act.put _ (some 25) _ = _
         simp only [Act.put, List.setIfInBounds_toArray, List.set_cons_zero, List.set_cons_succ, i64_w, i32_w]
         rfl
        refine pure_ (i := 9) (N := some 26) (v := ?_) (a' := ?_) #[oo,oo,oo,oo,oo,oo,oo,oo,oo,oo] rfl rfl (any_of HT_.out (by kernel_rfl)) (fun _ _ _ h => h) (Or.inl ⟨by rfl, ?_⟩) ?_ ?_
        rotate_left
        ·
         intro w'
         go_simp
         with_reducible rfl
        rotate_left
        ·
         simp only [Act.put, List.setIfInBounds_toArray, List.set_cons_zero, List.set_cons_succ, i64_w, i32_w]
         rfl
        refine done_ (done_of HT_.out (by kernel_rfl)) ?_
        try go_wp2
        go_roundg k1
        case measure => have := HK1.out; omega
        case rel => exact ⟨(wrap64 (x5_1 + 1)), (by first | rfl | (simp; done) | (simp [*]; done)), H', ⟨by have := HK1.out; omega⟩, ⟨by repeat (first | (with_reducible first | exact HB.out | apply below_alloc | apply pw_below_drewN | apply below_drew1) | exact HB.out)⟩⟩
       ·
        replace c8 := Bool.eq_false_iff.mpr c8
        subst c8
        have H1 : (some false) = some r := by rw [if_neg (show ¬ (false = true) by decide)] at H; exact H
        clear H
        have H := H1
        clear H1
        obtain rfl := Option.some.inj H
        try go_wp2
        have n0_ := Aside0.mk (below_drew1 HB.out)
        clear HB
        have HB := n0_
        clear n0_
        have p134 : 0 ≤ (x5_1 : Int) := of_decide_eq_true (by first | (with_reducible assumption) | assumption)
        have q134 : x5_1 < (l0.length : Int) := of_decide_eq_true (by first | (with_reducible assumption) | assumption)
        obtain ⟨ad134, A134_5, c134_5, e134, hx134_0, hx134_1, hx134_2, hx134_3, hx134_4, hx134_5, hl134_5, hi134_5⟩ := at_T61 HR0.out x5_1 p134 q134
        have hw134_5 := hx134_5
        have hw134_4 := hx134_4
        have hw134_3 := hx134_3
        have hw134_2 := hx134_2
        have hw134_1 := hx134_1
        have hw134_0 := hx134_0
        cases e134
        replace hx134_0 := (HB.out.cell (World.block_lt_of_cell? w _ hx134_0)).trans hx134_0
        replace hx134_1 := (HB.out.cell (World.block_lt_of_cell? w _ hx134_1)).trans hx134_1
        replace hx134_2 := (HB.out.cell (World.block_lt_of_cell? w _ hx134_2)).trans hx134_2
        replace hx134_3 := (HB.out.cell (World.block_lt_of_cell? w _ hx134_3)).trans hx134_3
        replace hx134_4 := (HB.out.cell (World.block_lt_of_cell? w _ hx134_4)).trans hx134_4
        replace hx134_5 := (HB.out.cell (World.block_lt_of_cell? w _ hx134_5)).trans hx134_5
        have HR134_5 := Aside0.mk hi134_5
        have HC134_5 := Aside0.mk hl134_5
        clear hi134_5 hl134_5
        replace p134 := eq_true p134
        replace q134 := eq_true q134
        have p135 : 0 ≤ (x5_1 : Int) := of_decide_eq_true (by first | (with_reducible assumption) | assumption)
        have q135 : x5_1 < (l1.length : Int) := of_decide_eq_true (by first | (with_reducible assumption) | assumption)
        obtain ⟨ad135, A135_5, c135_5, e135, hx135_0, hx135_1, hx135_2, hx135_3, hx135_4, hx135_5, hl135_5, hi135_5⟩ := at_T61 HR1.out x5_1 p135 q135
        have hw135_5 := hx135_5
        have hw135_4 := hx135_4
        have hw135_3 := hx135_3
        have hw135_2 := hx135_2
        have hw135_1 := hx135_1
        have hw135_0 := hx135_0
        cases e135
        replace hx135_0 := (HB.out.cell (World.block_lt_of_cell? w _ hx135_0)).trans hx135_0
        replace hx135_1 := (HB.out.cell (World.block_lt_of_cell? w _ hx135_1)).trans hx135_1
        replace hx135_2 := (HB.out.cell (World.block_lt_of_cell? w _ hx135_2)).trans hx135_2
        replace hx135_3 := (HB.out.cell (World.block_lt_of_cell? w _ hx135_3)).trans hx135_3
        replace hx135_4 := (HB.out.cell (World.block_lt_of_cell? w _ hx135_4)).trans hx135_4
        replace hx135_5 := (HB.out.cell (World.block_lt_of_cell? w _ hx135_5)).trans hx135_5
        have HR135_5 := Aside0.mk hi135_5
        have HC135_5 := Aside0.mk hl135_5
        clear hi135_5 hl135_5
        replace p135 := eq_true p135
        replace q135 := eq_true q135
        refine start_ (n := 10) (S := fun w' => w'.cell? (ad134.add ((x5_1).toNat * 6)) = some (.int .i64 ((rd_T61 l0 x5_1).f0)) ∧ w'.cell? ⟨(ad134.add ((x5_1).toNat * 6)).block, (ad134.add ((x5_1).toNat * 6)).off + 1, none⟩ = some (.int .i64 ((rd_T61 l0 x5_1).f1)) ∧ w'.cell? ⟨(ad134.add ((x5_1).toNat * 6)).block, (ad134.add ((x5_1).toNat * 6)).off + 2, none⟩ = some (.int .i64 ((rd_T61 l0 x5_1).f2)) ∧ w'.cell? ⟨(ad134.add ((x5_1).toNat * 6)).block, (ad134.add ((x5_1).toNat * 6)).off + 3, none⟩ = some (.int .i64 ((rd_T61 l0 x5_1).f3)) ∧ w'.cell? ⟨(ad134.add ((x5_1).toNat * 6)).block, (ad134.add ((x5_1).toNat * 6)).off + 4, none⟩ = some (.int .i64 ((rd_T61 l0 x5_1).f4)) ∧ w'.cell? ⟨(ad134.add ((x5_1).toNat * 6)).block, (ad134.add ((x5_1).toNat * 6)).off + 5, none⟩ = some (.slice A134_5 ((rd_T61 l0 x5_1).f5).length c134_5) ∧ w'.cell? (ad135.add ((x5_1).toNat * 6)) = some (.int .i64 ((rd_T61 l1 x5_1).f0)) ∧ w'.cell? ⟨(ad135.add ((x5_1).toNat * 6)).block, (ad135.add ((x5_1).toNat * 6)).off + 1, none⟩ = some (.int .i64 ((rd_T61 l1 x5_1).f1)) ∧ w'.cell? ⟨(ad135.add ((x5_1).toNat * 6)).block, (ad135.add ((x5_1).toNat * 6)).off + 2, none⟩ = some (.int .i64 ((rd_T61 l1 x5_1).f2)) ∧ w'.cell? ⟨(ad135.add ((x5_1).toNat * 6)).block, (ad135.add ((x5_1).toNat * 6)).off + 3, none⟩ = some (.int .i64 ((rd_T61 l1 x5_1).f3)) ∧ w'.cell? ⟨(ad135.add ((x5_1).toNat * 6)).block, (ad135.add ((x5_1).toNat * 6)).off + 4, none⟩ = some (.int .i64 ((rd_T61 l1 x5_1).f4)) ∧ w'.cell? ⟨(ad135.add ((x5_1).toNat * 6)).block, (ad135.add ((x5_1).toNat * 6)).off + 5, none⟩ = some (.slice A135_5 ((rd_T61 l1 x5_1).f5).length c135_5)) (ds := []) #[zz,zz,zz,zz,zz,zz,zz,zz,zz,zz] (by kernel_rfl) rfl rfl ⟨((HB.out.cell (World.block_lt_of_cell? w _ hw134_0)).trans hw134_0), ((HB.out.cell (World.block_lt_of_cell? w _ hw134_1)).trans hw134_1), ((HB.out.cell (World.block_lt_of_cell? w _ hw134_2)).trans hw134_2), ((HB.out.cell (World.block_lt_of_cell? w _ hw134_3)).trans hw134_3), ((HB.out.cell (World.block_lt_of_cell? w _ hw134_4)).trans hw134_4), ((HB.out.cell (World.block_lt_of_cell? w _ hw134_5)).trans hw134_5), ((HB.out.cell (World.block_lt_of_cell? w _ hw135_0)).trans hw135_0), ((HB.out.cell (World.block_lt_of_cell? w _ hw135_1)).trans hw135_1), ((HB.out.cell (World.block_lt_of_cell? w _ hw135_2)).trans hw135_2), ((HB.out.cell (World.block_lt_of_cell? w _ hw135_3)).trans hw135_3), ((HB.out.cell (World.block_lt_of_cell? w _ hw135_4)).trans hw135_4), ((HB.out.cell (World.block_lt_of_cell? w _ hw135_5)).trans hw135_5)⟩ (fun hHeld => ?_); refine with_tabW laws_eqTeamS.tab6 laws_eqTeamS.bits6 (fun HT_ HW_ => ?_)
        generalize wr.drew = w11 at HB HR134_5 HR135_5 hx134_0 hx134_1 hx134_2 hx134_3 hx134_4 hx134_5 hx135_0 hx135_1 hx135_2 hx135_3 hx135_4 hx135_5 hHeld ⊢
        refine pure_ (i := 0) (N := some 17) (v := ?_) (a' := ?_) #[oo,zz,zz,zz,zz,zz,zz,zz,zz,zz] rfl rfl (any_of HT_.out (by kernel_rfl)) (fun _ _ _ h => h) (Or.inl ⟨by rfl, ?_⟩) ?_ ?_
        rotate_left
        ·
         intro w'
         go_simp
         with_reducible rfl
        rotate_left
        ·
         simp only [Act.put, List.setIfInBounds_toArray, List.set_cons_zero, List.set_cons_succ, i64_w, i32_w]
         rfl
        refine pure_ (i := 1) (N := some 18) (v := ?_) (a' := ?_) #[oo,oo,zz,zz,zz,zz,zz,zz,zz,zz] rfl rfl (any_of HT_.out (by kernel_rfl)) (fun _ _ _ h => h) (Or.inl ⟨by rfl, ?_⟩) ?_ ?_
        rotate_left
        ·
         intro w'
         go_simp
         with_reducible rfl
        rotate_left
        ·
         simp only [Act.put, List.setIfInBounds_toArray, List.set_cons_zero, List.set_cons_succ, i64_w, i32_w]
         rfl
        refine pure_ (i := 2) (N := some 19) (v := ?_) (a' := ?_) #[oo,oo,oo,zz,zz,zz,zz,zz,zz,zz] rfl rfl (any_of HT_.out (by kernel_rfl)) (fun _ _ _ h => h) (Or.inl ⟨by rfl, ?_⟩) ?_ ?_
        rotate_left
        ·
         intro w'
         go_simp
         with_reducible rfl
        rotate_left
        ·
         simp only [Act.put, List.setIfInBounds_toArray, List.set_cons_zero, List.set_cons_succ, i64_w, i32_w]
         rfl
        refine pure_ (i := 4) (N := some 21) (v := ?_) (a' := ?_) #[oo,oo,oo,zz,oo,zz,zz,zz,zz,zz] rfl rfl (any_of HT_.out (by kernel_rfl)) (fun _ _ _ h => h) (Or.inl ⟨by rfl, ?_⟩) ?_ ?_
        rotate_left
        ·
         intro w'
         go_simp
         with_reducible rfl
        rotate_left
        ·
         simp only [Act.put, List.setIfInBounds_toArray, List.set_cons_zero, List.set_cons_succ, i64_w, i32_w]
         rfl
        refine pure_ (i := 5) (N := some 22) (v := ?_) (a' := ?_) #[oo,oo,oo,zz,oo,oo,zz,zz,zz,zz] rfl rfl (any_of HT_.out (by kernel_rfl)) (fun _ _ _ h => h) (Or.inl ⟨by rfl, ?_⟩) ?_ ?_
        rotate_left
        ·
         intro w'
         go_simp
         with_reducible rfl
        rotate_left
        ·
         simp only [Act.put, List.setIfInBounds_toArray, List.set_cons_zero, List.set_cons_succ, i64_w, i32_w]
         rfl
        refine pure_ (i := 6) (N := some 23) (v := ?_) (a' := ?_) #[oo,oo,oo,zz,oo,oo,oo,zz,zz,zz] rfl rfl (any_of HT_.out (by kernel_rfl)) (fun _ _ _ h => h) (Or.inl ⟨by rfl, ?_⟩) ?_ ?_
        rotate_left
        ·
         intro w'
         go_simp
         with_reducible rfl
        rotate_left
        ·
         simp only [Act.put, List.setIfInBounds_toArray, List.set_cons_zero, List.set_cons_succ, i64_w, i32_w]
         rfl
        refine take_ (i := 3) (N := some 20) (v := ?_) (a' := ?_) #[oo,oo,oo,oo,oo,oo,oo,zz,zz,zz] rfl rfl (take_ofW HT_.out HW_.out (by kernel_rfl)) (fun _ _ _ h => h) (Or.inl ⟨by rfl, ?_⟩) hHeld ?_ ?_
        rotate_left
        ·
         rintro w' ⟨s0, s1, s2, s3, s4, s5, s6, s7, s8, s9, s10, s11⟩
         go_simp
         with_reducible rfl
        rotate_left
        ·
         simp only [Act.put, List.setIfInBounds_toArray, List.set_cons_zero, List.set_cons_succ, i64_w, i32_w]
         rfl
        refine take_ (i := 7) (N := some 24) (v := ?_) (a' := ?_) #[oo,oo,oo,oo,oo,oo,oo,oo,zz,zz] rfl rfl (take_ofW HT_.out HW_.out (by kernel_rfl)) (fun _ _ _ h => h) (Or.inl ⟨by rfl, ?_⟩) hHeld ?_ ?_
        rotate_left
        ·
         rintro w' ⟨s0, s1, s2, s3, s4, s5, s6, s7, s8, s9, s10, s11⟩
         go_simp
         with_reducible rfl
        rotate_left
        ·
         simp only [Act.put, List.setIfInBounds_toArray, List.set_cons_zero, List.set_cons_succ, i64_w, i32_w]
         rfl
        refine one_ (i := 8) (N := some 25) #[oo,oo,oo,oo,oo,oo,oo,oo,oo,zz] rfl rfl (one_of HT_.out (by kernel_rfl)) (by decide) (fun K hK => ?_)
        refine goes_ Try.func58 (by kernel_rfl) rfl #[.agg #[.int .i64 ((rd_T61 l0 x5_1).f0), .int .i64 ((rd_T61 l0 x5_1).f1), .int .i64 ((rd_T61 l0 x5_1).f2), .int .i64 ((rd_T61 l0 x5_1).f3), .int .i64 ((rd_T61 l0 x5_1).f4), .slice A134_5 ((rd_T61 l0 x5_1).f5).length c134_5], .agg #[.int .i64 ((rd_T61 l1 x5_1).f0), .int .i64 ((rd_T61 l1 x5_1).f1), .int .i64 ((rd_T61 l1 x5_1).f2), .int .i64 ((rd_T61 l1 x5_1).f3), .int .i64 ((rd_T61 l1 x5_1).f4), .slice A135_5 ((rd_T61 l1 x5_1).f5).length c135_5]] (by rfl) rfl rfl (by (try simp only [List.map_toArray, List.map_cons, List.map_nil]); first | done | rfl | (simp only [List.length_drop, List.length_take]; rfl)) ?_
        with_reducible refine (laws_eqTeam.calls k1 ((rd_T61 l0 x5_1).f0) ((rd_T61 l0 x5_1).f1) ((rd_T61 l0 x5_1).f2) ((rd_T61 l0 x5_1).f3) ((rd_T61 l0 x5_1).f4) _ _ ((rd_T61 l0 x5_1).f5) ((rd_T61 l1 x5_1).f0) ((rd_T61 l1 x5_1).f1) ((rd_T61 l1 x5_1).f2) ((rd_T61 l1 x5_1).f3) ((rd_T61 l1 x5_1).f4) _ _ ((rd_T61 l1 x5_1).f5) false _ ?side1 ?side2 ?side3 ?side4 A7.out).mono ?_
        (case side1 => repeat (first | exact (Kd.C_below HR134_5.out HB.out) | (with_reducible refine Kd.C_alloc ?_ _) | (with_reducible refine Kd.C_drewN ?_ _) | (with_reducible refine Kd.C_drew ?_)))
        (case side2 => exact HC134_5.out)
        (case side3 => repeat (first | exact (Kd.C_below HR135_5.out HB.out) | (with_reducible refine Kd.C_alloc ?_ _) | (with_reducible refine Kd.C_drewN ?_ _) | (with_reducible refine Kd.C_drew ?_)))
        (case side4 => exact HC135_5.out)
        rintro e w12 ⟨rfl, hb⟩
        refine ⟨_, rfl, ?_⟩
        have n0_ := Aside0.mk (below_step (by repeat (first | (with_reducible first | exact HB.out | apply below_alloc | apply pw_below_drewN | apply below_drew1) | exact HB.out)) hb)
        clear HB
        have HB := n0_
        clear n0_
        (try clear hb)
        (try clear hb2)
        (try clear hk)
        (try clear hi)
        refine hK.out _ _ ⟨((HB.out.cell (World.block_lt_of_cell? w _ hw134_0)).trans hw134_0), ((HB.out.cell (World.block_lt_of_cell? w _ hw134_1)).trans hw134_1), ((HB.out.cell (World.block_lt_of_cell? w _ hw134_2)).trans hw134_2), ((HB.out.cell (World.block_lt_of_cell? w _ hw134_3)).trans hw134_3), ((HB.out.cell (World.block_lt_of_cell? w _ hw134_4)).trans hw134_4), ((HB.out.cell (World.block_lt_of_cell? w _ hw134_5)).trans hw134_5), ((HB.out.cell (World.block_lt_of_cell? w _ hw135_0)).trans hw135_0), ((HB.out.cell (World.block_lt_of_cell? w _ hw135_1)).trans hw135_1), ((HB.out.cell (World.block_lt_of_cell? w _ hw135_2)).trans hw135_2), ((HB.out.cell (World.block_lt_of_cell? w _ hw135_3)).trans hw135_3), ((HB.out.cell (World.block_lt_of_cell? w _ hw135_4)).trans hw135_4), ((HB.out.cell (World.block_lt_of_cell? w _ hw135_5)).trans hw135_5)⟩ (fun hHeld => ?_)
        clear hK K
        refine norm_ (a' := ?_) ?_ ?_
        rotate_left
        ·
         show Act.put _ (some 25) _ = _
         simp only [Act.put, List.setIfInBounds_toArray, List.set_cons_zero, List.set_cons_succ, i64_w, i32_w]
         rfl
        refine pure_ (i := 9) (N := some 26) (v := ?_) (a' := ?_) #[oo,oo,oo,oo,oo,oo,oo,oo,oo,oo] rfl rfl (any_of HT_.out (by kernel_rfl)) (fun _ _ _ h => h) (Or.inl ⟨by rfl, ?_⟩) ?_ ?_
        rotate_left
        ·
         intro w'
         go_simp
         with_reducible rfl
        rotate_left
        ·
         simp only [Act.put, List.setIfInBounds_toArray, List.set_cons_zero, List.set_cons_succ, i64_w, i32_w]
         rfl
        refine done_ (done_of HT_.out (by kernel_rfl)) ?_
        try go_wp2
        go_ret
        exact ⟨by first | rfl | (simp [errW_none, errW_some] <;> rfl) | (simp [*, errW_none, errW_some] <;> rfl), by repeat (first | (with_reducible first | exact HB.out | apply below_alloc | apply pw_below_drewN | apply below_drew1) | exact HB.out)⟩
      ·
       rw [if_neg c6] at H
       exact absurd H (by simp)
     ·
      rw [if_neg c5] at H
      exact absurd H (by simp)
    ·
     rw [if_neg c4] at H
     have c4b0 : decide (x5_1 < (l0.length : Int)) = false := decide_eq_false c4
     clear c4
     obtain rfl := Option.some.inj H
     go_wp2
     go_ret
     exact ⟨by first | rfl | (simp [errW_none, errW_some] <;> rfl) | (simp [*, errW_none, errW_some] <;> rfl), by repeat (first | (with_reducible first | exact HB.out | apply below_alloc | apply pw_below_drewN | apply below_drew1) | exact HB.out)⟩
 ·
  rw [if_neg c3] at H
  have c3b0 : ((l0.length : Int) == (l1.length : Int)) = false := beq_eq_false_iff_ne.mpr c3
  have c3b1 : ((l0.length : Int) != (l1.length : Int)) = true := bne_iff_ne.mpr c3
  have c3b2 : (l0.length == l1.length) = false := by first | simpa using c3 | (simp at c3 ⊢; omega)
  obtain rfl := Option.some.inj H
  go_enter Try.func19, Try.ntmps19
  go_wp2
  go_ret
  exact ⟨by first | rfl | (simp [errW_none, errW_some] <;> rfl) | (simp [*, errW_none, errW_some] <;> rfl), by repeat (first | (with_reducible first | exact HB.out | apply below_alloc | apply pw_below_drewN | apply below_drew1) | exact HB.out)⟩
end Go.Proofs.Ytiimiogpiflkdaa.A
end

section
set_option linter.unusedVariables false
set_option linter.unusedSimpArgs false
namespace Go.Proofs.Ytiimiogpiflkdaa.L
open Go Go.RowKit Go.Proofs.Ytiimiogpiflkdaa.A Go.Proofs.YtiimiogpiflkdaaW.PrintWords
abbrev Tm := S61
theorem rdTm {l : List Tm} {n : Nat} (h : n < l.length) : rd_T61 l (n : Int) = l[n] := by
  simp [rd_T61, h]
theorem rdLTm {l : List S64} {n : Nat} (h : n < l.length) : rd_T64 l (n : Int) = l[n] := by
  simp [rd_T64, h]
def cvTm (x : S64) : Tm := ⟨x.f0, x.f1, x.f2, x.f3, x.f4, x.f5⟩
def Small (l : List Tm) : Prop := l.length ≤ 1099511627776 ∧ ∀ x ∈ l, x.f5.length ≤ 1099511627776
theorem szInt_eq (l : List Int) (left : Int) (h0 : 0 ≤ left) (h1 : left ≤ 1048576) (hl : l.length ≤ 9223372036854775807) : laws_szIntS.f l left = some (if left - l.length < 0 then -1 else left - l.length) := by
  unfold laws_szIntS.f
  rw [w64 (by omega) (by omega)]
  split <;> rfl
theorem szTeamS_l0 (l : List S64) (hl : l.length ≤ 1048576) (hi : ∀ x ∈ l, x.f5.length ≤ 9223372036854775807) : ∀ (d n : Nat) (left : Int), n + d = l.length → 0 ≤ left → left ≤ 1048576 → (∀ (i : Nat) (h : i < n) (h' : i < l.length), (l[i]).f5.length ≤ 1048576) → ∃ v, Ev (fun k => laws_szTeamS.l0 k l left (n : Int)) v ∧ v ≤ 1048576 ∧ (0 ≤ v → ∀ x ∈ l, x.f5.length ≤ 1048576) := by
  intro d
  induction d with
  | zero =>
    intro n left hd h0 h1 hp
    refine ⟨left, Ev.step (fun k => laws_szTeamS.l0.eq_2 ..) (Ev.neg (by omega) (Ev.now _)), h1, fun _ x hx => ?_⟩
    obtain ⟨j, hj, rfl⟩ := List.mem_iff_getElem.1 hx
    exact hp j (by omega) hj
  | succ d ih =>
    intro n left hd h0 h1 hp
    have hn : n < l.length := by omega
    have hs := szInt_eq (l[n]).f5 left h0 h1 (hi _ (List.getElem_mem _))
    by_cases hb : left - (l[n]).f5.length < 0
    · rw [if_pos hb] at hs
      have hs2 : laws_szTeam.f (l[n]).f0 (l[n]).f1 (l[n]).f2 (l[n]).f3 (l[n]).f4 (l[n]).f5 left = some (-1) := by
        unfold laws_szTeam.f
        rw [hs]
        rfl
      refine ⟨-1, Ev.step (fun k => laws_szTeamS.l0.eq_2 ..) (Ev.pos (by omega) (Ev.pos (by omega) ?_)), by omega, fun h => by omega⟩
      simp only [rdLTm hn]
      exact Ev.bnd hs2 (Ev.pos (by omega) (Ev.now _))
    · rw [if_neg hb] at hs
      have hs2 : laws_szTeam.f (l[n]).f0 (l[n]).f1 (l[n]).f2 (l[n]).f3 (l[n]).f4 (l[n]).f5 left = some (left - (l[n]).f5.length) := by
        unfold laws_szTeam.f
        rw [hs]
        simp only [Option.bind_some]
        rw [if_neg hb]
      obtain ⟨v, hv, hv1, hv2⟩ := ih (n + 1) (left - (l[n]).f5.length) (by omega) (by omega) (by omega) (fun i h h' => by
        by_cases e : i = n
        · subst e
          omega
        · exact hp i (by omega) h')
      refine ⟨v, Ev.step (fun k => laws_szTeamS.l0.eq_2 ..) (Ev.pos (by omega) (Ev.pos (by omega) ?_)), hv1, hv2⟩
      simp only [rdLTm hn, w64s (show n < 4611686018427387904 by omega)]
      exact Ev.bnd hs2 (Ev.neg (by omega) hv)
theorem szTeamS_ev (l : List S64) (hl : l.length ≤ 9223372036854775807) (hi : ∀ x ∈ l, x.f5.length ≤ 9223372036854775807) : ∃ v, Ev (fun k => laws_szTeamS.f k l 1048576) v ∧ v ≤ 1048576 ∧ (¬ v < 0 → l.length ≤ 1048576 ∧ ∀ x ∈ l, x.f5.length ≤ 1048576) := by
  unfold laws_szTeamS.f
  rw [w64 (by omega) (by omega)]
  by_cases hb : 1048576 - (l.length : Int) < 0
  · exact ⟨-1, Ev.pos hb (Ev.now _), by omega, fun h => by omega⟩
  · obtain ⟨v, hv, hv1, hv2⟩ := szTeamS_l0 l (by omega) hi l.length 0 (1048576 - l.length) (by omega) (by omega) (by omega) (fun i h => by omega)
    exact ⟨v, Ev.neg hb hv, hv1, fun h => ⟨by omega, hv2 (by omega)⟩⟩
theorem toTeam_ev (x : S64) (h : x.f5.length ≤ 1099511627776) : Ev (fun k => laws_toTeam.f k x.f0 x.f1 x.f2 x.f3 x.f4 x.f5) (x.f0, x.f1, x.f2, x.f3, x.f4, x.f5) := by
  unfold laws_toTeam.f
  exact Ev.bind (toIntS_ev x.f5 h) (Ev.now _)
theorem toTeamS_l0 (l : List S64) (hl : l.length ≤ 1099511627776) (hi : ∀ x ∈ l, x.f5.length ≤ 1099511627776) : ∀ (d n : Nat) (xs : List Tm), n + d = l.length → xs.length = l.length → xs.take n = (l.map cvTm).take n → Ev (fun k => laws_toTeamS.l0 k l xs (n : Int)) (l.map cvTm) := by
  intro d
  induction d with
  | zero =>
    intro n xs hd hx ht
    refine Ev.step (fun k => laws_toTeamS.l0.eq_2 ..) ?_
    refine Ev.neg (by omega) (Ev.some_ ?_)
    rw [List.take_of_length_le (by omega), List.take_of_length_le (by simp; omega)] at ht
    exact ht
  | succ d ih =>
    intro n xs hd hx ht
    refine Ev.step (fun k => laws_toTeamS.l0.eq_2 ..) ?_
    refine Ev.pos (by omega) (Ev.pos (by omega) ?_)
    simp only [w64s (show n < 4611686018427387904 by omega), rdLTm (show n < l.length by omega), Int.toNat_natCast]
    refine Ev.bind (toTeam_ev l[n] (hi _ (List.getElem_mem _))) (Ev.pos (by omega) ?_)
    refine ih (n + 1) _ (by omega) (by simp [hx]) ?_
    rw [List.take_succ_eq_append_getElem (by simp; omega), List.take_succ_eq_append_getElem (by simp; omega), List.take_set_of_le (by omega), ht]
    simp [cvTm]
theorem toTeamS_ev (l : List S64) (hl : l.length ≤ 1099511627776) (hi : ∀ x ∈ l, x.f5.length ≤ 1099511627776) : Ev (fun k => laws_toTeamS.f k l) (l.map cvTm) := by
  unfold laws_toTeamS.f
  refine Ev.pos (by omega) (Ev.pos (by simp; omega) ?_)
  exact toTeamS_l0 l hl hi l.length 0 _ (by omega) (by simp) (by simp)
theorem small_map (l : List S64) (hl : l.length ≤ 1099511627776) (hi : ∀ x ∈ l, x.f5.length ≤ 1099511627776) : Small (l.map cvTm) := by
  refine ⟨by simpa using hl, fun x hx => ?_⟩
  obtain ⟨y, hy, rfl⟩ := List.mem_map.1 hx
  exact hi y hy
theorem eqTeam_ev (x : Tm) (h : x.f5.length ≤ 1099511627776) : Ev (fun k => laws_eqTeam.f k x.f0 x.f1 x.f2 x.f3 x.f4 x.f5 x.f0 x.f1 x.f2 x.f3 x.f4 x.f5) true := by
  unfold laws_eqTeam.f
  exact Ev.pos rfl (Ev.pos rfl (Ev.pos rfl (Ev.pos rfl (Ev.pos rfl (Ev.bind (eqIntS_ev _ _ h) (Ev.pos (by simp) (Ev.now _)))))))
theorem eqTeamS_l0 (l : List Tm) (hs : Small l) : ∀ (d n : Nat), n + d = l.length → Ev (fun k => laws_eqTeamS.l0 k l l (n : Int)) true := by
  have hl := hs.1
  intro d
  induction d with
  | zero =>
    intro n hd
    refine Ev.step (fun k => laws_eqTeamS.l0.eq_2 ..) ?_
    exact Ev.neg (by omega) (Ev.now _)
  | succ d ih =>
    intro n hd
    refine Ev.step (fun k => laws_eqTeamS.l0.eq_2 ..) ?_
    refine Ev.pos (by omega) (Ev.pos (by omega) (Ev.pos (by omega) ?_))
    simp only [w64s (show n < 4611686018427387904 by omega), rdTm (show n < l.length by omega)]
    exact Ev.bind (eqTeam_ev l[n] (hs.2 _ (List.getElem_mem _))) (Ev.pos rfl (ih (n + 1) (by omega)))
theorem eqTeamS_ev (l : List Tm) (hs : Small l) : Ev (fun k => laws_eqTeamS.f k l l) true := by
  unfold laws_eqTeamS.f
  exact Ev.pos rfl (eqTeamS_l0 l hs l.length 0 (by omega))
end Go.Proofs.Ytiimiogpiflkdaa.L
end

section
namespace Go.Proofs.Ytiimiogpiflkdaa.A
open Go.RowKit Go.Proofs.YtiimiogpiflkdaaW.PrintWords Go.Proofs.YtiimiogpiflkdaaW.PrintLast Go.Proofs.YtiimiogpiflkdaaW.PrintMore
attribute [local go_sem] max2_int min2_int max_two min_two max_three min_three max_four min_four   -- for this text's walks alone
set_option linter.unusedVariables false
set_option linter.unusedSimpArgs false
def spec_FindTeam.l0 : Nat → List (S61) → Int → Int → Option (Int)
  | 0, _, _, _ => none
  | k + 1, x0, x1, x5 => if x5 < (x0.length : Int) then (if 0 ≤ x5 then (if ((rd_T61 x0 x5).f0) = x1 then (some x5) else (spec_FindTeam.l0 k x0 x1 (wrap64 (x5 + 1)))) else (none)) else (some (-1))
def spec_FindTeam.f (k : Nat) (l0 : List (S61)) (a1 : Int) : Option (Int) := spec_FindTeam.l0 k l0 a1 0
set_option maxHeartbeats 8000000 in
set_option maxRecDepth 100000 in
theorem spec_FindTeam.calls (k : Nat) (A0 : Option Addr) (c0 : Nat) (l0 : List (S61)) (a1 : Int) (r : Int) (w : World) (hr0 : Kd.C k61 w A0 l0.length l0) (hc0 : l0.length ≤ c0) (h : spec_FindTeam.f k l0 a1 = some r) :
  Calls Try.prog 16 #[.slice A0 l0.length c0, .int .i64 a1] w fun e w' => e = .returned (.int .i64 r) ∧ Drawn0 w w' := by
 have HR0 := Aside0.mk hr0
 have HC0 := Aside0.mk hc0
 clear hr0 hc0
 have H : (spec_FindTeam.l0 k l0 a1 0) = some r := h
 clear h
 have H' := Aside0.mk H
 clear H
 go_enter Try.func16, Try.ntmps16
 go_wp2
 go_loopg [5] k (fun kq v5 w' => ∃ (x5_1 : Int), v5 = .int .i64 x5_1 ∧ Aside0 (spec_FindTeam.l0 kq l0 a1 x5_1 = some r) ∧ Aside0 (kq ≤ k) ∧ Drawn0 w w')
 case atStart => exact ⟨(0), (by first | rfl | (simp; done) | (simp [*]; done)), H', ⟨Nat.le_refl _⟩, by repeat (first | exact Drawn0.refl _ | apply Drawn0.step)⟩
 case round =>
  clear H'
  try clear c1
  try clear p2
  obtain ⟨x5_1, rfl, HA, HK1, ⟨m1, rfl⟩⟩ := hrel
  cases gk with
  | zero => exact absurd HA.out (by simp [spec_FindTeam.l0])
  | succ k1 =>
   have H := HA.out
   clear HA
   simp only [spec_FindTeam.l0] at H
   by_cases c3 : x5_1 < (l0.length : Int)
   ·
    rw [if_pos c3] at H
    have c3b0 : decide (x5_1 < (l0.length : Int)) = true := decide_eq_true c3
    clear c3
    by_cases c4 : 0 ≤ x5_1
    ·
     rw [if_pos c4] at H
     have c4b0 : decide (0 ≤ x5_1) = true := decide_eq_true c4
     clear c4
     by_cases c5 : ((rd_T61 l0 x5_1).f0) = a1
     ·
      rw [if_pos c5] at H
      have c5b0 : (((rd_T61 l0 x5_1).f0) == a1) = true := beq_iff_eq.mpr c5
      have c5b1 : (((rd_T61 l0 x5_1).f0) != a1) = false := bne_eq_false_iff_eq.mpr c5
      clear c5
      obtain rfl := Option.some.inj H
      have p138 : 0 ≤ (x5_1 : Int) := of_decide_eq_true (by first | (with_reducible assumption) | assumption)
      have q138 : x5_1 < (l0.length : Int) := of_decide_eq_true (by first | (with_reducible assumption) | assumption)
      obtain ⟨ad138, A138_5, c138_5, e138, hx138_0, hx138_1, hx138_2, hx138_3, hx138_4, hx138_5, hl138_5, hi138_5⟩ := at_T61 HR0.out x5_1 p138 q138
      cases e138
      have HR138_5 := Aside0.mk hi138_5
      have HC138_5 := Aside0.mk hl138_5
      clear hi138_5 hl138_5
      replace p138 := eq_true p138
      replace q138 := eq_true q138
      go_wp2
      go_ret
      exact ⟨by first | rfl | (simp; done) | (simp [*]; done), by repeat (first | exact Drawn0.refl _ | apply Drawn0.step)⟩
     ·
      rw [if_neg c5] at H
      have c5b0 : (((rd_T61 l0 x5_1).f0) == a1) = false := beq_eq_false_iff_ne.mpr c5
      have c5b1 : (((rd_T61 l0 x5_1).f0) != a1) = true := bne_iff_ne.mpr c5
      have H' := Aside0.mk H
      clear H
      have p138 : 0 ≤ (x5_1 : Int) := of_decide_eq_true (by first | (with_reducible assumption) | assumption)
      have q138 : x5_1 < (l0.length : Int) := of_decide_eq_true (by first | (with_reducible assumption) | assumption)
      obtain ⟨ad138, A138_5, c138_5, e138, hx138_0, hx138_1, hx138_2, hx138_3, hx138_4, hx138_5, hl138_5, hi138_5⟩ := at_T61 HR0.out x5_1 p138 q138
      cases e138
      have HR138_5 := Aside0.mk hi138_5
      have HC138_5 := Aside0.mk hl138_5
      clear hi138_5 hl138_5
      replace p138 := eq_true p138
      replace q138 := eq_true q138
      go_wp2
      go_roundg k1
      case measure => have := HK1.out; omega
      case rel => exact ⟨(wrap64 (x5_1 + 1)), (by first | rfl | (simp; done) | (simp [*]; done)), H', ⟨by have := HK1.out; omega⟩, by repeat (first | exact Drawn0.refl _ | apply Drawn0.step)⟩
    ·
     rw [if_neg c4] at H
     exact absurd H (by simp)
   ·
    rw [if_neg c3] at H
    have c3b0 : decide (x5_1 < (l0.length : Int)) = false := decide_eq_false c3
    clear c3
    obtain rfl := Option.some.inj H
    go_wp2
    go_ret
    exact ⟨by first | rfl | (simp; done) | (simp [*]; done), by repeat (first | exact Drawn0.refl _ | apply Drawn0.step)⟩
end Go.Proofs.Ytiimiogpiflkdaa.A
end

section
namespace Go.Proofs.Ytiimiogpiflkdaa.A
open Go.RowKit Go.Proofs.YtiimiogpiflkdaaW.PrintWords Go.Proofs.YtiimiogpiflkdaaW.PrintLast Go.Proofs.YtiimiogpiflkdaaW.PrintMore
attribute [local go_sem] max2_int min2_int max_two min_two max_three min_three max_four min_four   -- for this text's walks alone
set_option linter.unusedVariables false
set_option linter.unusedSimpArgs false

def fidx {α : Type} (p : α → Bool) (l : List α) : Int := match l.findIdx? p with
  | some i => (i : Int)
  | none => -1
theorem fidx_hit {α : Type} (p : α → Bool) (l : List α) (n : Nat) (h : n < l.length) (hp : p l[n] = true) (hb : ∀ (j : Nat) (hj : j < l.length), j < n → p l[j] = false) : fidx p l = n := by
  have : l.findIdx? p = some n := by
    rw [List.findIdx?_eq_some_iff_getElem]
    exact ⟨h, hp, fun j hj => by rw [hb j (by omega) hj]; simp⟩
  simp [fidx, this]
theorem fidx_miss {α : Type} (p : α → Bool) (l : List α) (hb : ∀ (j : Nat) (hj : j < l.length), p l[j] = false) : fidx p l = -1 := by
  have : l.findIdx? p = none := by
    rw [List.findIdx?_eq_none_iff]
    intro x hx
    obtain ⟨j, hj, rfl⟩ := List.mem_iff_getElem.1 hx
    exact hb j hj
  simp [fidx, this]
set_option maxHeartbeats 2000000 in
set_option maxRecDepth 100000 in
theorem IndexFuncTeam_calls (A0 : Option Addr) (c0 : Nat) (l0 : List S61) (p : S61 → Bool) (lb : Array Value) (g : Nat) (w : World)
    (eg : ∀ args w, (callFunc g args).run Try.prog w = .ok (.enter g args) w)
    (hp : ∀ (x : S61) (v5 : Value) (W : World), Below w.heap.size w W → Calls Try.prog g (#[.agg #[.int .i64 x.f0, .int .i64 x.f1, .int .i64 x.f2, .int .i64 x.f3, .int .i64 x.f4, v5]] ++ lb) W fun e w' => e = .returned (.bool (p x)) ∧ Below w.heap.size w w')
    (hr0 : Kd.C k61 w A0 l0.length l0) :
    Calls Try.prog 56 #[.slice A0 l0.length c0, .func (.func g) #[] lb] w fun e w' => e = .returned (.int .i64 (fidx p l0)) ∧ Below w.heap.size w w' := by
  have hu61 := Try.underlying61
  have HR0 := Aside0.mk hr0
  have HL := Aside0.mk hr0.2.1
  have HP := Aside0.mk hp
  clear hr0 hp
  go_enter Try.func56, Try.ntmps56
  go_wp2
  go_loopg [5, 8] l0.length (fun gg _ v8 w' => ∃ i : Int, v8 = .int .i64 i ∧ Aside0 (0 ≤ i ∧ i ≤ l0.length ∧ l0.length - i ≤ gg) ∧ Aside0 (Below w.heap.size w w') ∧ Aside0 (∀ (j : Nat) (hj : j < l0.length), (j : Int) < i → p l0[j] = false))
  case atStart => exact ⟨0, rfl, ⟨by omega⟩, ⟨Below.refl _ w⟩, ⟨fun j _ hj => by omega⟩⟩
  case round =>
    obtain ⟨i, rfl, HI, HB, HA⟩ := hrel
    by_cases hlt : i < (l0.length : Int)
    · have hltb : decide (i < (l0.length : Int)) = true := decide_eq_true hlt
      have h0 : 0 ≤ i := HI.out.1
      obtain ⟨ad, A5, c5, e0, x0, x1, x2, x3, x4, x5, _⟩ := at_T61 HR0.out i h0 hlt
      cases e0
      have HX := Aside0.mk (HP.out (rd_T61 l0 i) (.slice A5 (rd_T61 l0 i).f5.length c5) _ HB.out)
      have HE : Aside0 (∃ h : i.toNat < l0.length, rd_T61 l0 i = l0[i.toNat]) := ⟨⟨by omega, by simp [rd_T61, show i.toNat < l0.length by omega]⟩⟩
      replace x0 := (HB.out.cell (World.block_lt_of_cell? w _ x0)).trans x0
      replace x1 := (HB.out.cell (World.block_lt_of_cell? w _ x1)).trans x1
      replace x2 := (HB.out.cell (World.block_lt_of_cell? w _ x2)).trans x2
      replace x3 := (HB.out.cell (World.block_lt_of_cell? w _ x3)).trans x3
      replace x4 := (HB.out.cell (World.block_lt_of_cell? w _ x4)).trans x4
      replace x5 := (HB.out.cell (World.block_lt_of_cell? w _ x5)).trans x5
      replace h0 := eq_true h0
      replace hlt := eq_true hlt
      cases hq : p (rd_T61 l0 i) with
      | true =>
        have HQ2 : Aside0 (p (rd_T61 l0 i) = true) := ⟨hq⟩
        have hcall := HX.out
        rw [hq] at hcall
        clear hq
        go_wp2_with (go_at_fn g; refine hcall.mono ?_; rintro e w' ⟨rfl, hb'⟩)
        go_ret
        refine ⟨?_, hb'⟩
        obtain ⟨hj, he⟩ := HE.out
        have := HI.out
        have hQ := HQ2.out
        rw [he] at hQ
        rw [fidx_hit p l0 i.toNat hj hQ (fun j hj hl => HA.out j hj (by omega)), show ((i.toNat : Nat) : Int) = i by omega]; rfl
      | false =>
        have HQ2 : Aside0 (p (rd_T61 l0 i) = false) := ⟨hq⟩
        have hcall := HX.out
        rw [hq] at hcall
        clear hq
        have HW : Aside0 (wrap64 (i + 1) = i + 1) := ⟨by have := HL.out; have := HI.out; have := of_eq_true hlt; unfold wrap64; omega⟩
        have HLT : Aside0 (i < (l0.length : Int)) := ⟨of_eq_true hlt⟩
        go_wp2_with (go_at_fn g; refine hcall.mono ?_; rintro e w' ⟨rfl, hb'⟩)
        go_roundg (l0.length - (i.toNat + 1))
        case measure => have := HI.out; have := HLT.out; omega
        case rel =>
          refine ⟨i + 1, by rw [HW.out], ⟨by have := HI.out; have := HLT.out; omega⟩, ⟨hb'⟩, ⟨fun j hj hjn => ?_⟩⟩
          obtain ⟨hj2, he⟩ := HE.out
          by_cases e : (j : Int) = i
          · have hQ := HQ2.out
            rw [he] at hQ
            have : i.toNat = j := by omega
            subst this
            exact hQ
          · exact HA.out j hj (by omega)
    · have hltb : decide (i < (l0.length : Int)) = false := decide_eq_false hlt
      have HLT : Aside0 (¬ i < (l0.length : Int)) := ⟨hlt⟩
      clear hlt
      go_wp2
      go_ret
      exact ⟨by rw [fidx_miss p l0 (fun j hj => HA.out j hj (by have := HLT.out; omega))]; rfl, HB.out⟩
set_option maxHeartbeats 2000000 in
set_option maxRecDepth 100000 in
theorem FindTeam_pred (a1 : Int) (B : Nat) (w : World) (hB : B < w.heap.size) (hcell : w.cell? ⟨B, 0, none⟩ = some (.int .i64 a1)) (x : S61) (v5 : Value) (W : World) (hb : Below w.heap.size w W) :
    Calls Try.prog 57 (#[.agg #[.int .i64 x.f0, .int .i64 x.f1, .int .i64 x.f2, .int .i64 x.f3, .int .i64 x.f4, v5]] ++ #[.pointer (some ⟨B, 0, none⟩)]) W fun e w' => e = .returned (.bool (decide (x.f0 = a1))) ∧ Below w.heap.size w w' := by
  have hu61 := Try.underlying61
  have hc : W.cell? ⟨B, 0, none⟩ = some (.int .i64 a1) := (hb.cell (p := ⟨B, 0, none⟩) hB).trans hcell
  have hBW : B < W.heap.size := Nat.lt_of_lt_of_le hB hb.size
  have hne : B ≠ W.heap.size := by omega
  have HB := Aside0.mk hb
  clear hb hcell
  show Calls Try.prog 57 #[.agg #[.int .i64 x.f0, .int .i64 x.f1, .int .i64 x.f2, .int .i64 x.f3, .int .i64 x.f4, v5], .pointer (some ⟨B, 0, none⟩)] W _
  go_enter Try.func57, Try.ntmps57
  go_wp2
  all_goals (go_ret; exact ⟨by first | (simp_all; done) | (have e : (x.f0 == a1) = decide (x.f0 = a1) := Bool.eq_iff_iff.2 (by simp); simp_all), HB.out.alloc HB.out.size _⟩)
def impl_FindTeam.f (l0 : List (S61)) (a1 : Int) : Option (Int) := some (fidx (fun t => decide (t.f0 = a1)) l0)
set_option maxHeartbeats 2000000 in
set_option maxRecDepth 100000 in
theorem impl_FindTeam.calls (A0 : Option Addr) (c0 : Nat) (l0 : List (S61)) (a1 : Int) (r : Int) (w : World) (hr0 : Kd.C k61 w A0 l0.length l0) (hc0 : l0.length ≤ c0) (h : impl_FindTeam.f l0 a1 = some r) :
  Calls Try.prog 18 #[.slice A0 l0.length c0, .int .i64 a1] w fun e w' => e = .returned (.int .i64 r) ∧ Below w.heap.size w w' := by
 have eg : ∀ args w, (callFunc 57 args).run Try.prog w = .ok (.enter 57 args) w := enters_of Try.func57 (by kernel_rfl) rfl
 have hb0 : Below w.heap.size w (w.alloc (.cells #[.int .i64 a1] 3)) := (Below.refl _ w).alloc (Nat.le_refl _) _
 have hcon := IndexFuncTeam_calls A0 c0 l0 (fun t => decide (t.f0 = a1)) #[.pointer (some ⟨w.heap.size, 0, none⟩)] 57 (w.alloc (.cells #[.int .i64 a1] 3)) eg
  (fun x v5 W hW => FindTeam_pred a1 w.heap.size _ (by simp) (by simp) x v5 W hW) (Kd.C_below hr0 hb0)
 have HH : Aside0 (impl_FindTeam.f l0 a1 = some r) := ⟨h⟩
 have HB := Aside0.mk hb0
 clear h hr0 hb0 eg
 have e : fidx (fun t : S61 => decide (t.f0 = a1)) l0 = r := Option.some.inj HH.out
 rw [e] at hcon
 clear e HH
 go_enter Try.func18, Try.ntmps18
 go_wp2_with (go_at_call 56; refine hcon.mono ?_; rintro e w' ⟨rfl, hb'⟩)
 go_ret
 exact ⟨rfl, HB.out.trans (hb'.mono (by simp))⟩
end Go.Proofs.Ytiimiogpiflkdaa.A
end

section
set_option linter.unusedVariables false
set_option linter.unusedSimpArgs false
namespace Go.Proofs.Ytiimiogpiflkdaa.L
open Go Go.RowKit Go.Proofs.Ytiimiogpiflkdaa.A Go.Proofs.YtiimiogpiflkdaaW.PrintWords
def findT (l : List Tm) (id : Int) : Int := fidx (fun t => decide (t.f0 = id)) l
theorem iFindTeam_eq (l : List Tm) (id : Int) : impl_FindTeam.f l id = some (findT l id) := rfl
theorem fidx_cons {α : Type} (p : α → Bool) (x : α) (l : List α) : fidx p (x :: l) = if p x = true then 0 else if fidx p l < 0 then -1 else fidx p l + 1 := by
  unfold fidx
  rw [List.findIdx?_cons]
  by_cases h : p x = true
  · simp [h]
  · rw [if_neg h, if_neg h]
    cases l.findIdx? p with
    | none => simp
    | some i =>
      simp only [Option.map_some]
      rw [if_neg (by omega)]
      omega
theorem fidx_nil {α : Type} (p : α → Bool) : fidx p ([] : List α) = -1 := rfl
theorem fidx_range {α : Type} (p : α → Bool) : ∀ l : List α, -1 ≤ fidx p l ∧ fidx p l < l.length
  | [] => by simp [fidx_nil]
  | x :: l => by
    have := fidx_range p l
    rw [fidx_cons]
    simp only [List.length_cons]
    split
    · omega
    · split <;> omega
theorem fidx_at {α : Type} (p : α → Bool) (l : List α) (h : 0 ≤ fidx p l) : ∃ (hl : (fidx p l).toNat < l.length), p (l[(fidx p l).toNat]) = true := by
  unfold fidx at h ⊢
  cases e : l.findIdx? p with
  | none => rw [e] at h; simp at h
  | some i =>
    rw [List.findIdx?_eq_some_iff_getElem] at e
    obtain ⟨hi, hp, _⟩ := e
    exact ⟨by simpa using hi, by simpa using hp⟩
theorem sFindTeam_l0 (l : List Tm) (id : Int) (hl : l.length ≤ 1099511627776) : ∀ (d n : Nat), n + d = l.length → Ev (fun k => spec_FindTeam.l0 k l id (n : Int)) (if findT (l.drop n) id < 0 then -1 else n + findT (l.drop n) id) := by
  intro d
  induction d with
  | zero =>
    intro n hd
    refine Ev.step (fun k => spec_FindTeam.l0.eq_2 ..) ?_
    refine Ev.neg (by omega) (Ev.some_ ?_)
    rw [List.drop_eq_nil_of_le (by omega)]
    simp [findT, fidx_nil]
  | succ d ih =>
    intro n hd
    refine Ev.step (fun k => spec_FindTeam.l0.eq_2 ..) ?_
    refine Ev.pos (by omega) (Ev.pos (by omega) ?_)
    simp only [w64s (show n < 4611686018427387904 by omega), rdTm (show n < l.length by omega)]
    have h1 := ih (n + 1) (by omega)
    rw [List.drop_eq_getElem_cons (show n < l.length by omega)]
    generalize l.drop (n + 1) = u at h1 ⊢
    have hr := fidx_range (fun t : Tm => decide (t.f0 = id)) u
    refine Ev.ite (fun h => Ev.some_ ?_) (fun h => Ev.cast h1 ?_)
    · simp [findT, fidx_cons, h]
    · have e : findT (l[n] :: u) id = if findT u id < 0 then -1 else findT u id + 1 := by
        unfold findT
        rw [fidx_cons, if_neg (by simpa using h)]
      rw [e]
      have hr' : -1 ≤ findT u id := hr.1
      by_cases hu : findT u id < 0
      · simp [hu]
      · have h2 : ¬ findT u id + 1 < 0 := by omega
        rw [if_neg hu, if_neg hu, if_neg h2]
        omega
theorem sFindTeam_ev (l : List Tm) (id : Int) (hl : l.length ≤ 1099511627776) : Ev (fun k => spec_FindTeam.f k l id) (findT l id) := by
  unfold spec_FindTeam.f
  refine Ev.cast (sFindTeam_l0 l id hl l.length 0 (by omega)) ?_
  have hr := fidx_range (fun t : Tm => decide (t.f0 = id)) l
  simp only [List.drop_zero]
  split
  · unfold findT at *
    omega
  · omega
theorem findT_range (l : List Tm) (id : Int) : -1 ≤ findT l id ∧ findT l id < l.length := fidx_range _ l
theorem rdTm_int {l : List Tm} {i : Int} (h0 : 0 ≤ i) (h1 : i < l.length) : ∃ h : i.toNat < l.length, rd_T61 l i = l[i.toNat] := by
  refine ⟨by omega, ?_⟩
  obtain ⟨m, rfl⟩ : ∃ m : Nat, i = m := ⟨i.toNat, by omega⟩
  rw [rdTm (by omega)]
  simp
theorem rdTm_mem {l : List Tm} {i : Int} (h0 : 0 ≤ i) (h1 : i < l.length) : rd_T61 l i ∈ l := by
  obtain ⟨h, e⟩ := rdTm_int h0 h1
  rw [e]
  exact List.getElem_mem _
end Go.Proofs.Ytiimiogpiflkdaa.L
end

section
namespace Go.Proofs.Ytiimiogpiflkdaa.A
open Go.RowKit Go.Proofs.YtiimiogpiflkdaaW.PrintWords Go.Proofs.YtiimiogpiflkdaaW.PrintLast Go.Proofs.YtiimiogpiflkdaaW.PrintMore
attribute [local go_sem] max2_int min2_int max_two min_two max_three min_three max_four min_four   -- for this text's walks alone
set_option linter.unusedVariables false
set_option linter.unusedSimpArgs false
def spec_l19Count.l0 : Nat → List Int → Int → Int → Int → Option (Int)
  | 0, _, _, _, _ => none
  | k + 1, x0, x1, x5, x6 => if x6 < (x0.length : Int) then (if 0 ≤ x6 then (if (rd x0 x6) = x1 then (spec_l19Count.l0 k x0 x1 (wrap64 (x5 + 1)) (wrap64 (x6 + 1))) else (spec_l19Count.l0 k x0 x1 x5 (wrap64 (x6 + 1)))) else (none)) else (some x5)
def spec_l19Count.f (k : Nat) (l0 : List Int) (a1 : Int) : Option (Int) := spec_l19Count.l0 k l0 a1 0 0
set_option maxHeartbeats 8000000 in
set_option maxRecDepth 100000 in
theorem spec_l19Count.calls (k : Nat) (A0 : Option Addr) (c0 : Nat) (l0 : List Int) (a1 : Int) (r : Int) (w : World) (hr0 : Kd.C (Kd.int .i64) w A0 l0.length l0) (hc0 : l0.length ≤ c0) (h : spec_l19Count.f k l0 a1 = some r) :
  Calls Try.prog 60 #[.slice A0 l0.length c0, .int .i64 a1] w fun e w' => e = .returned (.int .i64 r) ∧ Drawn0 w w' := by
 have HR0 := Aside0.mk hr0
 have HC0 := Aside0.mk hc0
 clear hr0 hc0
 have H : (spec_l19Count.l0 k l0 a1 0 0) = some r := h
 clear h
 have H' := Aside0.mk H
 clear H
 go_enter Try.func60, Try.ntmps60
 go_wp2
 go_loopg [5, 6] k (fun kq v5 v6 w' => ∃ (x5_1 : Int) (x6_1 : Int), v5 = .int .i64 x5_1 ∧ v6 = .int .i64 x6_1 ∧ Aside0 (spec_l19Count.l0 kq l0 a1 x5_1 x6_1 = some r) ∧ Aside0 (kq ≤ k) ∧ Drawn0 w w')
 case atStart => exact ⟨(0), (0), (by first | rfl | (simp; done) | (simp [*]; done)), (by first | rfl | (simp; done) | (simp [*]; done)), H', ⟨Nat.le_refl _⟩, by repeat (first | exact Drawn0.refl _ | apply Drawn0.step)⟩
 case round =>
  clear H'
  try clear p2
  obtain ⟨x5_1, x6_1, rfl, rfl, HA, HK1, ⟨m1, rfl⟩⟩ := hrel
  cases gk with
  | zero => exact absurd HA.out (by simp [spec_l19Count.l0])
  | succ k1 =>
   have H := HA.out
   clear HA
   simp only [spec_l19Count.l0] at H
   by_cases c3 : x6_1 < (l0.length : Int)
   ·
    rw [if_pos c3] at H
    have c3b0 : decide (x6_1 < (l0.length : Int)) = true := decide_eq_true c3
    clear c3
    by_cases c4 : 0 ≤ x6_1
    ·
     rw [if_pos c4] at H
     have c4b0 : decide (0 ≤ x6_1) = true := decide_eq_true c4
     clear c4
     by_cases c5 : (rd l0 x6_1) = a1
     ·
      rw [if_pos c5] at H
      have c5b0 : ((rd l0 x6_1) == a1) = true := beq_iff_eq.mpr c5
      have c5b1 : ((rd l0 x6_1) != a1) = false := bne_eq_false_iff_eq.mpr c5
      clear c5
      have H' := Aside0.mk H
      clear H
      have p139 : 0 ≤ (x6_1 : Int) := of_decide_eq_true (by first | (with_reducible assumption) | assumption)
      have q139 : x6_1 < (l0.length : Int) := of_decide_eq_true (by first | (with_reducible assumption) | assumption)
      obtain ⟨ad139, e139, hx139_0⟩ := Kd.at_int HR0.out x6_1 p139 q139
      cases e139
      replace p139 := eq_true p139
      replace q139 := eq_true q139
      go_wp2
      go_roundg k1
      case measure => have := HK1.out; omega
      case rel => exact ⟨(wrap64 (x5_1 + 1)), (wrap64 (x6_1 + 1)), (by first | rfl | (simp; done) | (simp [*]; done)), (by first | rfl | (simp; done) | (simp [*]; done)), H', ⟨by have := HK1.out; omega⟩, by repeat (first | exact Drawn0.refl _ | apply Drawn0.step)⟩
     ·
      rw [if_neg c5] at H
      have c5b0 : ((rd l0 x6_1) == a1) = false := beq_eq_false_iff_ne.mpr c5
      have c5b1 : ((rd l0 x6_1) != a1) = true := bne_iff_ne.mpr c5
      have H' := Aside0.mk H
      clear H
      have p139 : 0 ≤ (x6_1 : Int) := of_decide_eq_true (by first | (with_reducible assumption) | assumption)
      have q139 : x6_1 < (l0.length : Int) := of_decide_eq_true (by first | (with_reducible assumption) | assumption)
      obtain ⟨ad139, e139, hx139_0⟩ := Kd.at_int HR0.out x6_1 p139 q139
      cases e139
      replace p139 := eq_true p139
      replace q139 := eq_true q139
      go_wp2
      go_roundg k1
      case measure => have := HK1.out; omega
      case rel => exact ⟨(x5_1), (wrap64 (x6_1 + 1)), (by first | rfl | (simp; done) | (simp [*]; done)), (by first | rfl | (simp; done) | (simp [*]; done)), H', ⟨by have := HK1.out; omega⟩, by repeat (first | exact Drawn0.refl _ | apply Drawn0.step)⟩
    ·
     rw [if_neg c4] at H
     exact absurd H (by simp)
   ·
    rw [if_neg c3] at H
    have c3b0 : decide (x6_1 < (l0.length : Int)) = false := decide_eq_false c3
    clear c3
    obtain rfl := Option.some.inj H
    go_wp2
    go_ret
    exact ⟨by first | rfl | (simp; done) | (simp [*]; done), by repeat (first | exact Drawn0.refl _ | apply Drawn0.step)⟩
end Go.Proofs.Ytiimiogpiflkdaa.A
end

section
namespace Go.Proofs.Ytiimiogpiflkdaa.A
open Go.RowKit Go.Proofs.YtiimiogpiflkdaaW.PrintWords Go.Proofs.YtiimiogpiflkdaaW.PrintLast Go.Proofs.YtiimiogpiflkdaaW.PrintMore
attribute [local go_sem] max2_int min2_int max_two min_two max_three min_three max_four min_four   -- for this text's walks alone
set_option linter.unusedVariables false
set_option linter.unusedSimpArgs false
def impl_times.l0 : Nat → Int → Int → List Int → Int → Int → Option (Int)
  | 0, _, _, _, _, _ => none
  | k + 1, x1, x5, x8, x9, x10 => if x10 < x9 then (if 0 ≤ x10 then (if x10 < (x8.length : Int) then (if (rd x8 x10) = x1 then (impl_times.l0 k x1 (wrap64 (x5 + 1)) x8 x9 (wrap64 (x10 + 1))) else (impl_times.l0 k x1 x5 x8 x9 (wrap64 (x10 + 1)))) else (none)) else (none)) else (some x5)
def impl_times.f (k : Nat) (l0 : List Int) (a1 : Int) : Option (Int) := impl_times.l0 k a1 0 l0 (l0.length : Int) 0
set_option maxHeartbeats 8000000 in
set_option maxRecDepth 100000 in
theorem impl_times.calls (k : Nat) (A0 : Option Addr) (c0 : Nat) (l0 : List Int) (a1 : Int) (r : Int) (w : World) (hr0 : Kd.C (Kd.int .i64) w A0 l0.length l0) (hc0 : l0.length ≤ c0) (h : impl_times.f k l0 a1 = some r) :
  Calls Try.prog 62 #[.slice A0 l0.length c0, .int .i64 a1] w fun e w' => e = .returned (.int .i64 r) ∧ Drawn0 w w' := by
 have HR0 := Aside0.mk hr0
 have HC0 := Aside0.mk hc0
 clear hr0 hc0
 have H : (impl_times.l0 k a1 0 l0 (l0.length : Int) 0) = some r := h
 clear h
 have H' := Aside0.mk H
 clear H
 go_enter Try.func62, Try.ntmps62
 go_wp2
 go_loopg [5, 10] k (fun kq v5 v10 w' => ∃ (x5_1 : Int) (x10_1 : Int), v5 = .int .i64 x5_1 ∧ v10 = .int .i64 x10_1 ∧ Aside0 (impl_times.l0 kq a1 x5_1 l0 (l0.length : Int) x10_1 = some r) ∧ Aside0 (kq ≤ k) ∧ Drawn0 w w')
 case atStart => exact ⟨(0), (0), (by first | rfl | (simp; done) | (simp [*]; done)), (by first | rfl | (simp; done) | (simp [*]; done)), H', ⟨Nat.le_refl _⟩, by repeat (first | exact Drawn0.refl _ | apply Drawn0.step)⟩
 case round =>
  clear H'
  try clear p2
  obtain ⟨x5_1, x10_1, rfl, rfl, HA, HK1, ⟨m1, rfl⟩⟩ := hrel
  cases gk with
  | zero => exact absurd HA.out (by simp [impl_times.l0])
  | succ k1 =>
   have H := HA.out
   clear HA
   simp only [impl_times.l0] at H
   by_cases c3 : x10_1 < (l0.length : Int)
   ·
    rw [if_pos c3] at H
    have c3b0 : decide (x10_1 < (l0.length : Int)) = true := decide_eq_true c3
    clear c3
    by_cases c4 : 0 ≤ x10_1
    ·
     rw [if_pos c4] at H
     have c4b0 : decide (0 ≤ x10_1) = true := decide_eq_true c4
     clear c4
     by_cases c5 : x10_1 < (l0.length : Int)
     ·
      rw [if_pos c5] at H
      have c5b0 : decide (x10_1 < (l0.length : Int)) = true := decide_eq_true c5
      clear c5
      by_cases c6 : (rd l0 x10_1) = a1
      ·
       rw [if_pos c6] at H
       have c6b0 : ((rd l0 x10_1) == a1) = true := beq_iff_eq.mpr c6
       have c6b1 : ((rd l0 x10_1) != a1) = false := bne_eq_false_iff_eq.mpr c6
       clear c6
       have H' := Aside0.mk H
       clear H
       have p187 : 0 ≤ (x10_1 : Int) := of_decide_eq_true (by first | (with_reducible assumption) | assumption)
       have q187 : x10_1 < (l0.length : Int) := of_decide_eq_true (by first | (with_reducible assumption) | assumption)
       obtain ⟨ad187, e187, hx187_0⟩ := Kd.at_int HR0.out x10_1 p187 q187
       cases e187
       replace p187 := eq_true p187
       replace q187 := eq_true q187
       go_wp2
       go_roundg k1
       case measure => have := HK1.out; omega
       case rel => exact ⟨(wrap64 (x5_1 + 1)), (wrap64 (x10_1 + 1)), (by first | rfl | (simp; done) | (simp [*]; done)), (by first | rfl | (simp; done) | (simp [*]; done)), H', ⟨by have := HK1.out; omega⟩, by repeat (first | exact Drawn0.refl _ | apply Drawn0.step)⟩
      ·
       rw [if_neg c6] at H
       have c6b0 : ((rd l0 x10_1) == a1) = false := beq_eq_false_iff_ne.mpr c6
       have c6b1 : ((rd l0 x10_1) != a1) = true := bne_iff_ne.mpr c6
       have H' := Aside0.mk H
       clear H
       have p187 : 0 ≤ (x10_1 : Int) := of_decide_eq_true (by first | (with_reducible assumption) | assumption)
       have q187 : x10_1 < (l0.length : Int) := of_decide_eq_true (by first | (with_reducible assumption) | assumption)
       obtain ⟨ad187, e187, hx187_0⟩ := Kd.at_int HR0.out x10_1 p187 q187
       cases e187
       replace p187 := eq_true p187
       replace q187 := eq_true q187
       go_wp2
       go_roundg k1
       case measure => have := HK1.out; omega
       case rel => exact ⟨(x5_1), (wrap64 (x10_1 + 1)), (by first | rfl | (simp; done) | (simp [*]; done)), (by first | rfl | (simp; done) | (simp [*]; done)), H', ⟨by have := HK1.out; omega⟩, by repeat (first | exact Drawn0.refl _ | apply Drawn0.step)⟩
     ·
      rw [if_neg c5] at H
      exact absurd H (by simp)
    ·
     rw [if_neg c4] at H
     exact absurd H (by simp)
   ·
    rw [if_neg c3] at H
    have c3b0 : decide (x10_1 < (l0.length : Int)) = false := decide_eq_false c3
    clear c3
    obtain rfl := Option.some.inj H
    go_wp2
    go_ret
    exact ⟨by first | rfl | (simp; done) | (simp [*]; done), by repeat (first | exact Drawn0.refl _ | apply Drawn0.step)⟩
end Go.Proofs.Ytiimiogpiflkdaa.A
end

section
set_option linter.unusedVariables false
set_option linter.unusedSimpArgs false
namespace Go.Proofs.Ytiimiogpiflkdaa.L
open Go Go.RowKit Go.Proofs.Ytiimiogpiflkdaa.A Go.Proofs.YtiimiogpiflkdaaW.PrintWords
theorem l19Count_l0 (l : List Int) (x : Int) (hl : l.length ≤ 1099511627776) : ∀ (d n c : Nat), n + d = l.length → c ≤ n → Ev (fun k => spec_l19Count.l0 k l x (c : Int) (n : Int)) ((c + (l.drop n).count x : Nat) : Int) := by
  intro d
  induction d with
  | zero =>
    intro n c hd hc
    refine Ev.step (fun k => spec_l19Count.l0.eq_2 ..) ?_
    refine Ev.neg (by omega) (Ev.some_ ?_)
    rw [List.drop_eq_nil_of_le (by omega)]
    simp
  | succ d ih =>
    intro n c hd hc
    refine Ev.step (fun k => spec_l19Count.l0.eq_2 ..) ?_
    refine Ev.pos (by omega) (Ev.pos (by omega) ?_)
    simp only [w64s (show n < 4611686018427387904 by omega), w64s (show c < 4611686018427387904 by omega), rd_at (show n < l.length by omega)]
    rw [List.drop_eq_getElem_cons (show n < l.length by omega), List.count_cons]
    refine Ev.ite (fun h => Ev.cast (ih (n + 1) (c + 1) (by omega) (by omega)) ?_) (fun h => Ev.cast (ih (n + 1) c (by omega) (by omega)) ?_)
    · simp only [h, beq_self_eq_true, if_true]
      omega
    · simp [h]
theorem l19Count_ev (l : List Int) (x : Int) (hl : l.length ≤ 1099511627776) : Ev (fun k => spec_l19Count.f k l x) (l.count x : Int) := by
  unfold spec_l19Count.f
  exact Ev.cast (l19Count_l0 l x hl l.length 0 0 (by omega) (by omega)) (by simp)
theorem times_l0 (l : List Int) (x : Int) (hl : l.length ≤ 1099511627776) : ∀ (d n c : Nat), n + d = l.length → c ≤ n → Ev (fun k => impl_times.l0 k x (c : Int) l (l.length : Int) (n : Int)) ((c + (l.drop n).count x : Nat) : Int) := by
  intro d
  induction d with
  | zero =>
    intro n c hd hc
    refine Ev.step (fun k => impl_times.l0.eq_2 ..) ?_
    refine Ev.neg (by omega) (Ev.some_ ?_)
    rw [List.drop_eq_nil_of_le (by omega)]
    simp
  | succ d ih =>
    intro n c hd hc
    refine Ev.step (fun k => impl_times.l0.eq_2 ..) ?_
    refine Ev.pos (by omega) (Ev.pos (by omega) (Ev.pos (by omega) ?_))
    simp only [w64s (show n < 4611686018427387904 by omega), w64s (show c < 4611686018427387904 by omega), rd_at (show n < l.length by omega)]
    rw [List.drop_eq_getElem_cons (show n < l.length by omega), List.count_cons]
    refine Ev.ite (fun h => Ev.cast (ih (n + 1) (c + 1) (by omega) (by omega)) ?_) (fun h => Ev.cast (ih (n + 1) c (by omega) (by omega)) ?_)
    · simp only [h, beq_self_eq_true, if_true]
      omega
    · simp [h]
theorem times_ev (l : List Int) (x : Int) (hl : l.length ≤ 1099511627776) : Ev (fun k => impl_times.f k l x) (l.count x : Int) := by
  unfold impl_times.f
  exact Ev.cast (times_l0 l x hl l.length 0 0 (by omega) (by omega)) (by simp)
end Go.Proofs.Ytiimiogpiflkdaa.L
end

section
namespace Go.Proofs.Ytiimiogpiflkdaa.A
open Go.RowKit Go.Proofs.YtiimiogpiflkdaaW.PrintWords Go.Proofs.YtiimiogpiflkdaaW.PrintLast Go.Proofs.YtiimiogpiflkdaaW.PrintMore
attribute [local go_sem] max2_int min2_int max_two min_two max_three min_three max_four min_four   -- for this text's walks alone
set_option linter.unusedVariables false
set_option linter.unusedSimpArgs false
def spec_l1In.f (a0 : Int) (a1 : Int) (a2 : Int) : Option (Bool) := if a0 ≥ a1 then (some (decide (a0 ≤ a2))) else (some false)
set_option maxHeartbeats 8000000 in
set_option maxRecDepth 100000 in
theorem spec_l1In.calls (a0 : Int) (a1 : Int) (a2 : Int) (r : Bool) (w : World) (h : spec_l1In.f a0 a1 a2 = some r) :
  Calls Try.prog 59 #[.int .i64 a0, .int .i64 a1, .int .i64 a2] w fun e w' => e = .returned (.bool r) ∧ Drawn0 w w' := by
 have H : (if a0 ≥ a1 then (some (decide (a0 ≤ a2))) else (some false)) = some r := h
 clear h
 by_cases c4 : a0 ≥ a1
 ·
  rw [if_pos c4] at H
  have c4b0 : decide (a1 ≤ a0) = true := decide_eq_true c4
  clear c4
  obtain rfl := Option.some.inj H
  go_enter Try.func59, Try.ntmps59
  go_wp2
  go_ret
  exact ⟨by first | rfl | (simp; done) | (simp [*]; done), by repeat (first | exact Drawn0.refl _ | apply Drawn0.step)⟩
 ·
  rw [if_neg c4] at H
  have c4b0 : decide (a1 ≤ a0) = false := decide_eq_false c4
  clear c4
  obtain rfl := Option.some.inj H
  go_enter Try.func59, Try.ntmps59
  go_wp2
  go_ret
  exact ⟨by first | rfl | (simp; done) | (simp [*]; done), by repeat (first | exact Drawn0.refl _ | apply Drawn0.step)⟩
end Go.Proofs.Ytiimiogpiflkdaa.A
end

section
set_option linter.unusedVariables false
set_option linter.unusedSimpArgs false
namespace Go.Proofs.Ytiimiogpiflkdaa.L
open Go Go.RowKit Go.Proofs.Ytiimiogpiflkdaa.A Go.Proofs.YtiimiogpiflkdaaW.PrintWords
theorem l1In_eq (a b c : Int) : spec_l1In.f a b c = some (inR a b c) := by
  unfold spec_l1In.f inR
  by_cases h : a ≥ b
  · rw [if_pos h]; congr 1; simp; omega
  · rw [if_neg h]; congr 1; simp; omega
end Go.Proofs.Ytiimiogpiflkdaa.L
end

section
namespace Go.Proofs.Ytiimiogpiflkdaa.A
open Go.RowKit Go.Proofs.YtiimiogpiflkdaaW.PrintWords Go.Proofs.YtiimiogpiflkdaaW.PrintLast Go.Proofs.YtiimiogpiflkdaaW.PrintMore
attribute [local go_sem] max2_int min2_int max_two min_two max_three min_three max_four min_four   -- for this text's walks alone
set_option linter.unusedVariables false
set_option linter.unusedSimpArgs false
def impl_InRange.f (a0 : Int) (a1 : Int) (a2 : Int) : Option (Bool) := if a1 ≤ a0 then (some (decide (a0 ≤ a2))) else (some false)
set_option maxHeartbeats 8000000 in
set_option maxRecDepth 100000 in
theorem impl_InRange.calls (a0 : Int) (a1 : Int) (a2 : Int) (r : Bool) (w : World) (h : impl_InRange.f a0 a1 a2 = some r) :
  Calls Try.prog 61 #[.int .i64 a0, .int .i64 a1, .int .i64 a2] w fun e w' => e = .returned (.bool r) ∧ Drawn0 w w' := by
 have H : (if a1 ≤ a0 then (some (decide (a0 ≤ a2))) else (some false)) = some r := h
 clear h
 by_cases c4 : a1 ≤ a0
 ·
  rw [if_pos c4] at H
  have c4b0 : decide (a1 ≤ a0) = true := decide_eq_true c4
  clear c4
  obtain rfl := Option.some.inj H
  go_enter Try.func61, Try.ntmps61
  go_wp2
  go_ret
  exact ⟨by first | rfl | (simp; done) | (simp [*]; done), by repeat (first | exact Drawn0.refl _ | apply Drawn0.step)⟩
 ·
  rw [if_neg c4] at H
  have c4b0 : decide (a1 ≤ a0) = false := decide_eq_false c4
  clear c4
  obtain rfl := Option.some.inj H
  go_enter Try.func61, Try.ntmps61
  go_wp2
  go_ret
  exact ⟨by first | rfl | (simp; done) | (simp [*]; done), by repeat (first | exact Drawn0.refl _ | apply Drawn0.step)⟩
end Go.Proofs.Ytiimiogpiflkdaa.A
end

section
set_option linter.unusedVariables false
set_option linter.unusedSimpArgs false
namespace Go.Proofs.Ytiimiogpiflkdaa.L
open Go Go.RowKit Go.Proofs.Ytiimiogpiflkdaa.A Go.Proofs.YtiimiogpiflkdaaW.PrintWords
theorem InRange_eq (a b c : Int) : impl_InRange.f a b c = some (inR a b c) := by
  unfold impl_InRange.f inR
  by_cases h : b ≤ a
  · rw [if_pos h]; congr 1; simp; omega
  · rw [if_neg h]; congr 1; simp; omega
end Go.Proofs.Ytiimiogpiflkdaa.L
end

section
set_option linter.unusedVariables false
set_option linter.unusedSimpArgs false
namespace Go.Proofs.Ytiimiogpiflkdaa.L
open Go Go.RowKit Go.Proofs.Ytiimiogpiflkdaa.A Go.Proofs.YtiimiogpiflkdaaW.PrintWords
abbrev rdT (l : List Tm) (i : Int) : Tm := rd_T61 l i
def rowT (l : List Tm) (n : Int) : Bool :=
  inR (rdT l n).f0 1 99 && inR (rdT l n).f1 1 99 && inR (rdT l n).f2 0 ((rdT l n).f5.length : Int) && inR (rdT l n).f4 0 ((rdT l n).f5.length : Int) && inR (rdT l n).f3 0 100000 && decide (¬ ((rdT l n).f5.length : Int) > 20) && decide (¬ (n > 0 ∧ (rdT l (n - 1)).f0 ≥ (rdT l n).f0))
def metB (l : List Tm) (n : Int) (id : Int) : Bool := decide (0 ≤ findT l id ∧ findT l id ≠ n ∧ (((rdT l (findT l id)).f5.count (rdT l n).f0 : Nat) : Int) = (((rdT l n).f5.count id : Nat) : Int))
def okT (l : List Tm) (n : Int) : Bool := rowT l n && (rdT l n).f5.all (metB l n)
def tlT (l : List Tm) : Nat → Nat → Bool
  | 0, _ => decide (l.length ≤ 10)
  | d + 1, n => okT l n && tlT l d (n + 1)
def areT (l : List Tm) : Bool := tlT l l.length 0
theorem findT_id {l : List Tm} {id : Int} (h : 0 ≤ findT l id) : (rdT l (findT l id)).f0 = id := by
  obtain ⟨hl, hp⟩ := fidx_at (fun t : Tm => decide (t.f0 = id)) l h
  obtain ⟨_, e⟩ := rdTm_int h (findT_range l id).2
  show (rd_T61 l (findT l id)).f0 = id
  rw [e]
  exact of_decide_eq_true hp
def ascT (l : List Tm) (n : Nat) : Prop := ∀ i : Nat, i < n → (rdT l i).f0 < (rdT l (i + 1 : Nat)).f0
theorem ascT_lt {l : List Tm} {n : Nat} (h : ascT l n) : ∀ (j i : Nat), i < j → j ≤ n → (rdT l i).f0 < (rdT l j).f0 := by
  intro j
  induction j with
  | zero => intro i hi; omega
  | succ j ih =>
    intro i hi hj
    have h1 := h j (by omega)
    by_cases e : i = j
    · subst e
      exact h1
    · have := ih i (by omega) (by omega)
      omega
theorem findT_self {l : List Tm} {n : Nat} (h : ascT l n) (hn : n < l.length) : findT l (rdT l n).f0 = n := by
  have e : l.findIdx? (fun t : Tm => decide (t.f0 = (rdT l n).f0)) = some n := by
    rw [List.findIdx?_eq_some_iff_getElem]
    refine ⟨hn, by simp [rdT, rdTm hn], fun j hj => ?_⟩
    have := ascT_lt h n j hj (Nat.le_refl _)
    rw [rdT, rdTm (show j < l.length by omega)] at this
    simp only [decide_eq_true_eq]
    omega
  unfold findT fidx
  rw [e]
theorem tlT_big (l : List Tm) (h : ¬ l.length ≤ 10) : ∀ (d n : Nat), tlT l d n = false
  | 0, _ => decide_eq_false h
  | d + 1, n => by rw [tlT, tlT_big l h d (n + 1), Bool.and_false]
theorem tlT_no (l : List Tm) : ∀ (d n i : Nat), n ≤ i → i < n + d → okT l i = false → tlT l d n = false
  | 0, n, i, h1, h2, _ => by omega
  | d + 1, n, i, h1, h2, h3 => by
    rw [tlT]
    by_cases e : i = n
    · subst e
      rw [h3, Bool.false_and]
    · rw [tlT_no l d (n + 1) i (by omega) (by omega) h3, Bool.and_false]
theorem areT_no {l : List Tm} {i : Nat} (hi : i < l.length) (h : okT l i = false) : areT l = false := tlT_no l l.length 0 i (by omega) (by omega) h
theorem areT_big {l : List Tm} (h : ¬ l.length ≤ 10) : areT l = false := tlT_big l h _ _
theorem tlT_yes (l : List Tm) (h10 : l.length ≤ 10) : ∀ (d n : Nat), (∀ i : Nat, n ≤ i → i < n + d → okT l i = true) → tlT l d n = true
  | 0, n, _ => decide_eq_true h10
  | d + 1, n, h => by rw [tlT, h n (by omega) (by omega), tlT_yes l h10 d (n + 1) (fun i h1 h2 => h i (by omega) (by omega))]; rfl
theorem areT_yes {l : List Tm} (h10 : l.length ≤ 10) (h : ∀ i : Nat, i < l.length → okT l i = true) : areT l = true := tlT_yes l h10 _ _ (fun i _ h2 => h i (by omega))
theorem okT_row {l : List Tm} {i : Nat} (h : okT l i = true) : rowT l i = true := by
  unfold okT at h
  exact (Bool.and_eq_true_iff.1 h).1
theorem rowT_asc {l : List Tm} {i : Nat} (h : rowT l (i + 1 : Nat) = true) : (rdT l i).f0 < (rdT l (i + 1 : Nat)).f0 := by
  unfold rowT at h
  have h1 := (Bool.and_eq_true_iff.1 h).2
  have h2 := of_decide_eq_true h1
  have e : (((i + 1 : Nat) : Int) - 1) = (i : Int) := by omega
  rw [e] at h2
  have : ¬ (rdT l i).f0 ≥ (rdT l (i + 1 : Nat)).f0 := fun h => h2 ⟨by omega, h⟩
  omega
theorem asc_of {l : List Tm} {n : Nat} (h : ∀ j : Nat, j < n → okT l j = true) (hr : rowT l n = true) : ascT l n := by
  intro i hi
  by_cases e : i + 1 = n
  · subst e
    exact rowT_asc hr
  · exact rowT_asc (okT_row (h (i + 1) (by omega)))
theorem row_no1 {l : List Tm} {n : Int} (h : inR (rdT l n).f0 1 99 = false) : rowT l n = false := by simp [rowT, h]
theorem row_no2 {l : List Tm} {n : Int} (h : inR (rdT l n).f1 1 99 = false) : rowT l n = false := by simp [rowT, h]
theorem row_no3 {l : List Tm} {n : Int} (h : inR (rdT l n).f2 0 ((rdT l n).f5.length : Int) = false) : rowT l n = false := by simp [rowT, h]
theorem row_no4 {l : List Tm} {n : Int} (h : inR (rdT l n).f4 0 ((rdT l n).f5.length : Int) = false) : rowT l n = false := by simp [rowT, h]
theorem row_no5 {l : List Tm} {n : Int} (h : inR (rdT l n).f3 0 100000 = false) : rowT l n = false := by simp [rowT, h]
theorem row_no6 {l : List Tm} {n : Int} (h : 20 < ((rdT l n).f5.length : Int)) : rowT l n = false := by
  have : decide (¬ ((rdT l n).f5.length : Int) > 20) = false := decide_eq_false (fun h2 => h2 h)
  simp only [rowT, this, Bool.and_false, Bool.false_and]
theorem row_no7 {l : List Tm} {n : Int} (h0 : 0 < n) (h : (rdT l n).f0 ≤ (rdT l (n - 1)).f0) : rowT l n = false := by
  have : decide (¬ (n > 0 ∧ (rdT l (n - 1)).f0 ≥ (rdT l n).f0)) = false := decide_eq_false (fun h2 => h2 ⟨h0, h⟩)
  simp only [rowT, this, Bool.and_false]
theorem row_yes {l : List Tm} {n : Int} (h1 : inR (rdT l n).f0 1 99 = true) (h2 : inR (rdT l n).f1 1 99 = true) (h3 : inR (rdT l n).f2 0 ((rdT l n).f5.length : Int) = true) (h4 : inR (rdT l n).f4 0 ((rdT l n).f5.length : Int) = true) (h5 : inR (rdT l n).f3 0 100000 = true) (h6 : ¬ 20 < ((rdT l n).f5.length : Int)) (h7 : 0 < n → ¬ (rdT l n).f0 ≤ (rdT l (n - 1)).f0) : rowT l n = true := by
  have d6 : decide (¬ ((rdT l n).f5.length : Int) > 20) = true := decide_eq_true h6
  have d7 : decide (¬ (n > 0 ∧ (rdT l (n - 1)).f0 ≥ (rdT l n).f0)) = true := decide_eq_true (fun h => h7 h.1 h.2)
  simp only [rowT, h1, h2, h3, h4, h5, d6, d7, Bool.and_true]
def smallT (l : List Tm) : Bool := decide (l.length ≤ 1099511627776) && l.all (fun x => decide (x.f5.length ≤ 1099511627776))
theorem small_of {l : List Tm} (h : smallT l = true) : Small l := by
  have h2 := Bool.and_eq_true_iff.1 h
  exact ⟨of_decide_eq_true h2.1, fun x hx => of_decide_eq_true ((List.all_eq_true.1 h2.2) x hx)⟩
theorem of_small {l : List Tm} (h : Small l) : smallT l = true := by
  unfold smallT
  rw [decide_eq_true h.1, Bool.true_and, List.all_eq_true]
  exact fun x hx => decide_eq_true (h.2 x hx)
end Go.Proofs.Ytiimiogpiflkdaa.L
end

section
set_option linter.unusedVariables false
set_option linter.unusedSimpArgs false
namespace Go.Proofs.Ytiimiogpiflkdaa.A
open Go.RowKit Go.Proofs.YtiimiogpiflkdaaW.PrintWords Go.Proofs.YtiimiogpiflkdaaW.PrintLast Go.Proofs.YtiimiogpiflkdaaW.PrintMore Go.Shelf Go.Proofs.Ytiimiogpiflkdaa.L
theorem atIntT {w : World} {A : Option Addr} {xs : List Int} (h : Kd.C (Kd.int .i64) w A xs.length xs) (i : Nat) (hi : i < xs.length) : ∃ ad, A = some ad ∧ w.cell? (ad.add i) = some (.int .i64 xs[i]) := by
  obtain ⟨ad, e, hc⟩ := h.2.2 (by omega)
  obtain ⟨c, _, hr, hcell⟩ := hc i xs[i] (List.getElem?_eq_getElem hi)
  have hr' : c = [Value.int .i64 xs[i]] := hr
  subst hr'
  refine ⟨ad, e, ?_⟩
  have := hcell 0 _ rfl
  have e1 : (Kd.int .i64).sz = 1 := rfl
  simpa [e1] using this
theorem box6 {w W : World} {g t : Nat} {z0 z1 z2 z3 z4 z5 : Value} (h : W.heap[g]? = some (.cells #[z0, z1, z2, z3, z4, z5] t (0, 0))) (hb : Below w.heap.size w W) (hg : w.heap.size ≤ g) (v0 v1 v2 v3 v4 v5 : Value) :
    ∃ W2, W2 = ((((((W.setCell ⟨g, 0, none⟩ v0).setCell ⟨g, 1, none⟩ v1).setCell ⟨g, 2, none⟩ v2).setCell ⟨g, 3, none⟩ v3).setCell ⟨g, 4, none⟩ v4).setCell ⟨g, 5, none⟩ v5) ∧ W2.heap[g]? = some (.cells #[v0, v1, v2, v3, v4, v5] t (0, 0)) ∧ Below w.heap.size w W2 := by
  refine ⟨_, rfl, ?_, ?_⟩
  · refine blk_put (cs := #[v0, v1, v2, v3, v4, z5]) ?_ 5 _ rfl
    refine blk_put (cs := #[v0, v1, v2, v3, z4, z5]) ?_ 4 _ rfl
    refine blk_put (cs := #[v0, v1, v2, z3, z4, z5]) ?_ 3 _ rfl
    refine blk_put (cs := #[v0, v1, z2, z3, z4, z5]) ?_ 2 _ rfl
    refine blk_put (cs := #[v0, z1, z2, z3, z4, z5]) ?_ 1 _ rfl
    exact blk_put h 0 _ rfl
  · exact below_set (below_set (below_set (below_set (below_set (below_set hb hg) hg) hg) hg) hg) hg
def tmAt (W : World) (p : Addr) (x : S61) (A : Option Addr) (c : Nat) : Prop := W.cell? p = some (.int .i64 x.f0) ∧ W.cell? ⟨p.block, p.off + 1, none⟩ = some (.int .i64 x.f1) ∧ W.cell? ⟨p.block, p.off + 2, none⟩ = some (.int .i64 x.f2) ∧ W.cell? ⟨p.block, p.off + 3, none⟩ = some (.int .i64 x.f3) ∧ W.cell? ⟨p.block, p.off + 4, none⟩ = some (.int .i64 x.f4) ∧ W.cell? ⟨p.block, p.off + 5, none⟩ = some (.slice A x.f5.length c)
theorem tmAt_of {W : World} {A : Option Addr} {l : List S61} (h : Kd.C k61 W A l.length l) (i : Nat) (hi : i < l.length) : ∃ ad A5 c5, A = some ad ∧ tmAt W (ad.add (i * 6)) (rdT l (i : Int)) A5 c5 ∧ (rdT l (i : Int)).f5.length ≤ c5 ∧ Kd.C (Kd.int .i64) W A5 (rdT l (i : Int)).f5.length (rdT l (i : Int)).f5 := by
  obtain ⟨ad, A5, c5, e0, x0, x1, x2, x3, x4, x5, hl5, hi5⟩ := at_T61 h (i : Int) (by omega) (by omega)
  simp only [Int.toNat_natCast] at x0 x1 x2 x3 x4 x5
  exact ⟨ad, A5, c5, e0, ⟨x0, x1, x2, x3, x4, x5⟩, hl5, hi5⟩
theorem tmAt.below {w W : World} {p : Addr} {x : S61} {A : Option Addr} {c : Nat} (h : tmAt w p x A c) (hb : Below w.heap.size w W) : tmAt W p x A c := by
  obtain ⟨h0, h1, h2, h3, h4, h5⟩ := h
  have L : ∀ {q : Addr} {v : Value}, w.cell? q = some v → W.cell? q = some v := fun h => (hb.cell (World.block_lt_of_cell? w _ h)).trans h
  exact ⟨L h0, L h1, L h2, L h3, L h4, L h5⟩
theorem cells6 {W : World} {g t : Nat} {v0 v1 v2 v3 v4 v5 : Value} (h : W.heap[g]? = some (.cells #[v0, v1, v2, v3, v4, v5] t (0, 0))) : (W.cell? ⟨g, 0, none⟩ = some v0 ∧ W.cell? ⟨g, 1, none⟩ = some v1 ∧ W.cell? ⟨g, 2, none⟩ = some v2 ∧ W.cell? ⟨g, 3, none⟩ = some v3 ∧ W.cell? ⟨g, 4, none⟩ = some v4 ∧ W.cell? ⟨g, 5, none⟩ = some v5) ∧ (W.frozen? ⟨g, 0, none⟩ = false ∧ W.frozen? ⟨g, 1, none⟩ = false ∧ W.frozen? ⟨g, 2, none⟩ = false ∧ W.frozen? ⟨g, 3, none⟩ = false ∧ W.frozen? ⟨g, 4, none⟩ = false ∧ W.frozen? ⟨g, 5, none⟩ = false) :=
  ⟨⟨(blk_cell h 0).trans rfl, (blk_cell h 1).trans rfl, (blk_cell h 2).trans rfl, (blk_cell h 3).trans rfl, (blk_cell h 4).trans rfl, (blk_cell h 5).trans rfl⟩, blk_frozen h 0, blk_frozen h 1, blk_frozen h 2, blk_frozen h 3, blk_frozen h 4, blk_frozen h 5⟩
def impl_AreTeams.f (k : Nat) (l0 : List S61) : Option Bool := if smallT l0 = true then some (areT l0) else none
theorem impl_timesex (l : List Int) (x : Int) (hl : l.length ≤ 1099511627776) : ∃ k, impl_times.f k l x = some ((l.count x : Nat) : Int) := by
  obtain ⟨k, h⟩ := times_ev l x hl
  exact ⟨k, h k (Nat.le_refl _)⟩
set_option maxHeartbeats 16000000 in
set_option maxRecDepth 100000 in
theorem impl_AreTeams.calls (k : Nat) (A0 : Option Addr) (c0 : Nat) (l0 : List S61) (r : Bool) (w : World) (hr0 : Kd.C k61 w A0 l0.length l0) (hc0 : l0.length ≤ c0) (h : impl_AreTeams.f k l0 = some r) :
    Calls Try.prog 21 #[.slice A0 l0.length c0] w fun e w' => e = .returned (.bool r) ∧ Below w.heap.size w w' := by
  unfold impl_AreTeams.f at h
  by_cases hs : smallT l0 = true
  rotate_left
  · rw [if_neg hs] at h
    cases h
  rw [if_pos hs] at h
  have hr := Option.some.inj h
  have hsm := small_of hs
  clear h hs
  have hu61 := Try.underlying61
  have HR0 := Aside0.mk hr0
  have HC0 := Aside0.mk hc0
  have HR := Aside0.mk hr
  have HS := Aside0.mk hsm
  clear hr0 hc0 hr hsm
  by_cases h10 : l0.length ≤ 10
  rotate_left
  · have hb : (10 < (l0.length : Int)) = True := eq_true (by omega)
    have hb2 : (10 < l0.length) = True := eq_true (by omega)
    have HR1 : Aside0 (r = false) := ⟨by rw [← HR.out, areT_big h10]⟩
    clear h10
    go_enter Try.func21, Try.ntmps21
    go_wp2
    go_ret
    exact ⟨by rw [HR1.out]; rfl, Below.refl _ _⟩
  have hb : (10 < (l0.length : Int)) = False := eq_false (by omega)
  have hb2 : (10 < l0.length) = False := eq_false (by omega)
  have H10 := Aside0.mk h10
  clear h10
  go_enter Try.func21, Try.ntmps21
  go_wp2
  go_loopg [14] l0.length (fun gg v14 wr => ∃ kk : Nat, v14 = .int .i64 kk ∧ Aside0 (kk ≤ l0.length ∧ l0.length - kk ≤ gg) ∧ Aside0 (∀ j : Nat, j < kk → okT l0 j = true) ∧ Aside0 (Below w.heap.size w wr))
  case atStart => exact ⟨0, rfl, ⟨by omega⟩, ⟨fun j hj => by omega⟩, ⟨Below.refl _ w⟩⟩
  case round =>
    clear hb hb2
    obtain ⟨kk, rfl, HI, HOK, HB⟩ := hrel
    by_cases hlt : kk < l0.length
    rotate_left
    · have hltb : ((kk : Int) < (l0.length : Int)) = False := eq_false (by omega)
      have HR1 : Aside0 (r = true) := ⟨by rw [← HR.out]; exact areT_yes H10.out (fun i hi => HOK.out i (by omega))⟩
      clear hlt
      go_wp2
      go_ret
      exact ⟨by rw [HR1.out]; rfl, HB.out⟩
    have hltb : ((kk : Int) < (l0.length : Int)) = True := eq_true (by omega)
    obtain ⟨ad, A5, c5, e0, hat, hl5, hi5⟩ := tmAt_of HR0.out kk hlt
    subst e0
    obtain ⟨x0, x1, x2, x3, x4, x5⟩ := hat.below HB.out
    clear hat
    obtain ⟨x, hx⟩ : ∃ x, rdT l0 (kk : Int) = x := ⟨_, rfl⟩
    rw [hx] at x0 x1 x2 x3 x4 x5 hl5 hi5
    have hx5 : x.f5.length ≤ 1099511627776 := by rw [← hx]; exact HS.out.2 _ (rdTm_mem (by omega) (by omega))
    have HX := Aside0.mk hx
    have HLT := Aside0.mk hlt
    have HL5 := Aside0.mk hl5
    have HX5 := Aside0.mk hx5
    have HI6 : Aside0 (∀ W, Below w.heap.size w W → Kd.C (Kd.int .i64) W A5 x.f5.length x.f5) := ⟨fun W h => Kd.C_below hi5 h⟩
    clear hx hlt hi5 hl5 hx5
    go_upto_region 7 with (first | ((with_reducible refine gate_dst (N := 4) rfl ?_); refine box_event ?hg (N := 4) ?hd (cs := #[.int .i64 0, .int .i64 0, .int .i64 0, .int .i64 0, .int .i64 0, .slice none 0 0]) (t := 61) ?hr ?_; (case hd => rfl); (case hg => rfl); (case hr => first | (go_simp; done) | (go_simp; rfl)); intro gb hg w7 hbox hb; have HBX := Aside0.mk hbox; have HG := Aside0.mk (show w.heap.size ≤ gb by rw [hg]; exact below_size (by repeat (first | exact HB.out | apply pw_below_drewN | apply below_drew1))); have HB7 := Aside0.mk (below_step (by repeat (first | exact HB.out | apply pw_below_drewN | apply below_drew1)) hb); clear hb hg; obtain ⟨⟨hz0, hz1, hz2, hz3, hz4, hz5⟩, hf0, hf1, hf2, hf3, hf4, hf5⟩ := cells6 hbox; clear hbox))
    try simp only [Act.put, Z1, Z2, Z3]
    obtain ⟨w8, e8, hbx, hb8⟩ := box6 HBX.out HB7.out HG.out (.int .i64 x.f0) (.int .i64 x.f1) (.int .i64 x.f2) (.int .i64 x.f3) (.int .i64 x.f4) (.slice A5 x.f5.length c5)
    rw [← e8]
    clear e8 hz0 hz1 hz2 hz3 hz4 hz5 hf0 hf1 hf2 hf3 hf4 hf5 x0 x1 x2 x3 x4 x5 HBX HB7
    have HBX := Aside0.mk hbx
    have HB8 := Aside0.mk hb8
    obtain ⟨⟨hz0, hz1, hz2, hz3, hz4, hz5⟩, _⟩ := cells6 hbx
    clear hbx hb8
    have hI : ∀ (a lo hi : Int) (b : Bool), inR a lo hi = b → ∀ W, Calls Try.prog 61 #[.int .i64 a, .int .i64 lo, .int .i64 hi] W fun e w' => e = .returned (.bool b) ∧ Drawn0 W w' := fun a lo hi b e W => impl_InRange.calls a lo hi b W (by rw [InRange_eq, e])
    obtain ⟨b1, hb1⟩ : ∃ b, inR x.f0 1 99 = b := ⟨_, rfl⟩
    obtain ⟨b2, hb2⟩ : ∃ b, inR x.f1 1 99 = b := ⟨_, rfl⟩
    obtain ⟨b3, hb3⟩ : ∃ b, inR x.f2 0 (x.f5.length : Int) = b := ⟨_, rfl⟩
    obtain ⟨b4, hb4⟩ : ∃ b, inR x.f4 0 (x.f5.length : Int) = b := ⟨_, rfl⟩
    obtain ⟨b5, hb5⟩ : ∃ b, inR x.f3 0 100000 = b := ⟨_, rfl⟩
    have hI1 := hI _ _ _ _ hb1
    have hI2 := hI _ _ _ _ hb2
    have hI3 := hI _ _ _ _ hb3
    have hI4 := hI _ _ _ _ hb4
    have hI5 := hI _ _ _ _ hb5
    have HE1 := Aside0.mk hb1
    have HE2 := Aside0.mk hb2
    have HE3 := Aside0.mk hb3
    have HE4 := Aside0.mk hb4
    have HE5 := Aside0.mk hb5
    clear hI hb1 hb2 hb3 hb4 hb5
    go_cut [70] (fun v70 wc => ∃ b : Bool, v70 = .bool b ∧ Aside0 (b = !rowT l0 (kk : Int)) ∧ Aside0 (wc.heap[gb]? = some (.cells #[.int .i64 x.f0, .int .i64 x.f1, .int .i64 x.f2, .int .i64 x.f3, .int .i64 x.f4, .slice A5 x.f5.length c5] 61 (0, 0))) ∧ Aside0 (Below w.heap.size w wc))
    case first =>
      cases b1 with
      | false =>
        have HRW : Aside0 (rowT l0 (kk : Int) = false) := ⟨row_no1 (by rw [HX.out]; exact HE1.out)⟩
        go_quiet ((go_at_call 61; (with_reducible first | refine (hI1 _).mono ?_ | refine (hI2 _).mono ?_ | refine (hI3 _).mono ?_ | refine (hI4 _).mono ?_ | refine (hI5 _).mono ?_); rintro e w' ⟨rfl, nd, rfl⟩; exact ⟨rfl, _, World.drewN_drewN ..⟩))
        try go_wp2
        go_meet
        case rel => exact ⟨true, rfl, ⟨by rw [HRW.out]; rfl⟩, ⟨blk_drewN HBX.out _⟩, ⟨pw_below_drewN HB8.out _⟩⟩
      | true =>
        by_cases hk0 : 0 < kk
        rotate_left
        · have hkb : (0 < (kk : Int)) = False := eq_false (by omega)
          have hkbn : (0 < kk) = False := eq_false hk0
          have HAS : Aside0 (0 < (kk : Int) → ¬ x.f0 ≤ (rdT l0 ((kk : Int) - 1)).f0) := ⟨fun h => by omega⟩
          clear hk0
          cases b2 with
          | false =>
            have HRW : Aside0 (rowT l0 (kk : Int) = false) := ⟨row_no2 (by rw [HX.out]; exact HE2.out)⟩
            go_quiet ((go_at_call 61; (with_reducible first | refine (hI1 _).mono ?_ | refine (hI2 _).mono ?_ | refine (hI3 _).mono ?_ | refine (hI4 _).mono ?_ | refine (hI5 _).mono ?_); rintro e w' ⟨rfl, nd, rfl⟩; exact ⟨rfl, _, World.drewN_drewN ..⟩))
            try go_wp2
            go_meet
            case rel => exact ⟨true, rfl, ⟨by rw [HRW.out]; rfl⟩, ⟨blk_drewN HBX.out _⟩, ⟨pw_below_drewN HB8.out _⟩⟩
          | true =>
            by_cases h20 : 20 < (x.f5.length : Int)
            · have H20 := Aside0.mk h20
              have hd20 : (20 < (x.f5.length : Int)) = True := eq_true h20
              have hd20n : (20 < x.f5.length) = True := eq_true (by omega)
              clear h20
              have HRW : Aside0 (rowT l0 (kk : Int) = false) := ⟨row_no6 (by rw [HX.out]; exact H20.out)⟩
              go_quiet ((go_at_call 61; (with_reducible first | refine (hI1 _).mono ?_ | refine (hI2 _).mono ?_ | refine (hI3 _).mono ?_ | refine (hI4 _).mono ?_ | refine (hI5 _).mono ?_); rintro e w' ⟨rfl, nd, rfl⟩; exact ⟨rfl, _, World.drewN_drewN ..⟩))
              try go_wp2
              go_meet
              case rel => exact ⟨true, rfl, ⟨by rw [HRW.out]; rfl⟩, ⟨blk_drewN HBX.out _⟩, ⟨pw_below_drewN HB8.out _⟩⟩
            · have H20 := Aside0.mk h20
              have hd20 : (20 < (x.f5.length : Int)) = False := eq_false h20
              have hd20n : (20 < x.f5.length) = False := eq_false (by omega)
              clear h20
              cases b3 with
              | false =>
                have HRW : Aside0 (rowT l0 (kk : Int) = false) := ⟨row_no3 (by rw [HX.out]; exact HE3.out)⟩
                go_quiet ((go_at_call 61; (with_reducible first | refine (hI1 _).mono ?_ | refine (hI2 _).mono ?_ | refine (hI3 _).mono ?_ | refine (hI4 _).mono ?_ | refine (hI5 _).mono ?_); rintro e w' ⟨rfl, nd, rfl⟩; exact ⟨rfl, _, World.drewN_drewN ..⟩))
                try go_wp2
                go_meet
                case rel => exact ⟨true, rfl, ⟨by rw [HRW.out]; rfl⟩, ⟨blk_drewN HBX.out _⟩, ⟨pw_below_drewN HB8.out _⟩⟩
              | true =>
                cases b4 with
                | false =>
                  have HRW : Aside0 (rowT l0 (kk : Int) = false) := ⟨row_no4 (by rw [HX.out]; exact HE4.out)⟩
                  go_quiet ((go_at_call 61; (with_reducible first | refine (hI1 _).mono ?_ | refine (hI2 _).mono ?_ | refine (hI3 _).mono ?_ | refine (hI4 _).mono ?_ | refine (hI5 _).mono ?_); rintro e w' ⟨rfl, nd, rfl⟩; exact ⟨rfl, _, World.drewN_drewN ..⟩))
                  try go_wp2
                  go_meet
                  case rel => exact ⟨true, rfl, ⟨by rw [HRW.out]; rfl⟩, ⟨blk_drewN HBX.out _⟩, ⟨pw_below_drewN HB8.out _⟩⟩
                | true =>
                  cases b5 with
                  | false =>
                    have HRW : Aside0 (rowT l0 (kk : Int) = false) := ⟨row_no5 (by rw [HX.out]; exact HE5.out)⟩
                    go_quiet ((go_at_call 61; (with_reducible first | refine (hI1 _).mono ?_ | refine (hI2 _).mono ?_ | refine (hI3 _).mono ?_ | refine (hI4 _).mono ?_ | refine (hI5 _).mono ?_); rintro e w' ⟨rfl, nd, rfl⟩; exact ⟨rfl, _, World.drewN_drewN ..⟩))
                    try go_wp2
                    go_meet
                    case rel => exact ⟨true, rfl, ⟨by rw [HRW.out]; rfl⟩, ⟨blk_drewN HBX.out _⟩, ⟨pw_below_drewN HB8.out _⟩⟩
                  | true =>
                    have HRW : Aside0 (rowT l0 (kk : Int) = true) := ⟨row_yes (by rw [HX.out]; exact HE1.out) (by rw [HX.out]; exact HE2.out) (by rw [HX.out]; exact HE3.out) (by rw [HX.out]; exact HE4.out) (by rw [HX.out]; exact HE5.out) (by rw [HX.out]; exact H20.out) (by rw [HX.out]; exact HAS.out)⟩
                    go_quiet ((go_at_call 61; (with_reducible first | refine (hI1 _).mono ?_ | refine (hI2 _).mono ?_ | refine (hI3 _).mono ?_ | refine (hI4 _).mono ?_ | refine (hI5 _).mono ?_); rintro e w' ⟨rfl, nd, rfl⟩; exact ⟨rfl, _, World.drewN_drewN ..⟩))
                    try go_wp2
                    go_meet
                    case rel => exact ⟨false, rfl, ⟨by rw [HRW.out]; rfl⟩, ⟨blk_drewN HBX.out _⟩, ⟨pw_below_drewN HB8.out _⟩⟩
        have hkb : (0 < (kk : Int)) = True := eq_true (by omega)
        have hkbn : (0 < kk) = True := eq_true hk0
        obtain ⟨m, hm⟩ : ∃ m : Nat, (kk : Int) - 1 = (m : Int) := ⟨kk - 1, by omega⟩
        obtain ⟨ad2, A52, c52, e2, ⟨y0, _⟩, _⟩ := tmAt_of (Kd.C_below HR0.out HB8.out) m (by have := HLT.out; omega)
        cases e2
        obtain ⟨q, hq⟩ : ∃ q, (rdT l0 (m : Int)).f0 = q := ⟨_, rfl⟩
        rw [hq] at y0
        have hwk : IntKind.i64.wrap ((kk : Int) - 1) = (m : Int) := by rw [hm, IntKind.wrap_i64]; have := HLT.out; have := HS.out.1; omega
        have hwk2 : wrap64 ((kk : Int) - 1) = (m : Int) := (i64_w _).symm.trans hwk
        have hml : ((m : Int) < (l0.length : Int)) = True := eq_true (by have := HLT.out; omega)
        have HQ : Aside0 ((rdT l0 ((kk : Int) - 1)).f0 = q) := ⟨by rw [hm]; exact hq⟩
        clear hm hq hk0
        by_cases has : x.f0 ≤ q
        · have HAS := Aside0.mk has
          have hab : (x.f0 ≤ q) = True := eq_true has
          clear has
          have HRW : Aside0 (rowT l0 (kk : Int) = false) := ⟨row_no7 (of_eq_true hkb) (by rw [HX.out, HQ.out]; exact HAS.out)⟩
          go_quiet ((go_at_call 61; (with_reducible first | refine (hI1 _).mono ?_ | refine (hI2 _).mono ?_ | refine (hI3 _).mono ?_ | refine (hI4 _).mono ?_ | refine (hI5 _).mono ?_); rintro e w' ⟨rfl, nd, rfl⟩; exact ⟨rfl, _, World.drewN_drewN ..⟩))
          try go_wp2
          go_meet
          case rel => exact ⟨true, rfl, ⟨by rw [HRW.out]; rfl⟩, ⟨blk_drewN HBX.out _⟩, ⟨pw_below_drewN HB8.out _⟩⟩
        · have HAS : Aside0 (0 < (kk : Int) → ¬ x.f0 ≤ (rdT l0 ((kk : Int) - 1)).f0) := ⟨fun _ => by rw [HQ.out]; exact has⟩
          have hab : (x.f0 ≤ q) = False := eq_false has
          clear has
          cases b2 with
          | false =>
            have HRW : Aside0 (rowT l0 (kk : Int) = false) := ⟨row_no2 (by rw [HX.out]; exact HE2.out)⟩
            go_quiet ((go_at_call 61; (with_reducible first | refine (hI1 _).mono ?_ | refine (hI2 _).mono ?_ | refine (hI3 _).mono ?_ | refine (hI4 _).mono ?_ | refine (hI5 _).mono ?_); rintro e w' ⟨rfl, nd, rfl⟩; exact ⟨rfl, _, World.drewN_drewN ..⟩))
            try go_wp2
            go_meet
            case rel => exact ⟨true, rfl, ⟨by rw [HRW.out]; rfl⟩, ⟨blk_drewN HBX.out _⟩, ⟨pw_below_drewN HB8.out _⟩⟩
          | true =>
            by_cases h20 : 20 < (x.f5.length : Int)
            · have H20 := Aside0.mk h20
              have hd20 : (20 < (x.f5.length : Int)) = True := eq_true h20
              have hd20n : (20 < x.f5.length) = True := eq_true (by omega)
              clear h20
              have HRW : Aside0 (rowT l0 (kk : Int) = false) := ⟨row_no6 (by rw [HX.out]; exact H20.out)⟩
              go_quiet ((go_at_call 61; (with_reducible first | refine (hI1 _).mono ?_ | refine (hI2 _).mono ?_ | refine (hI3 _).mono ?_ | refine (hI4 _).mono ?_ | refine (hI5 _).mono ?_); rintro e w' ⟨rfl, nd, rfl⟩; exact ⟨rfl, _, World.drewN_drewN ..⟩))
              try go_wp2
              go_meet
              case rel => exact ⟨true, rfl, ⟨by rw [HRW.out]; rfl⟩, ⟨blk_drewN HBX.out _⟩, ⟨pw_below_drewN HB8.out _⟩⟩
            · have H20 := Aside0.mk h20
              have hd20 : (20 < (x.f5.length : Int)) = False := eq_false h20
              have hd20n : (20 < x.f5.length) = False := eq_false (by omega)
              clear h20
              cases b3 with
              | false =>
                have HRW : Aside0 (rowT l0 (kk : Int) = false) := ⟨row_no3 (by rw [HX.out]; exact HE3.out)⟩
                go_quiet ((go_at_call 61; (with_reducible first | refine (hI1 _).mono ?_ | refine (hI2 _).mono ?_ | refine (hI3 _).mono ?_ | refine (hI4 _).mono ?_ | refine (hI5 _).mono ?_); rintro e w' ⟨rfl, nd, rfl⟩; exact ⟨rfl, _, World.drewN_drewN ..⟩))
                try go_wp2
                go_meet
                case rel => exact ⟨true, rfl, ⟨by rw [HRW.out]; rfl⟩, ⟨blk_drewN HBX.out _⟩, ⟨pw_below_drewN HB8.out _⟩⟩
              | true =>
                cases b4 with
                | false =>
                  have HRW : Aside0 (rowT l0 (kk : Int) = false) := ⟨row_no4 (by rw [HX.out]; exact HE4.out)⟩
                  go_quiet ((go_at_call 61; (with_reducible first | refine (hI1 _).mono ?_ | refine (hI2 _).mono ?_ | refine (hI3 _).mono ?_ | refine (hI4 _).mono ?_ | refine (hI5 _).mono ?_); rintro e w' ⟨rfl, nd, rfl⟩; exact ⟨rfl, _, World.drewN_drewN ..⟩))
                  try go_wp2
                  go_meet
                  case rel => exact ⟨true, rfl, ⟨by rw [HRW.out]; rfl⟩, ⟨blk_drewN HBX.out _⟩, ⟨pw_below_drewN HB8.out _⟩⟩
                | true =>
                  cases b5 with
                  | false =>
                    have HRW : Aside0 (rowT l0 (kk : Int) = false) := ⟨row_no5 (by rw [HX.out]; exact HE5.out)⟩
                    go_quiet ((go_at_call 61; (with_reducible first | refine (hI1 _).mono ?_ | refine (hI2 _).mono ?_ | refine (hI3 _).mono ?_ | refine (hI4 _).mono ?_ | refine (hI5 _).mono ?_); rintro e w' ⟨rfl, nd, rfl⟩; exact ⟨rfl, _, World.drewN_drewN ..⟩))
                    try go_wp2
                    go_meet
                    case rel => exact ⟨true, rfl, ⟨by rw [HRW.out]; rfl⟩, ⟨blk_drewN HBX.out _⟩, ⟨pw_below_drewN HB8.out _⟩⟩
                  | true =>
                    have HRW : Aside0 (rowT l0 (kk : Int) = true) := ⟨row_yes (by rw [HX.out]; exact HE1.out) (by rw [HX.out]; exact HE2.out) (by rw [HX.out]; exact HE3.out) (by rw [HX.out]; exact HE4.out) (by rw [HX.out]; exact HE5.out) (by rw [HX.out]; exact H20.out) (by rw [HX.out]; exact HAS.out)⟩
                    go_quiet ((go_at_call 61; (with_reducible first | refine (hI1 _).mono ?_ | refine (hI2 _).mono ?_ | refine (hI3 _).mono ?_ | refine (hI4 _).mono ?_ | refine (hI5 _).mono ?_); rintro e w' ⟨rfl, nd, rfl⟩; exact ⟨rfl, _, World.drewN_drewN ..⟩))
                    try go_wp2
                    go_meet
                    case rel => exact ⟨false, rfl, ⟨by rw [HRW.out]; rfl⟩, ⟨blk_drewN HBX.out _⟩, ⟨pw_below_drewN HB8.out _⟩⟩
    case rest =>
      clear hI1 hI2 hI3 hI4 hI5 hz0 hz1 hz2 hz3 hz4 hz5 HE1 HE2 HE3 HE4 HE5 HBX HB8
      obtain ⟨b, rfl, HBV, HBX, HB8⟩ := hcut
      by_cases hrow : rowT l0 (kk : Int) = true
      rotate_left
      · obtain rfl : b = true := by rw [HBV.out, Bool.eq_false_iff.mpr hrow]; rfl
        have HR1 : Aside0 (r = false) := ⟨by
          rw [← HR.out]
          exact areT_no HLT.out (by unfold okT; rw [Bool.eq_false_iff.mpr hrow, Bool.false_and])⟩
        clear hrow
        go_wp2
        go_ret
        exact ⟨by rw [HR1.out]; rfl, HB8.out⟩
      obtain rfl : b = false := by rw [HBV.out, hrow]; rfl
      have HROW := Aside0.mk hrow
      clear hrow
      obtain ⟨⟨hz0, hz1, hz2, hz3, hz4, hz5⟩, _⟩ := cells6 HBX.out
      go_wp2
      go_loopg [74] x.f5.length (fun gg v74 wr => ∃ mm : Nat, v74 = .int .i64 mm ∧ Aside0 (mm ≤ x.f5.length ∧ x.f5.length - mm ≤ gg) ∧ Aside0 (∀ (j : Nat) (hj : j < x.f5.length), j < mm → metB l0 (kk : Int) x.f5[j] = true) ∧ Aside0 (wr.heap[gb]? = some (.cells #[.int .i64 x.f0, .int .i64 x.f1, .int .i64 x.f2, .int .i64 x.f3, .int .i64 x.f4, .slice A5 x.f5.length c5] 61 (0, 0))) ∧ Aside0 (Below w.heap.size w wr))
      case atStart => exact ⟨0, rfl, ⟨by omega⟩, ⟨fun j _ hj => by omega⟩, HBX, HB8⟩
      case round =>
        obtain ⟨mm, rfl, HI2, HOK2, HBX2, HB9⟩ := hrel
        clear hz0 hz1 hz2 hz3 hz4 hz5 HBX HB8
        by_cases hlt2 : mm < x.f5.length
        rotate_left
        · have hltb2 : ((mm : Int) < (x.f5.length : Int)) = False := eq_false (by omega)
          have HOKK : Aside0 (okT l0 (kk : Int) = true) := ⟨by
            unfold okT
            rw [HROW.out, Bool.true_and, HX.out, List.all_eq_true]
            intro id hid
            obtain ⟨j, hj, rfl⟩ := List.mem_iff_getElem.1 hid
            exact HOK2.out j hj (by omega)⟩
          obtain ⟨⟨hz0, hz1, hz2, hz3, hz4, hz5⟩, _⟩ := cells6 HBX2.out
          clear hlt2
          go_wp2
          go_roundg (l0.length - (kk + 1))
          case measure => have := HI.out; have := HLT.out; omega
          case rel =>
            have hw : wrap64 ((kk : Int) + 1) = ((kk + 1 : Nat) : Int) := by have := HLT.out; have := HS.out.1; unfold wrap64; omega
            refine ⟨kk + 1, by rw [hw], ⟨by have := HLT.out; omega⟩, ⟨fun j hj => ?_⟩, HB9⟩
            by_cases e : j = kk
            · subst e
              exact HOKK.out
            · exact HOK.out j (by omega)
        have hltb2 : ((mm : Int) < (x.f5.length : Int)) = True := eq_true (by omega)
        obtain ⟨a5, e5, hc5⟩ := atIntT (HI6.out _ HB9.out) mm hlt2
        subst e5
        obtain ⟨id, hid⟩ : ∃ id, x.f5[mm] = id := ⟨_, rfl⟩
        rw [hid] at hc5
        have HID : Aside0 (x.f5[mm]? = some id) := ⟨by rw [List.getElem?_eq_getElem hlt2, hid]⟩
        have HLT2 := Aside0.mk hlt2
        clear hid hlt2
        have HNO : Aside0 (metB l0 (kk : Int) id = false → r = false) := ⟨fun h => by
          rw [← HR.out]
          refine areT_no HLT.out ?_
          unfold okT
          rw [HX.out, Bool.and_eq_false_iff]
          right
          rw [List.all_eq_false]
          exact ⟨id, List.mem_of_getElem? HID.out, by rw [h]; simp⟩⟩
        have hr_ := findT_range l0 id
        have hfid_ := @findT_id l0 id
        have HMET : Aside0 (metB l0 (kk : Int) id = decide (0 ≤ findT l0 id ∧ findT l0 id ≠ kk ∧ (((rdT l0 (findT l0 id)).f5.count x.f0 : Nat) : Int) = ((x.f5.count id : Nat) : Int))) := ⟨by unfold metB; rw [HX.out]⟩
        have HSELF : Aside0 (id = x.f0 → findT l0 id = kk) := ⟨fun h => by rw [h, ← HX.out]; exact findT_self (asc_of HOK.out HROW.out) HLT.out⟩
        have hF : ∀ W, Below w.heap.size w W → Calls Try.prog 18 #[.slice (some ad) l0.length c0, .int .i64 id] W fun e w' => e = .returned (.int .i64 (findT l0 id)) ∧ Below W.heap.size W w' := fun W hW => impl_FindTeam.calls (some ad) c0 l0 id _ W (Kd.C_below HR0.out hW) HC0.out (iFindTeam_eq l0 id)
        generalize findT l0 id = f at hr_ hfid_ HMET HSELF hF
        have HF := Aside0.mk hF
        have hF := HF.out
        obtain ⟨⟨hz0, hz1, hz2, hz3, hz4, hz5⟩, _⟩ := cells6 HBX2.out
        by_cases hf : f < 0
        · have hfb : (f < 0) = True := eq_true hf
          have HR1 : Aside0 (r = false) := ⟨HNO.out (by rw [HMET.out]; exact decide_eq_false (fun h => by omega))⟩
          clear hf hr_ hfid_ HF
          go_wp2_with (go_at_call 18; refine (hF _ ?hw).mono ?_; (case hw => (repeat (first | exact HB9.out | apply pw_below_drewN | apply below_drew1))); rintro e w10 ⟨rfl, hb10⟩; have HB10 := Aside0.mk (below_step (by repeat (first | exact HB9.out | apply pw_below_drewN | apply below_drew1)) hb10); have HBX3 := Aside0.mk (blk_below (by repeat (first | exact HBX2.out | refine blk_drewN ?_ _ | refine blk_drew ?_)) hb10); clear hb10 hz0 hz1 hz2 hz3 hz4 hz5 hF; obtain ⟨⟨hz0, hz1, hz2, hz3, hz4, hz5⟩, _⟩ := cells6 HBX3.out)
          go_quiet (fail)
          go_wp2
          go_ret
          exact ⟨by rw [HR1.out]; rfl, pw_below_drewN HB10.out _⟩
        have hfb : (f < 0) = False := eq_false hf
        obtain ⟨fn, rfl⟩ : ∃ n : Nat, f = (n : Int) := ⟨f.toNat, by omega⟩
        have hfl : ((fn : Int) < (l0.length : Int)) = True := eq_true hr_.2
        have hy0 := hfid_ (by omega)
        by_cases hsame : id = x.f0
        · have hsb : (id == x.f0) = true := beq_iff_eq.mpr hsame
          have HR1 : Aside0 (r = false) := ⟨HNO.out (by rw [HMET.out]; exact decide_eq_false (fun h => h.2.1 (HSELF.out hsame)))⟩
          clear hf hr_ hfid_ HF hsame hy0
          go_wp2_with (go_at_call 18; refine (hF _ ?hw).mono ?_; (case hw => (repeat (first | exact HB9.out | apply pw_below_drewN | apply below_drew1))); rintro e w10 ⟨rfl, hb10⟩; have HB10 := Aside0.mk (below_step (by repeat (first | exact HB9.out | apply pw_below_drewN | apply below_drew1)) hb10); have HBX3 := Aside0.mk (blk_below (by repeat (first | exact HBX2.out | refine blk_drewN ?_ _ | refine blk_drew ?_)) hb10); clear hb10 hz0 hz1 hz2 hz3 hz4 hz5 hF; obtain ⟨⟨hz0, hz1, hz2, hz3, hz4, hz5⟩, _⟩ := cells6 HBX3.out)
          go_quiet (fail)
          go_wp2
          go_ret
          exact ⟨by rw [HR1.out]; rfl, pw_below_drewN HB10.out _⟩
        have hsb : (id == x.f0) = false := beq_false_of_ne hsame
        have HNS : Aside0 ((fn : Int) ≠ kk) := ⟨fun h => hsame (by have h1 := HSELF.out; rw [← hy0]; have := HX.out; rw [show ((fn : Nat) : Int) = (kk : Int) from h]; rw [this])⟩
        have HFN : Aside0 (fn < l0.length) := ⟨by omega⟩
        obtain ⟨ad2, A6, c6, e6, hat2, hl6, hi6⟩ := tmAt_of HR0.out fn HFN.out
        cases e6
        have hy5 : (rdT l0 (fn : Int)).f5.length ≤ 1099511627776 := HS.out.2 _ (rdTm_mem (by omega) (by omega))
        obtain ⟨y, hy⟩ : ∃ y, rdT l0 (fn : Int) = y := ⟨_, rfl⟩
        rw [hy] at hat2 hl6 hi6 hy0 HMET hy5
        have HAT2 := Aside0.mk hat2
        have HY0 := Aside0.mk hy0
        obtain ⟨k1, hk1⟩ := impl_timesex x.f5 id HX5.out
        obtain ⟨k2, hk2⟩ := impl_timesex y.f5 x.f0 hy5
        have hT1 : ∀ W, Below w.heap.size w W → Calls Try.prog 62 #[.slice (some a5) x.f5.length c5, .int .i64 id] W fun e w' => e = .returned (.int .i64 ((x.f5.count id : Nat) : Int)) ∧ Drawn0 W w' := fun W hW => impl_times.calls k1 (some a5) c5 x.f5 id _ W (HI6.out W hW) HL5.out hk1
        have hT2 : ∀ W, Below w.heap.size w W → Calls Try.prog 62 #[.slice A6 y.f5.length c6, .int .i64 x.f0] W fun e w' => e = .returned (.int .i64 ((y.f5.count x.f0 : Nat) : Int)) ∧ Drawn0 W w' := fun W hW => impl_times.calls k2 A6 c6 y.f5 x.f0 _ W (Kd.C_below hi6 hW) hl6 hk2
        clear hf hr_ hfid_ HF hsame hy0 hy hat2 hl6 hy5 hk1 hk2
        generalize x.f5.count id = n1 at hT1 HMET
        generalize y.f5.count x.f0 = n2 at hT2 HMET
        by_cases hn : n2 = n1
        rotate_left
        · have hnb : ((n1 : Int) != (n2 : Int)) = true := bne_iff_ne.mpr (by omega)
          have hnb2 : ((n2 : Int) != (n1 : Int)) = true := bne_iff_ne.mpr (by omega)
          have HR1 : Aside0 (r = false) := ⟨HNO.out (by rw [HMET.out]; exact decide_eq_false (fun h => hn (by omega)))⟩
          clear hn
          go_wp2_with (go_at_call 18; refine (hF _ ?hw).mono ?_; (case hw => (repeat (first | exact HB9.out | apply pw_below_drewN | apply below_drew1))); rintro e w10 ⟨rfl, hb10⟩; have HB10 := Aside0.mk (below_step (by repeat (first | exact HB9.out | apply pw_below_drewN | apply below_drew1)) hb10); have HBX3 := Aside0.mk (blk_below (by repeat (first | exact HBX2.out | refine blk_drewN ?_ _ | refine blk_drew ?_)) hb10); clear hb10 hz0 hz1 hz2 hz3 hz4 hz5 hF; obtain ⟨⟨hz0, hz1, hz2, hz3, hz4, hz5⟩, _⟩ := cells6 HBX3.out)
          obtain ⟨y0, _, _, _, _, y5⟩ := HAT2.out.below HB10.out
          rw [HY0.out] at y0
          go_quiet ((go_at_call 62; (with_reducible first | refine (hT1 _ ?hw).mono ?_ | refine (hT2 _ ?hw).mono ?_); (case hw => exact pw_below_drewN HB10.out _); rintro e w' ⟨rfl, nd, rfl⟩; exact ⟨rfl, _, World.drewN_drewN ..⟩))
          go_wp2
          go_ret
          exact ⟨by rw [HR1.out]; rfl, pw_below_drewN HB10.out _⟩
        have hnb : ((n1 : Int) != (n2 : Int)) = false := bne_eq_false_iff_eq.mpr (by omega)
        have hnb2 : ((n2 : Int) != (n1 : Int)) = false := bne_eq_false_iff_eq.mpr (by omega)
        have HYES : Aside0 (metB l0 (kk : Int) id = true) := ⟨by rw [HMET.out]; exact decide_eq_true ⟨by omega, HNS.out, by omega⟩⟩
        clear hn
        go_wp2_with (go_at_call 18; refine (hF _ ?hw).mono ?_; (case hw => (repeat (first | exact HB9.out | apply pw_below_drewN | apply below_drew1))); rintro e w10 ⟨rfl, hb10⟩; have HB10 := Aside0.mk (below_step (by repeat (first | exact HB9.out | apply pw_below_drewN | apply below_drew1)) hb10); have HBX3 := Aside0.mk (blk_below (by repeat (first | exact HBX2.out | refine blk_drewN ?_ _ | refine blk_drew ?_)) hb10); clear hb10 hz0 hz1 hz2 hz3 hz4 hz5 hF; obtain ⟨⟨hz0, hz1, hz2, hz3, hz4, hz5⟩, _⟩ := cells6 HBX3.out)
        obtain ⟨y0, _, _, _, _, y5⟩ := HAT2.out.below HB10.out
        rw [HY0.out] at y0
        go_quiet ((go_at_call 62; (with_reducible first | refine (hT1 _ ?hw).mono ?_ | refine (hT2 _ ?hw).mono ?_); (case hw => exact pw_below_drewN HB10.out _); rintro e w' ⟨rfl, nd, rfl⟩; exact ⟨rfl, _, World.drewN_drewN ..⟩))
        go_wp2
        go_roundg (x.f5.length - (mm + 1))
        case measure => have := HI2.out; have := HLT2.out; omega
        case rel =>
          have hw : wrap64 ((mm : Int) + 1) = ((mm + 1 : Nat) : Int) := by have := HLT2.out; have := HX5.out; unfold wrap64; omega
          refine ⟨mm + 1, by rw [hw], ⟨by have := HLT2.out; omega⟩, ⟨fun j hj hjn => ?_⟩, ⟨blk_drewN HBX3.out _⟩, ⟨pw_below_drewN HB10.out _⟩⟩
          by_cases e : j = mm
          · subst e
            rw [(List.getElem?_eq_some_iff.1 HID.out).2]
            exact HYES.out
          · exact HOK2.out j hj (by omega)
end Go.Proofs.Ytiimiogpiflkdaa.A
end

section
set_option linter.unusedVariables false
set_option linter.unusedSimpArgs false
namespace Go.Proofs.Ytiimiogpiflkdaa.A
open Go.RowKit Go.Proofs.YtiimiogpiflkdaaW.PrintWords Go.Proofs.YtiimiogpiflkdaaW.PrintLast Go.Proofs.YtiimiogpiflkdaaW.PrintMore Go.Shelf Go.Proofs.Ytiimiogpiflkdaa.L
def spec_AreTeams.f (k : Nat) (l0 : List S61) : Option Bool := if smallT l0 = true then some (areT l0) else none
theorem spec_l19Countex (l : List Int) (x : Int) (hl : l.length ≤ 1099511627776) : ∃ k, spec_l19Count.f k l x = some ((l.count x : Nat) : Int) := by
  obtain ⟨k, h⟩ := l19Count_ev l x hl
  exact ⟨k, h k (Nat.le_refl _)⟩
set_option maxHeartbeats 16000000 in
set_option maxRecDepth 100000 in
theorem spec_AreTeams.calls (k : Nat) (A0 : Option Addr) (c0 : Nat) (l0 : List S61) (r : Bool) (w : World) (hr0 : Kd.C k61 w A0 l0.length l0) (hc0 : l0.length ≤ c0) (h : spec_AreTeams.f k l0 = some r) :
    Calls Try.prog 20 #[.slice A0 l0.length c0] w fun e w' => e = .returned (.bool r) ∧ Below w.heap.size w w' := by
  unfold spec_AreTeams.f at h
  by_cases hs : smallT l0 = true
  rotate_left
  · rw [if_neg hs] at h
    cases h
  rw [if_pos hs] at h
  have hr := Option.some.inj h
  have hsm := small_of hs
  clear h hs
  have hu61 := Try.underlying61
  have HR0 := Aside0.mk hr0
  have HC0 := Aside0.mk hc0
  have HR := Aside0.mk hr
  have HS := Aside0.mk hsm
  clear hr0 hc0 hr hsm
  go_enter Try.func20, Try.ntmps20
  go_wp2
  go_loopg [3] l0.length (fun gg v3 wr => ∃ kk : Nat, v3 = .int .i64 kk ∧ Aside0 (kk ≤ l0.length ∧ l0.length - kk ≤ gg) ∧ Aside0 (∀ j : Nat, j < kk → okT l0 j = true) ∧ Aside0 (Below w.heap.size w wr))
  case atStart => exact ⟨0, rfl, ⟨by omega⟩, ⟨fun j hj => by omega⟩, ⟨Below.refl _ w⟩⟩
  case round =>
    obtain ⟨kk, rfl, HI, HOK, HB⟩ := hrel
    by_cases hlt : kk < l0.length
    rotate_left
    · have hltb : ((kk : Int) < (l0.length : Int)) = False := eq_false (by omega)
      have HR1 : Aside0 (r = decide (l0.length ≤ 10)) := ⟨by
        rw [← HR.out]
        by_cases h10 : l0.length ≤ 10
        · rw [decide_eq_true h10]
          exact areT_yes h10 (fun i hi => HOK.out i (by omega))
        · rw [decide_eq_false h10]
          exact areT_big h10⟩
      clear hlt
      go_wp2
      go_ret
      exact ⟨by rw [HR1.out]; simp; omega, HB.out⟩
    have hltb : ((kk : Int) < (l0.length : Int)) = True := eq_true (by omega)
    obtain ⟨ad, A5, c5, e0, hat, hl5, hi5⟩ := tmAt_of HR0.out kk hlt
    subst e0
    obtain ⟨x0, x1, x2, x3, x4, x5⟩ := hat.below HB.out
    clear hat
    obtain ⟨x, hx⟩ : ∃ x, rdT l0 (kk : Int) = x := ⟨_, rfl⟩
    rw [hx] at x0 x1 x2 x3 x4 x5 hl5 hi5
    have hx5 : x.f5.length ≤ 1099511627776 := by rw [← hx]; exact HS.out.2 _ (rdTm_mem (by omega) (by omega))
    have HX := Aside0.mk hx
    have HLT := Aside0.mk hlt
    have HL5 := Aside0.mk hl5
    have HX5 := Aside0.mk hx5
    have HI6 : Aside0 (∀ W, Below w.heap.size w W → Kd.C (Kd.int .i64) W A5 x.f5.length x.f5) := ⟨fun W h => Kd.C_below hi5 h⟩
    clear hx hlt hi5 hl5 hx5
    go_upto_region 5 with (first | ((with_reducible refine gate_dst (N := 4) rfl ?_); refine box_event ?hg (N := 4) ?hd (cs := #[.int .i64 0, .int .i64 0, .int .i64 0, .int .i64 0, .int .i64 0, .slice none 0 0]) (t := 61) ?hr ?_; (case hd => rfl); (case hg => rfl); (case hr => first | (go_simp; done) | (go_simp; rfl)); intro gb hg w7 hbox hb; have HBX := Aside0.mk hbox; have HG := Aside0.mk (show w.heap.size ≤ gb by rw [hg]; exact below_size (by repeat (first | exact HB.out | apply pw_below_drewN | apply below_drew1))); have HB7 := Aside0.mk (below_step (by repeat (first | exact HB.out | apply pw_below_drewN | apply below_drew1)) hb); clear hb hg; obtain ⟨⟨hz0, hz1, hz2, hz3, hz4, hz5⟩, hf0, hf1, hf2, hf3, hf4, hf5⟩ := cells6 hbox; clear hbox))
    try simp only [Act.put, Z1, Z2, Z3]
    obtain ⟨w8, e8, hbx, hb8⟩ := box6 HBX.out HB7.out HG.out (.int .i64 x.f0) (.int .i64 x.f1) (.int .i64 x.f2) (.int .i64 x.f3) (.int .i64 x.f4) (.slice A5 x.f5.length c5)
    rw [← e8]
    clear e8 hz0 hz1 hz2 hz3 hz4 hz5 hf0 hf1 hf2 hf3 hf4 hf5 x0 x1 x2 x3 x4 x5 HBX HB7
    have HBX := Aside0.mk hbx
    have HB8 := Aside0.mk hb8
    obtain ⟨⟨hz0, hz1, hz2, hz3, hz4, hz5⟩, _⟩ := cells6 hbx
    clear hbx hb8
    have hI : ∀ (a lo hi : Int) (b : Bool), inR a lo hi = b → ∀ W, Calls Try.prog 59 #[.int .i64 a, .int .i64 lo, .int .i64 hi] W fun e w' => e = .returned (.bool b) ∧ Drawn0 W w' := fun a lo hi b e W => spec_l1In.calls a lo hi b W (by rw [l1In_eq, e])
    obtain ⟨b1, hb1⟩ : ∃ b, inR x.f0 1 99 = b := ⟨_, rfl⟩
    obtain ⟨b2, hb2⟩ : ∃ b, inR x.f1 1 99 = b := ⟨_, rfl⟩
    obtain ⟨b3, hb3⟩ : ∃ b, inR x.f2 0 (x.f5.length : Int) = b := ⟨_, rfl⟩
    obtain ⟨b4, hb4⟩ : ∃ b, inR x.f4 0 (x.f5.length : Int) = b := ⟨_, rfl⟩
    obtain ⟨b5, hb5⟩ : ∃ b, inR x.f3 0 100000 = b := ⟨_, rfl⟩
    have hI1 := hI _ _ _ _ hb1
    have hI2 := hI _ _ _ _ hb2
    have hI3 := hI _ _ _ _ hb3
    have hI4 := hI _ _ _ _ hb4
    have hI5 := hI _ _ _ _ hb5
    have HE1 := Aside0.mk hb1
    have HE2 := Aside0.mk hb2
    have HE3 := Aside0.mk hb3
    have HE4 := Aside0.mk hb4
    have HE5 := Aside0.mk hb5
    clear hI hb1 hb2 hb3 hb4 hb5
    go_cut [71] (fun v71 wc => ∃ b : Bool, v71 = .bool b ∧ Aside0 (b = !rowT l0 (kk : Int)) ∧ Aside0 (wc.heap[gb]? = some (.cells #[.int .i64 x.f0, .int .i64 x.f1, .int .i64 x.f2, .int .i64 x.f3, .int .i64 x.f4, .slice A5 x.f5.length c5] 61 (0, 0))) ∧ Aside0 (Below w.heap.size w wc))
    case first =>
      cases b1 with
      | false =>
        have HRW : Aside0 (rowT l0 (kk : Int) = false) := ⟨row_no1 (by rw [HX.out]; exact HE1.out)⟩
        go_quiet ((go_at_call 59; (with_reducible first | refine (hI1 _).mono ?_ | refine (hI2 _).mono ?_ | refine (hI3 _).mono ?_ | refine (hI4 _).mono ?_ | refine (hI5 _).mono ?_); rintro e w' ⟨rfl, nd, rfl⟩; exact ⟨rfl, _, World.drewN_drewN ..⟩))
        try go_wp2
        go_meet
        case rel => exact ⟨true, rfl, ⟨by rw [HRW.out]; rfl⟩, ⟨blk_drewN HBX.out _⟩, ⟨pw_below_drewN HB8.out _⟩⟩
      | true =>
        cases b2 with
        | false =>
          have HRW : Aside0 (rowT l0 (kk : Int) = false) := ⟨row_no2 (by rw [HX.out]; exact HE2.out)⟩
          go_quiet ((go_at_call 59; (with_reducible first | refine (hI1 _).mono ?_ | refine (hI2 _).mono ?_ | refine (hI3 _).mono ?_ | refine (hI4 _).mono ?_ | refine (hI5 _).mono ?_); rintro e w' ⟨rfl, nd, rfl⟩; exact ⟨rfl, _, World.drewN_drewN ..⟩))
          try go_wp2
          go_meet
          case rel => exact ⟨true, rfl, ⟨by rw [HRW.out]; rfl⟩, ⟨blk_drewN HBX.out _⟩, ⟨pw_below_drewN HB8.out _⟩⟩
        | true =>
          cases b3 with
          | false =>
            have HRW : Aside0 (rowT l0 (kk : Int) = false) := ⟨row_no3 (by rw [HX.out]; exact HE3.out)⟩
            go_quiet ((go_at_call 59; (with_reducible first | refine (hI1 _).mono ?_ | refine (hI2 _).mono ?_ | refine (hI3 _).mono ?_ | refine (hI4 _).mono ?_ | refine (hI5 _).mono ?_); rintro e w' ⟨rfl, nd, rfl⟩; exact ⟨rfl, _, World.drewN_drewN ..⟩))
            try go_wp2
            go_meet
            case rel => exact ⟨true, rfl, ⟨by rw [HRW.out]; rfl⟩, ⟨blk_drewN HBX.out _⟩, ⟨pw_below_drewN HB8.out _⟩⟩
          | true =>
            cases b4 with
            | false =>
              have HRW : Aside0 (rowT l0 (kk : Int) = false) := ⟨row_no4 (by rw [HX.out]; exact HE4.out)⟩
              go_quiet ((go_at_call 59; (with_reducible first | refine (hI1 _).mono ?_ | refine (hI2 _).mono ?_ | refine (hI3 _).mono ?_ | refine (hI4 _).mono ?_ | refine (hI5 _).mono ?_); rintro e w' ⟨rfl, nd, rfl⟩; exact ⟨rfl, _, World.drewN_drewN ..⟩))
              try go_wp2
              go_meet
              case rel => exact ⟨true, rfl, ⟨by rw [HRW.out]; rfl⟩, ⟨blk_drewN HBX.out _⟩, ⟨pw_below_drewN HB8.out _⟩⟩
            | true =>
              cases b5 with
              | false =>
                have HRW : Aside0 (rowT l0 (kk : Int) = false) := ⟨row_no5 (by rw [HX.out]; exact HE5.out)⟩
                go_quiet ((go_at_call 59; (with_reducible first | refine (hI1 _).mono ?_ | refine (hI2 _).mono ?_ | refine (hI3 _).mono ?_ | refine (hI4 _).mono ?_ | refine (hI5 _).mono ?_); rintro e w' ⟨rfl, nd, rfl⟩; exact ⟨rfl, _, World.drewN_drewN ..⟩))
                try go_wp2
                go_meet
                case rel => exact ⟨true, rfl, ⟨by rw [HRW.out]; rfl⟩, ⟨blk_drewN HBX.out _⟩, ⟨pw_below_drewN HB8.out _⟩⟩
              | true =>
                by_cases h20 : 20 < (x.f5.length : Int)
                · have H20 := Aside0.mk h20
                  have hd20 : (20 < (x.f5.length : Int)) = True := eq_true h20
                  have hd20n : (20 < x.f5.length) = True := eq_true (by omega)
                  clear h20
                  have HRW : Aside0 (rowT l0 (kk : Int) = false) := ⟨row_no6 (by rw [HX.out]; exact H20.out)⟩
                  go_quiet ((go_at_call 59; (with_reducible first | refine (hI1 _).mono ?_ | refine (hI2 _).mono ?_ | refine (hI3 _).mono ?_ | refine (hI4 _).mono ?_ | refine (hI5 _).mono ?_); rintro e w' ⟨rfl, nd, rfl⟩; exact ⟨rfl, _, World.drewN_drewN ..⟩))
                  try go_wp2
                  go_meet
                  case rel => exact ⟨true, rfl, ⟨by rw [HRW.out]; rfl⟩, ⟨blk_drewN HBX.out _⟩, ⟨pw_below_drewN HB8.out _⟩⟩
                · have H20 := Aside0.mk h20
                  have hd20 : (20 < (x.f5.length : Int)) = False := eq_false h20
                  have hd20n : (20 < x.f5.length) = False := eq_false (by omega)
                  clear h20
                  by_cases hk0 : 0 < kk
                  rotate_left
                  · have hkb : (0 < (kk : Int)) = False := eq_false (by omega)
                    have hkbn : (0 < kk) = False := eq_false hk0
                    have HAS : Aside0 (0 < (kk : Int) → ¬ x.f0 ≤ (rdT l0 ((kk : Int) - 1)).f0) := ⟨fun h => by omega⟩
                    clear hk0
                    have HRW : Aside0 (rowT l0 (kk : Int) = true) := ⟨row_yes (by rw [HX.out]; exact HE1.out) (by rw [HX.out]; exact HE2.out) (by rw [HX.out]; exact HE3.out) (by rw [HX.out]; exact HE4.out) (by rw [HX.out]; exact HE5.out) (by rw [HX.out]; exact H20.out) (by rw [HX.out]; exact HAS.out)⟩
                    go_quiet ((go_at_call 59; (with_reducible first | refine (hI1 _).mono ?_ | refine (hI2 _).mono ?_ | refine (hI3 _).mono ?_ | refine (hI4 _).mono ?_ | refine (hI5 _).mono ?_); rintro e w' ⟨rfl, nd, rfl⟩; exact ⟨rfl, _, World.drewN_drewN ..⟩))
                    try go_wp2
                    go_meet
                    case rel => exact ⟨false, rfl, ⟨by rw [HRW.out]; rfl⟩, ⟨blk_drewN HBX.out _⟩, ⟨pw_below_drewN HB8.out _⟩⟩
                  have hkb : (0 < (kk : Int)) = True := eq_true (by omega)
                  have hkbn : (0 < kk) = True := eq_true hk0
                  obtain ⟨m, hm⟩ : ∃ m : Nat, (kk : Int) - 1 = (m : Int) := ⟨kk - 1, by omega⟩
                  obtain ⟨ad2, A52, c52, e2, ⟨y0, _⟩, _⟩ := tmAt_of (Kd.C_below HR0.out HB8.out) m (by have := HLT.out; omega)
                  cases e2
                  obtain ⟨q, hq⟩ : ∃ q, (rdT l0 (m : Int)).f0 = q := ⟨_, rfl⟩
                  rw [hq] at y0
                  have hwk : IntKind.i64.wrap ((kk : Int) - 1) = (m : Int) := by rw [hm, IntKind.wrap_i64]; have := HLT.out; have := HS.out.1; omega
                  have hwk2 : wrap64 ((kk : Int) - 1) = (m : Int) := (i64_w _).symm.trans hwk
                  have hml : ((m : Int) < (l0.length : Int)) = True := eq_true (by have := HLT.out; omega)
                  have HQ : Aside0 ((rdT l0 ((kk : Int) - 1)).f0 = q) := ⟨by rw [hm]; exact hq⟩
                  clear hm hq hk0
                  by_cases has : x.f0 ≤ q
                  · have HAS := Aside0.mk has
                    have hab : (x.f0 ≤ q) = True := eq_true has
                    clear has
                    have HRW : Aside0 (rowT l0 (kk : Int) = false) := ⟨row_no7 (of_eq_true hkb) (by rw [HX.out, HQ.out]; exact HAS.out)⟩
                    go_quiet ((go_at_call 59; (with_reducible first | refine (hI1 _).mono ?_ | refine (hI2 _).mono ?_ | refine (hI3 _).mono ?_ | refine (hI4 _).mono ?_ | refine (hI5 _).mono ?_); rintro e w' ⟨rfl, nd, rfl⟩; exact ⟨rfl, _, World.drewN_drewN ..⟩))
                    try go_wp2
                    go_meet
                    case rel => exact ⟨true, rfl, ⟨by rw [HRW.out]; rfl⟩, ⟨blk_drewN HBX.out _⟩, ⟨pw_below_drewN HB8.out _⟩⟩
                  · have HAS : Aside0 (0 < (kk : Int) → ¬ x.f0 ≤ (rdT l0 ((kk : Int) - 1)).f0) := ⟨fun _ => by rw [HQ.out]; exact has⟩
                    have hab : (x.f0 ≤ q) = False := eq_false has
                    clear has
                    have HRW : Aside0 (rowT l0 (kk : Int) = true) := ⟨row_yes (by rw [HX.out]; exact HE1.out) (by rw [HX.out]; exact HE2.out) (by rw [HX.out]; exact HE3.out) (by rw [HX.out]; exact HE4.out) (by rw [HX.out]; exact HE5.out) (by rw [HX.out]; exact H20.out) (by rw [HX.out]; exact HAS.out)⟩
                    go_quiet ((go_at_call 59; (with_reducible first | refine (hI1 _).mono ?_ | refine (hI2 _).mono ?_ | refine (hI3 _).mono ?_ | refine (hI4 _).mono ?_ | refine (hI5 _).mono ?_); rintro e w' ⟨rfl, nd, rfl⟩; exact ⟨rfl, _, World.drewN_drewN ..⟩))
                    try go_wp2
                    go_meet
                    case rel => exact ⟨false, rfl, ⟨by rw [HRW.out]; rfl⟩, ⟨blk_drewN HBX.out _⟩, ⟨pw_below_drewN HB8.out _⟩⟩
    case rest =>
      clear hI1 hI2 hI3 hI4 hI5 hz0 hz1 hz2 hz3 hz4 hz5 HE1 HE2 HE3 HE4 HE5 HBX HB8
      obtain ⟨b, rfl, HBV, HBX, HB8⟩ := hcut
      by_cases hrow : rowT l0 (kk : Int) = true
      rotate_left
      · obtain rfl : b = true := by rw [HBV.out, Bool.eq_false_iff.mpr hrow]; rfl
        have HR1 : Aside0 (r = false) := ⟨by
          rw [← HR.out]
          exact areT_no HLT.out (by unfold okT; rw [Bool.eq_false_iff.mpr hrow, Bool.false_and])⟩
        clear hrow
        go_wp2
        go_ret
        exact ⟨by rw [HR1.out]; rfl, HB8.out⟩
      obtain rfl : b = false := by rw [HBV.out, hrow]; rfl
      have HROW := Aside0.mk hrow
      clear hrow
      obtain ⟨⟨hz0, hz1, hz2, hz3, hz4, hz5⟩, _⟩ := cells6 HBX.out
      go_wp2
      go_loopg [5] x.f5.length (fun gg v5 wr => ∃ mm : Nat, v5 = .int .i64 mm ∧ Aside0 (mm ≤ x.f5.length ∧ x.f5.length - mm ≤ gg) ∧ Aside0 (∀ (j : Nat) (hj : j < x.f5.length), j < mm → metB l0 (kk : Int) x.f5[j] = true) ∧ Aside0 (wr.heap[gb]? = some (.cells #[.int .i64 x.f0, .int .i64 x.f1, .int .i64 x.f2, .int .i64 x.f3, .int .i64 x.f4, .slice A5 x.f5.length c5] 61 (0, 0))) ∧ Aside0 (Below w.heap.size w wr))
      case atStart => exact ⟨0, rfl, ⟨by omega⟩, ⟨fun j _ hj => by omega⟩, HBX, HB8⟩
      case round =>
        obtain ⟨mm, rfl, HI2, HOK2, HBX2, HB9⟩ := hrel
        clear hz0 hz1 hz2 hz3 hz4 hz5 HBX HB8
        by_cases hlt2 : mm < x.f5.length
        rotate_left
        · have hltb2 : ((mm : Int) < (x.f5.length : Int)) = False := eq_false (by omega)
          have HOKK : Aside0 (okT l0 (kk : Int) = true) := ⟨by
            unfold okT
            rw [HROW.out, Bool.true_and, HX.out, List.all_eq_true]
            intro id hid
            obtain ⟨j, hj, rfl⟩ := List.mem_iff_getElem.1 hid
            exact HOK2.out j hj (by omega)⟩
          obtain ⟨⟨hz0, hz1, hz2, hz3, hz4, hz5⟩, _⟩ := cells6 HBX2.out
          clear hlt2
          go_wp2
          go_roundg (l0.length - (kk + 1))
          case measure => have := HI.out; have := HLT.out; omega
          case rel =>
            have hw : wrap64 ((kk : Int) + 1) = ((kk + 1 : Nat) : Int) := by have := HLT.out; have := HS.out.1; unfold wrap64; omega
            refine ⟨kk + 1, by rw [hw], ⟨by have := HLT.out; omega⟩, ⟨fun j hj => ?_⟩, HB9⟩
            by_cases e : j = kk
            · subst e
              exact HOKK.out
            · exact HOK.out j (by omega)
        have hltb2 : ((mm : Int) < (x.f5.length : Int)) = True := eq_true (by omega)
        obtain ⟨a5, e5, hc5⟩ := atIntT (HI6.out _ HB9.out) mm hlt2
        subst e5
        obtain ⟨id, hid⟩ : ∃ id, x.f5[mm] = id := ⟨_, rfl⟩
        rw [hid] at hc5
        have HID : Aside0 (x.f5[mm]? = some id) := ⟨by rw [List.getElem?_eq_getElem hlt2, hid]⟩
        have HLT2 := Aside0.mk hlt2
        clear hid hlt2
        have HNO : Aside0 (metB l0 (kk : Int) id = false → r = false) := ⟨fun h => by
          rw [← HR.out]
          refine areT_no HLT.out ?_
          unfold okT
          rw [HX.out, Bool.and_eq_false_iff]
          right
          rw [List.all_eq_false]
          exact ⟨id, List.mem_of_getElem? HID.out, by rw [h]; simp⟩⟩
        have hr_ := findT_range l0 id
        have hfid_ := @findT_id l0 id
        have HMET : Aside0 (metB l0 (kk : Int) id = decide (0 ≤ findT l0 id ∧ findT l0 id ≠ kk ∧ (((rdT l0 (findT l0 id)).f5.count x.f0 : Nat) : Int) = ((x.f5.count id : Nat) : Int))) := ⟨by unfold metB; rw [HX.out]⟩
        have HSELF : Aside0 (id = x.f0 → findT l0 id = kk) := ⟨fun h => by rw [h, ← HX.out]; exact findT_self (asc_of HOK.out HROW.out) HLT.out⟩
        obtain ⟨k0_, hk0_⟩ := sFindTeam_ev l0 id HS.out.1
        have hF : ∀ W, Below w.heap.size w W → Calls Try.prog 16 #[.slice (some ad) l0.length c0, .int .i64 id] W fun e w' => e = .returned (.int .i64 (findT l0 id)) ∧ Below W.heap.size W w' := fun W hW => (spec_FindTeam.calls k0_ (some ad) c0 l0 id _ W (Kd.C_below HR0.out hW) HC0.out (hk0_ k0_ (Nat.le_refl _))).mono (by rintro e w' ⟨h, nd, rfl⟩; exact ⟨h, pw_below_drewN (Below.refl _ _) _⟩)
        clear hk0_
        generalize findT l0 id = f at hr_ hfid_ HMET HSELF hF
        have HF := Aside0.mk hF
        have hF := HF.out
        obtain ⟨⟨hz0, hz1, hz2, hz3, hz4, hz5⟩, _⟩ := cells6 HBX2.out
        by_cases hf : f < 0
        · have hfb : (f < 0) = True := eq_true hf
          have HR1 : Aside0 (r = false) := ⟨HNO.out (by rw [HMET.out]; exact decide_eq_false (fun h => by omega))⟩
          clear hf hr_ hfid_ HF
          go_wp2_with (go_at_call 16; refine (hF _ ?hw).mono ?_; (case hw => (repeat (first | exact HB9.out | apply pw_below_drewN | apply below_drew1))); rintro e w10 ⟨rfl, hb10⟩; have HB10 := Aside0.mk (below_step (by repeat (first | exact HB9.out | apply pw_below_drewN | apply below_drew1)) hb10); have HBX3 := Aside0.mk (blk_below (by repeat (first | exact HBX2.out | refine blk_drewN ?_ _ | refine blk_drew ?_)) hb10); clear hb10 hz0 hz1 hz2 hz3 hz4 hz5 hF; obtain ⟨⟨hz0, hz1, hz2, hz3, hz4, hz5⟩, _⟩ := cells6 HBX3.out)
          go_quiet (fail)
          go_wp2
          go_ret
          exact ⟨by rw [HR1.out]; rfl, pw_below_drewN HB10.out _⟩
        have hfb : (f < 0) = False := eq_false hf
        obtain ⟨fn, rfl⟩ : ∃ n : Nat, f = (n : Int) := ⟨f.toNat, by omega⟩
        have hfl : ((fn : Int) < (l0.length : Int)) = True := eq_true hr_.2
        have hy0 := hfid_ (by omega)
        by_cases hsame : (fn : Int) = (kk : Int)
        · have hsb : ((fn : Int) == (kk : Int)) = true := beq_iff_eq.mpr hsame
          have HR1 : Aside0 (r = false) := ⟨HNO.out (by rw [HMET.out]; exact decide_eq_false (fun h => h.2.1 hsame))⟩
          clear hf hr_ hfid_ HF hsame hy0
          go_wp2_with (go_at_call 16; refine (hF _ ?hw).mono ?_; (case hw => (repeat (first | exact HB9.out | apply pw_below_drewN | apply below_drew1))); rintro e w10 ⟨rfl, hb10⟩; have HB10 := Aside0.mk (below_step (by repeat (first | exact HB9.out | apply pw_below_drewN | apply below_drew1)) hb10); have HBX3 := Aside0.mk (blk_below (by repeat (first | exact HBX2.out | refine blk_drewN ?_ _ | refine blk_drew ?_)) hb10); clear hb10 hz0 hz1 hz2 hz3 hz4 hz5 hF; obtain ⟨⟨hz0, hz1, hz2, hz3, hz4, hz5⟩, _⟩ := cells6 HBX3.out)
          go_quiet (fail)
          go_wp2
          go_ret
          exact ⟨by rw [HR1.out]; rfl, pw_below_drewN HB10.out _⟩
        have hsb : ((fn : Int) == (kk : Int)) = false := beq_false_of_ne hsame
        have HNS : Aside0 ((fn : Int) ≠ kk) := ⟨hsame⟩
        have HFN : Aside0 (fn < l0.length) := ⟨by omega⟩
        obtain ⟨ad2, A6, c6, e6, hat2, hl6, hi6⟩ := tmAt_of HR0.out fn HFN.out
        cases e6
        have hy5 : (rdT l0 (fn : Int)).f5.length ≤ 1099511627776 := HS.out.2 _ (rdTm_mem (by omega) (by omega))
        obtain ⟨y, hy⟩ : ∃ y, rdT l0 (fn : Int) = y := ⟨_, rfl⟩
        rw [hy] at hat2 hl6 hi6 hy0 HMET hy5
        have HAT2 := Aside0.mk hat2
        have HY0 := Aside0.mk hy0
        obtain ⟨k1, hk1⟩ := spec_l19Countex x.f5 id HX5.out
        obtain ⟨k2, hk2⟩ := spec_l19Countex y.f5 x.f0 hy5
        have hT1 : ∀ W, Below w.heap.size w W → Calls Try.prog 60 #[.slice (some a5) x.f5.length c5, .int .i64 id] W fun e w' => e = .returned (.int .i64 ((x.f5.count id : Nat) : Int)) ∧ Drawn0 W w' := fun W hW => spec_l19Count.calls k1 (some a5) c5 x.f5 id _ W (HI6.out W hW) HL5.out hk1
        have hT2 : ∀ W, Below w.heap.size w W → Calls Try.prog 60 #[.slice A6 y.f5.length c6, .int .i64 x.f0] W fun e w' => e = .returned (.int .i64 ((y.f5.count x.f0 : Nat) : Int)) ∧ Drawn0 W w' := fun W hW => spec_l19Count.calls k2 A6 c6 y.f5 x.f0 _ W (Kd.C_below hi6 hW) hl6 hk2
        clear hf hr_ hfid_ HF hsame hy0 hy hat2 hl6 hy5 hk1 hk2
        generalize x.f5.count id = n1 at hT1 HMET
        generalize y.f5.count x.f0 = n2 at hT2 HMET
        by_cases hn : n2 = n1
        rotate_left
        · have hnb : ((n1 : Int) != (n2 : Int)) = true := bne_iff_ne.mpr (by omega)
          have hnb2 : ((n2 : Int) != (n1 : Int)) = true := bne_iff_ne.mpr (by omega)
          have HR1 : Aside0 (r = false) := ⟨HNO.out (by rw [HMET.out]; exact decide_eq_false (fun h => hn (by omega)))⟩
          clear hn
          go_wp2_with (go_at_call 16; refine (hF _ ?hw).mono ?_; (case hw => (repeat (first | exact HB9.out | apply pw_below_drewN | apply below_drew1))); rintro e w10 ⟨rfl, hb10⟩; have HB10 := Aside0.mk (below_step (by repeat (first | exact HB9.out | apply pw_below_drewN | apply below_drew1)) hb10); have HBX3 := Aside0.mk (blk_below (by repeat (first | exact HBX2.out | refine blk_drewN ?_ _ | refine blk_drew ?_)) hb10); clear hb10 hz0 hz1 hz2 hz3 hz4 hz5 hF; obtain ⟨⟨hz0, hz1, hz2, hz3, hz4, hz5⟩, _⟩ := cells6 HBX3.out)
          obtain ⟨y0, _, _, _, _, y5⟩ := HAT2.out.below HB10.out
          rw [HY0.out] at y0
          go_quiet ((go_at_call 60; (with_reducible first | refine (hT1 _ ?hw).mono ?_ | refine (hT2 _ ?hw).mono ?_); (case hw => exact pw_below_drewN HB10.out _); rintro e w' ⟨rfl, nd, rfl⟩; exact ⟨rfl, _, World.drewN_drewN ..⟩))
          go_wp2
          go_ret
          exact ⟨by rw [HR1.out]; rfl, pw_below_drewN HB10.out _⟩
        have hnb : ((n1 : Int) != (n2 : Int)) = false := bne_eq_false_iff_eq.mpr (by omega)
        have hnb2 : ((n2 : Int) != (n1 : Int)) = false := bne_eq_false_iff_eq.mpr (by omega)
        have HYES : Aside0 (metB l0 (kk : Int) id = true) := ⟨by rw [HMET.out]; exact decide_eq_true ⟨by omega, HNS.out, by omega⟩⟩
        clear hn
        go_wp2_with (go_at_call 16; refine (hF _ ?hw).mono ?_; (case hw => (repeat (first | exact HB9.out | apply pw_below_drewN | apply below_drew1))); rintro e w10 ⟨rfl, hb10⟩; have HB10 := Aside0.mk (below_step (by repeat (first | exact HB9.out | apply pw_below_drewN | apply below_drew1)) hb10); have HBX3 := Aside0.mk (blk_below (by repeat (first | exact HBX2.out | refine blk_drewN ?_ _ | refine blk_drew ?_)) hb10); clear hb10 hz0 hz1 hz2 hz3 hz4 hz5 hF; obtain ⟨⟨hz0, hz1, hz2, hz3, hz4, hz5⟩, _⟩ := cells6 HBX3.out)
        obtain ⟨y0, _, _, _, _, y5⟩ := HAT2.out.below HB10.out
        rw [HY0.out] at y0
        go_quiet ((go_at_call 60; (with_reducible first | refine (hT1 _ ?hw).mono ?_ | refine (hT2 _ ?hw).mono ?_); (case hw => exact pw_below_drewN HB10.out _); rintro e w' ⟨rfl, nd, rfl⟩; exact ⟨rfl, _, World.drewN_drewN ..⟩))
        go_wp2
        go_roundg (x.f5.length - (mm + 1))
        case measure => have := HI2.out; have := HLT2.out; omega
        case rel =>
          have hw : wrap64 ((mm : Int) + 1) = ((mm + 1 : Nat) : Int) := by have := HLT2.out; have := HX5.out; unfold wrap64; omega
          refine ⟨mm + 1, by rw [hw], ⟨by have := HLT2.out; omega⟩, ⟨fun j hj hjn => ?_⟩, ⟨blk_drewN HBX3.out _⟩, ⟨pw_below_drewN HB10.out _⟩⟩
          by_cases e : j = mm
          · subst e
            rw [(List.getElem?_eq_some_iff.1 HID.out).2]
            exact HYES.out
          · exact HOK2.out j hj (by omega)
end Go.Proofs.Ytiimiogpiflkdaa.A
end
