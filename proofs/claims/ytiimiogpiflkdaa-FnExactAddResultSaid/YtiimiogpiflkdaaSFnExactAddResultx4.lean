/- What the row FnExactAddResult rests on, put together: LHStand, A31, LOrd, LAddF, LAddS, LAddI, LTotLe, LXFnExactAddResult. No condition. -/
import Derived.Test.YtiimiogpiflkdaaSFnExactAddResultx3
import Derived.Shelf.SlSortCmp.NoneTotal
import Derived.Test.YtiimiogpiflkdaaSFnExactAddResultx1
import Derived.Test.YtiimiogpiflkdaaSFnExactAddResultx0
import Derived.Test.YtiimiogpiflkdaaSFnExactAddResultx2
section
set_option linter.unusedVariables false
set_option linter.unusedSimpArgs false
namespace Go.Proofs.Ytiimiogpiflkdaa.A
open Go.RowKit Go.Proofs.YtiimiogpiflkdaaW.PrintWords Go.Proofs.YtiimiogpiflkdaaW.PrintLast Go.Proofs.YtiimiogpiflkdaaW.PrintMore Go.Shelf Go.Sort
def RowT (W : World) (g : Nat) (d : Array TmA) : Prop := g < W.heap.size ∧ ∀ (i : Nat) (hi : i < d.size) (j : Nat) (u : Value), (d[i].cells)[j]? = some u → W.cell? ⟨g, i * 6 + j, none⟩ = some u
theorem RowT.step {W W' : World} {g : Nat} {d : Array TmA} (h : RowT W g d) (hs : W.heap.size ≤ W'.heap.size) (he : W'.heap[g]? = W.heap[g]?) : RowT W' g d :=
  ⟨Nat.lt_of_lt_of_le h.1 hs, fun i hi j u hu => by
    have := h.2 i hi j u hu
    simpa [World.cell?, he] using this⟩
def impl_Standing.f (k : Nat) (l0 : List S61) : Option (List Int) := (impl_AreTeams.f k l0).bind fun b => if b = true then (if l0.length ≤ 12 then some ((ordT l0).map (fun t => t.f0)) else none) else some []
end Go.Proofs.Ytiimiogpiflkdaa.A
end

section
namespace Go.Proofs.Ytiimiogpiflkdaa.A
open Go.RowKit Go.Proofs.YtiimiogpiflkdaaW.PrintWords Go.Proofs.YtiimiogpiflkdaaW.PrintLast Go.Proofs.YtiimiogpiflkdaaW.PrintMore
attribute [local go_sem] max2_int min2_int max_two min_two max_three min_three max_four min_four   -- for this text's walks alone
set_option linter.unusedVariables false
set_option linter.unusedSimpArgs false
def spec_l19Before.f (a0_0 : Int) (a0_1 : Int) (a0_2 : Int) (a0_3 : Int) (a0_4 : Int) (l0_5 : List Int) (a1_0 : Int) (a1_1 : Int) (a1_2 : Int) (a1_3 : Int) (a1_4 : Int) (l1_5 : List Int) : Option (Bool) := if a0_2 = a1_2 then (if a0_3 > a1_3 then (some true) else (if a0_3 = a1_3 then (some (decide (a0_0 < a1_0))) else (some false))) else (some (decide (a0_2 > a1_2)))
end Go.Proofs.Ytiimiogpiflkdaa.A
end

section
set_option linter.unusedVariables false
set_option linter.unusedSimpArgs false
namespace Go.Proofs.Ytiimiogpiflkdaa.L
open Go Go.RowKit Go.Proofs.Ytiimiogpiflkdaa.A Go.Proofs.YtiimiogpiflkdaaW.PrintWords
theorem tlT_all {l : List Tm} : ∀ (d n : Nat), tlT l d n = true → (∀ i : Nat, n ≤ i → i < n + d → okT l i = true) ∧ l.length ≤ 10
  | 0, n, h => ⟨fun i h1 h2 => by omega, of_decide_eq_true h⟩
  | d + 1, n, h => by
    simp only [tlT, Bool.and_eq_true] at h
    obtain ⟨h1, h2⟩ := tlT_all d (n + 1) h.2
    refine ⟨fun i hi hd => ?_, h2⟩
    by_cases e : i = n
    · rw [e]; exact h.1
    · exact h1 i (by omega) (by omega)
theorem areT_row {l : List Tm} (h : areT l = true) (i : Nat) (hi : i < l.length) : okT l i = true := (tlT_all _ _ h).1 i (by omega) (by omega)
end Go.Proofs.Ytiimiogpiflkdaa.L
end

section
set_option linter.unusedVariables false
set_option linter.unusedSimpArgs false
namespace Go.Proofs.Ytiimiogpiflkdaa.L
open Go Go.RowKit Go.Proofs.Ytiimiogpiflkdaa.A Go.Proofs.YtiimiogpiflkdaaW.PrintWords
def addX (x : Tm) (b w p : Int) : Tm := ⟨x.f0, x.f1, if w = 1 then wrap64 (x.f2 + 1) else x.f2, wrap64 (x.f3 + p), wrap64 (x.f4 + 1), x.f5 ++ [b]⟩
def addY (y : Tm) (a w q : Int) : Tm := ⟨y.f0, y.f1, if w = 1 then y.f2 else wrap64 (y.f2 + 1), wrap64 (y.f3 + q), y.f4, y.f5 ++ [a]⟩
def addL (l : List Tm) (a b w p q : Int) : List Tm := (l.set (findT l a).toNat (addX (rdT l (findT l a)) b w p)).set (findT l b).toNat (addY (rdT l (findT l b)) a w q)
def addC (l : List Tm) (a b w p q : Int) : Prop := areT l = true ∧ 0 ≤ findT l a ∧ 0 ≤ findT l b ∧ findT l a ≠ findT l b ∧ inR w 1 2 = true ∧ inR p 0 1000 = true ∧ inR q 0 1000 = true
instance (l : List Tm) (a b w p q : Int) : Decidable (addC l a b w p q) := by unfold addC; infer_instance
def addT (l : List Tm) (a b w p q : Int) : List Tm × Bool := if addC l a b w p q then (if areT (addL l a b w p q) = true then (addL l a b w p q, true) else (l, false)) else (l, false)
theorem addL_len (l : List Tm) (a b w p q : Int) : (addL l a b w p q).length = l.length := by simp [addL]
theorem addT_len (l : List Tm) (a b w p q : Int) : (addT l a b w p q).1.length = l.length := by
  unfold addT
  split
  · split
    · exact addL_len _ _ _ _ _ _
    · rfl
  · rfl
theorem rd_set_ne {l : List Tm} {i j : Int} {v : Tm} (hi : 0 ≤ i) (hj : 0 ≤ j) (h : i ≠ j) : rdT (l.set i.toNat v) j = rdT l j := by
  have : i.toNat ≠ j.toNat := by omega
  simp [rdT, rd_T61, List.getElem?_set_ne this]
theorem rd_set_same {l : List Tm} {i : Int} {v : Tm} (h0 : 0 ≤ i) (h1 : i < l.length) : rdT (l.set i.toNat v) i = v := by
  have : i.toNat < l.length := by omega
  simp [rdT, rd_T61, List.getElem?_set_self this]
def Tiny (n m : Nat) (l : List Tm) : Prop := l.length ≤ n ∧ ∀ x ∈ l, x.f5.length ≤ m
theorem mem_set {l : List Tm} {i : Nat} {v x : Tm} (h : x ∈ l.set i v) : x = v ∨ x ∈ l := by
  rcases List.mem_or_eq_of_mem_set h with h | h
  · exact .inr h
  · exact .inl h
theorem rdT_f5 {l : List Tm} {m : Nat} (h : ∀ x ∈ l, x.f5.length ≤ m) {i : Int} (h0 : 0 ≤ i) (h1 : i < l.length) : (rdT l i).f5.length ≤ m := h _ (rdTm_mem h0 h1)
theorem addT_tiny {n m : Nat} {l : List Tm} (h : Tiny n m l) (a b w p q : Int) : Tiny n (m + 1) (addT l a b w p q).1 := by
  have hw : Tiny n (m + 1) l := ⟨h.1, fun x hx => by have := h.2 x hx; omega⟩
  unfold addT
  split
  · rename_i hc
    obtain ⟨h1, h2, h3, h4, h5, h6, h7⟩ := hc
    split
    · refine ⟨by rw [addL_len]; exact h.1, fun x hx => ?_⟩
      have r1 := findT_range l a
      have r2 := findT_range l b
      unfold addL at hx
      rcases mem_set hx with rfl | hx
      · have := rdT_f5 h.2 h3 r2.2
        simp only [addY, List.length_append, List.length_cons, List.length_nil]
        omega
      · rcases mem_set hx with rfl | hx
        · have := rdT_f5 h.2 h2 r1.2
          simp only [addX, List.length_append, List.length_cons, List.length_nil]
          omega
        · exact hw.2 x hx
    · exact hw
  · exact hw
end Go.Proofs.Ytiimiogpiflkdaa.L
end

section
set_option linter.unusedVariables false
set_option linter.unusedSimpArgs false
namespace Go.Proofs.Ytiimiogpiflkdaa.L
open Go Go.RowKit Go.Proofs.Ytiimiogpiflkdaa.A Go.Proofs.YtiimiogpiflkdaaW.PrintWords
structure Two (l : List Tm) (i j : Int) : Prop where
  i0 : 0 ≤ i
  i1 : i < l.length
  j0 : 0 ≤ j
  j1 : j < l.length
  ne : i ≠ j
def st2 (l : List Tm) (i j : Int) (u v : Tm) : List Tm := (l.set i.toNat u).set j.toNat v
theorem st2_len {l : List Tm} {i j : Int} {u v : Tm} (H : Two l i j) : ((st2 l i j u v).length : Int) = l.length := by simp [st2]
theorem st2_first {l : List Tm} {i j : Int} {u : Tm} (H : Two l i j) : l.set i.toNat u = st2 l i j u (rdT l j) := by
  have h1 := H.j0
  have h2 := H.j1
  have h3 := H.i0
  have h4 := H.ne
  have h5 : i.toNat ≠ j.toNat := by omega
  have hl : j.toNat < l.length := by omega
  have e : rdT l j = l[j.toNat] := by simp [rdT, rd_T61, hl]
  unfold st2
  rw [e]
  apply List.ext_getElem?
  intro q
  by_cases hq : j.toNat = q
  · subst hq
    rw [List.getElem?_set_self (by simpa using hl), List.getElem?_set_ne h5, List.getElem?_eq_getElem hl]
  · rw [List.getElem?_set_ne hq]
theorem st2_rd_i {l : List Tm} {i j : Int} {u v : Tm} (H : Two l i j) : rdT (st2 l i j u v) i = u := by
  unfold st2
  rw [rd_set_ne H.j0 H.i0 H.ne.symm, rd_set_same H.i0 H.i1]
theorem st2_rd_j {l : List Tm} {i j : Int} {u v : Tm} (H : Two l i j) : rdT (st2 l i j u v) j = v := by
  unfold st2
  rw [rd_set_same H.j0 (by simpa using H.j1)]
theorem st2_set_i {l : List Tm} {i j : Int} {u v u' : Tm} (H : Two l i j) : (st2 l i j u v).set i.toNat u' = st2 l i j u' v := by
  have h1 := H.j0
  have h3 := H.i0
  have h4 := H.ne
  have h5 : i.toNat ≠ j.toNat := by omega
  unfold st2
  rw [List.set_comm _ _ (Ne.symm h5), List.set_set]
theorem st2_set_j {l : List Tm} {i j : Int} {u v v' : Tm} (H : Two l i j) : (st2 l i j u v).set j.toNat v' = st2 l i j u v' := by
  unfold st2
  rw [List.set_set]
theorem small_len {l : List Tm} (hs : Small l) {i : Int} (h0 : 0 ≤ i) (h1 : i < l.length) : (rdT l i).f5.length ≤ 1099511627776 := rdT_f5 hs.2 h0 h1
theorem small_addL {l : List Tm} (hs : Small l) (ha : areT l = true) {a b : Int} (w p q : Int) (h1 : 0 ≤ findT l a) (h2 : 0 ≤ findT l b) : Small (addL l a b w p q) := by
  have r1 := findT_range l a
  have r2 := findT_range l b
  have hm : ∀ x ∈ l, x.f5.length ≤ 20 := fun x hx => by
    obtain ⟨n, hn, rfl⟩ := List.getElem_of_mem hx
    have h1 := areT_row ha n hn
    simp only [okT, rowT, Bool.and_eq_true, decide_eq_true_eq] at h1
    have h2 := h1.1.1.2
    simp only [rdT, rdTm hn] at h2
    omega
  refine ⟨by rw [addL_len]; exact hs.1, fun x hx => ?_⟩
  unfold addL at hx
  rcases mem_set hx with rfl | hx
  · have := rdT_f5 hm h2 r2.2
    simp only [addY, List.length_append, List.length_cons, List.length_nil]
    omega
  · rcases mem_set hx with rfl | hx
    · have := rdT_f5 hm h1 r1.2
      simp only [addX, List.length_append, List.length_cons, List.length_nil]
      omega
    · have := hm x hx
      omega
theorem sCopy_l0 (l : List Tm) (hs : Small l) : ∀ (d n : Nat) (acc : List Tm), n + d = l.length → acc = l.take n → Ev (fun k => spec_l19Copy.l0 k l acc (n : Int)) l := by
  have hl := hs.1
  intro d
  induction d with
  | zero =>
    intro n acc hd ha
    refine Ev.step (fun k => spec_l19Copy.l0.eq_2 ..) (Ev.neg (by omega) (Ev.some_ ?_))
    rw [ha, List.take_of_length_le (by omega)]
  | succ d ih =>
    intro n acc hd ha
    have hn : n < l.length := by omega
    have h5 := hs.2 _ (List.getElem_mem hn)
    have hal : acc.length = n := by rw [ha, List.length_take]; omega
    refine Ev.step (fun k => spec_l19Copy.l0.eq_2 ..) (Ev.pos (by omega) (Ev.pos (by omega) (Ev.bnd rfl ?_)))
    simp only [w64s (show n < 4611686018427387904 by omega), rdTm hn, List.nil_append]
    refine Ev.pos (by simp only [List.length_nil]; omega) (Ev.pos (by omega) ?_)
    refine ih (n + 1) _ (by omega) ?_
    rw [List.take_succ_eq_append_getElem hn, ha]
theorem sCopy_ev (l : List Tm) (hs : Small l) : Ev (fun k => spec_l19Copy.f k l) l := by
  unfold spec_l19Copy.f
  exact sCopy_l0 l hs l.length 0 [] (by omega) (by simp)
theorem sAdd_fin (l : List Tm) (a b w p q : Int) (hs : Small l) (hc : addC l a b w p q) : Ev (fun k => spec_AddResult.j1 k l (addL l a b w p q)) (addT l a b w p q) := by
  have hS := small_addL hs hc.1 w p q hc.2.1 hc.2.2.1
  refine Ev.step (fun k => spec_AddResult.j1.eq_2 ..) (Ev.bind (sAreTeams_ev _ hS) ?_)
  unfold addT
  rw [if_pos hc]
  refine Ev.ite (fun h => Ev.some_ (by rw [if_pos h])) (fun h => Ev.bind (sCopy_ev l hs) (Ev.some_ (by rw [if_neg h])))
theorem sAdd_j0 (l : List Tm) (a b w p q : Int) (hs : Small l) (hc : addC l a b w p q) : Ev (fun k => spec_AddResult.j0 k l a b w p q l (findT l a) (findT l b) false) (addT l a b w p q) := by
  have ra := findT_range l a
  have rb := findT_range l b
  have H : Two l (findT l a) (findT l b) := ⟨hc.2.1, ra.2, hc.2.2.1, rb.2, hc.2.2.2.1⟩
  have fin := sAdd_fin l a b w p q hs hc
  have ha5 := small_len hs H.i0 H.i1
  have hb5 := small_len hs H.j0 H.j1
  unfold addL at fin
  generalize findT l a = i at H ra ha5 fin ⊢
  generalize findT l b = j at H rb hb5 fin ⊢
  have fin2 : Ev (fun k => spec_AddResult.j1 k l (st2 l i j (addX (rdT l i) b w p) (addY (rdT l j) a w q))) (addT l a b w p q) := fin
  refine Ev.step (fun k => spec_AddResult.j0.eq_2 ..) (Ev.neg (by simp) (Ev.pos H.i0 (Ev.pos H.i1 (Ev.pos (show (rdT l i).f5.length < _ by omega) ?_))))
  refine Ev.bnd (congrArg some (st2_first H)) (Ev.pos H.j0 (Ev.pos H.j1 (Ev.pos (show (rdT (st2 l i j _ _) j).f5.length < _ by rw [st2_rd_j H]; omega) ?_)))
  refine Ev.bnd (congrArg some (st2_set_j H)) (Ev.bnd (congrArg some (st2_set_i H)) (Ev.bnd (congrArg some (st2_set_i H)) (Ev.bnd (congrArg some (st2_set_j H)) ?_)))
  change Ev (fun k => if w = 1 then spec_AddResult.j1 k l ((st2 l i j _ _).set i.toNat (⟨(rdT (st2 l i j _ _) i).f0, (rdT (st2 l i j _ _) i).f1, wrap64 ((rdT (st2 l i j _ _) i).f2 + 1), (rdT (st2 l i j _ _) i).f3, (rdT (st2 l i j _ _) i).f4, (rdT (st2 l i j _ _) i).f5⟩ : Tm)) else spec_AddResult.j1 k l ((st2 l i j _ _).set j.toNat (⟨(rdT (st2 l i j _ _) j).f0, (rdT (st2 l i j _ _) j).f1, wrap64 ((rdT (st2 l i j _ _) j).f2 + 1), (rdT (st2 l i j _ _) j).f3, (rdT (st2 l i j _ _) j).f4, (rdT (st2 l i j _ _) j).f5⟩ : Tm))) _
  rw [st2_set_i H, st2_set_j H]
  refine Ev.ite (fun hw => ?_) (fun hw => ?_)
  · have e : addX (rdT l i) b w p = ⟨(rdT l i).f0, (rdT l i).f1, wrap64 ((rdT l i).f2 + 1), wrap64 ((rdT l i).f3 + p), wrap64 ((rdT l i).f4 + 1), (rdT l i).f5 ++ [b]⟩ := by simp [addX, hw]
    have e2 : addY (rdT l j) a w q = ⟨(rdT l j).f0, (rdT l j).f1, (rdT l j).f2, wrap64 ((rdT l j).f3 + q), (rdT l j).f4, (rdT l j).f5 ++ [a]⟩ := by simp [addY, hw]
    rw [e, e2] at fin2
    simp only [rdT] at fin2
    simpa only [← show ∀ xs x, rdT xs x = rd_T61 xs x from fun _ _ => rfl, st2_rd_i H, st2_rd_j H] using fin2
  · have e : addX (rdT l i) b w p = ⟨(rdT l i).f0, (rdT l i).f1, (rdT l i).f2, wrap64 ((rdT l i).f3 + p), wrap64 ((rdT l i).f4 + 1), (rdT l i).f5 ++ [b]⟩ := by simp [addX, hw]
    have e2 : addY (rdT l j) a w q = ⟨(rdT l j).f0, (rdT l j).f1, wrap64 ((rdT l j).f2 + 1), wrap64 ((rdT l j).f3 + q), (rdT l j).f4, (rdT l j).f5 ++ [a]⟩ := by simp [addY, hw]
    rw [e, e2] at fin2
    simpa only [st2_rd_i H, st2_rd_j H] using fin2
theorem sAdd_ev (l : List Tm) (a b w p q : Int) (hs : Small l) : Ev (fun k => spec_AddResult.f k l a b w p q) (addT l a b w p q) := by
  unfold spec_AddResult.f
  have hj : ∀ x y, ¬ addC l a b w p q → Ev (fun k => spec_AddResult.j0 k l a b w p q l x y true) (addT l a b w p q) := fun x y h => Ev.step (fun k => spec_AddResult.j0.eq_2 ..) (Ev.pos rfl (Ev.some_ (by unfold addT; rw [if_neg h])))
  refine Ev.bind (sCopy_ev l hs) (Ev.bind (sFindTeam_ev l a hs.1) (Ev.bind (sFindTeam_ev l b hs.1) (Ev.bind (sAreTeams_ev l hs) ?_)))
  refine Ev.ite (fun h1 => ?_) (fun h1 => hj _ _ (fun h => h1 h.1))
  refine Ev.ite (fun h2 => hj _ _ (fun h => by have := h.2.1; omega)) (fun h2 => ?_)
  refine Ev.ite (fun h3 => hj _ _ (fun h => by have := h.2.2.1; omega)) (fun h3 => ?_)
  refine Ev.ite (fun h4 => hj _ _ (fun h => h.2.2.2.1 h4)) (fun h4 => ?_)
  refine Ev.bnd (l1In_eq _ _ _) (Ev.ite (fun h5 => ?_) (fun h5 => hj _ _ (fun h => h5 h.2.2.2.2.1)))
  refine Ev.bnd (l1In_eq _ _ _) (Ev.ite (fun h6 => ?_) (fun h6 => hj _ _ (fun h => h6 h.2.2.2.2.2.1)))
  refine Ev.bnd (l1In_eq _ _ _) ?_
  cases h7 : inR q 0 1000 with
  | false => exact hj _ _ (fun h => by have h8 := h.2.2.2.2.2.2; rw [h7] at h8; cases h8)
  | true => exact sAdd_j0 l a b w p q hs ⟨h1, by omega, by omega, h4, h5, h6, h7⟩
end Go.Proofs.Ytiimiogpiflkdaa.L
end

section
set_option linter.unusedVariables false
set_option linter.unusedSimpArgs false
namespace Go.Proofs.Ytiimiogpiflkdaa.L
open Go Go.RowKit Go.Proofs.Ytiimiogpiflkdaa.A Go.Proofs.YtiimiogpiflkdaaW.PrintWords
theorem iClone_l0 (l : List Tm) (hs : Small l) : ∀ (d n : Nat) (acc : List Tm), n + d = l.length → acc = l.take n → Ev (fun k => impl_cloneTeams.l0 k acc l (l.length : Int) (n : Int)) l := by
  have hl := hs.1
  intro d
  induction d with
  | zero =>
    intro n acc hd ha
    refine Ev.step (fun k => impl_cloneTeams.l0.eq_2 ..) (Ev.neg (by omega) (Ev.some_ ?_))
    rw [ha, List.take_of_length_le (by omega)]
  | succ d ih =>
    intro n acc hd ha
    have hn : n < l.length := by omega
    have h5 := hs.2 _ (List.getElem_mem hn)
    have hal : acc.length = n := by rw [ha, List.length_take]; omega
    refine Ev.step (fun k => impl_cloneTeams.l0.eq_2 ..) (Ev.pos (by omega) (Ev.pos (by omega) (Ev.pos (by omega) ?_)))
    simp only [w64s (show n < 4611686018427387904 by omega), rdTm hn]
    refine Ev.bnd (a := (l[n]).f5) (by unfold slices_Clone_int_int.f; exact if_pos (by omega)) (Ev.pos (by omega) ?_)
    refine ih (n + 1) _ (by omega) ?_
    rw [List.take_succ_eq_append_getElem hn, ha]
theorem iClone_ev (l : List Tm) (hs : Small l) : Ev (fun k => impl_cloneTeams.f k l) l := by
  unfold impl_cloneTeams.f
  exact iClone_l0 l hs l.length 0 [] (by omega) (by simp)
theorem iAdd_fin (l : List Tm) (a b w p q : Int) (hs : Small l) (hc : addC l a b w p q) : Ev (fun k => (impl_AreTeams.f k (addL l a b w p q)).bind fun t => (if t = true then some (addL l a b w p q, true) else (impl_cloneTeams.f k l).bind fun t => some (t, false))) (addT l a b w p q) := by
  have hS := small_addL hs hc.1 w p q hc.2.1 hc.2.2.1
  refine Ev.bind (iAreTeams_ev _ hS) ?_
  unfold addT
  rw [if_pos hc]
  refine Ev.ite (fun h => Ev.some_ (by rw [if_pos h])) (fun h => Ev.bind (iClone_ev l hs) (Ev.some_ (by rw [if_neg h])))
theorem iAdd_j1 (l : List Tm) (i j p q : Int) (u v : Tm) (H : Two l i j) (R : List Tm × Bool)
    (fin : Ev (fun k => (impl_AreTeams.f k (st2 l i j ⟨u.f0, u.f1, u.f2, wrap64 (u.f3 + p), u.f4, u.f5⟩ ⟨v.f0, v.f1, v.f2, wrap64 (v.f3 + q), v.f4, v.f5⟩)).bind fun t => (if t = true then some (st2 l i j ⟨u.f0, u.f1, u.f2, wrap64 (u.f3 + p), u.f4, u.f5⟩ ⟨v.f0, v.f1, v.f2, wrap64 (v.f3 + q), v.f4, v.f5⟩, true) else (impl_cloneTeams.f k l).bind fun t => some (t, false))) R) :
    Ev (fun k => impl_AddResult.j1 k l p q (st2 l i j u v) i j) R := by
  refine Ev.step (fun k => impl_AddResult.j1.eq_2 ..) (Ev.pos H.i0 (Ev.pos (by rw [st2_len H]; exact H.i1) ?_))
  refine Ev.bnd (congrArg some (st2_set_i H)) (Ev.pos H.j0 (Ev.pos (by rw [st2_len H]; exact H.j1) (Ev.bnd (congrArg some (st2_set_j H)) ?_)))
  have e1 : rd_T61 (st2 l i j u v) i = u := st2_rd_i H
  simp only [e1]
  have e2 : ∀ z, rd_T61 (st2 l i j z v) j = v := fun z => st2_rd_j H
  simp only [e2]
  exact fin
theorem iAdd_j0 (l : List Tm) (a b w p q : Int) (hs : Small l) (hc : addC l a b w p q) : Ev (fun k => impl_AddResult.j0 k l a b w p q l (findT l a) (findT l b) false) (addT l a b w p q) := by
  have ra := findT_range l a
  have rb := findT_range l b
  have H : Two l (findT l a) (findT l b) := ⟨hc.2.1, ra.2, hc.2.2.1, rb.2, hc.2.2.2.1⟩
  have fin := iAdd_fin l a b w p q hs hc
  have ha5 := small_len hs H.i0 H.i1
  have hb5 := small_len hs H.j0 H.j1
  unfold addL at fin
  generalize findT l a = i at H ra ha5 fin ⊢
  generalize findT l b = j at H rb hb5 fin ⊢
  have fin2 : Ev (fun k => (impl_AreTeams.f k (st2 l i j (addX (rdT l i) b w p) (addY (rdT l j) a w q))).bind fun t => (if t = true then some (st2 l i j (addX (rdT l i) b w p) (addY (rdT l j) a w q), true) else (impl_cloneTeams.f k l).bind fun t => some (t, false))) (addT l a b w p q) := fin
  refine Ev.step (fun k => impl_AddResult.j0.eq_2 ..) (Ev.neg (by simp) (Ev.pos H.i0 (Ev.pos H.i1 (Ev.pos (show (rdT l i).f5.length < _ by omega) ?_))))
  refine Ev.bnd (congrArg some (st2_first H)) (Ev.pos H.j0 (Ev.pos H.j1 (Ev.pos (show (rdT (st2 l i j _ _) j).f5.length < _ by rw [st2_rd_j H]; omega) ?_)))
  refine Ev.bnd (congrArg some (st2_set_j H)) (Ev.bnd (congrArg some (st2_set_i H)) ?_)
  refine Ev.ite (fun hw => ?_) (fun hw => ?_)
  · have e : addX (rdT l i) b w p = ⟨(rdT l i).f0, (rdT l i).f1, wrap64 ((rdT l i).f2 + 1), wrap64 ((rdT l i).f3 + p), wrap64 ((rdT l i).f4 + 1), (rdT l i).f5 ++ [b]⟩ := by simp [addX, hw]
    have e2 : addY (rdT l j) a w q = ⟨(rdT l j).f0, (rdT l j).f1, (rdT l j).f2, wrap64 ((rdT l j).f3 + q), (rdT l j).f4, (rdT l j).f5 ++ [a]⟩ := by simp [addY, hw]
    rw [e, e2] at fin2
    have := iAdd_j1 l i j p q ⟨(rdT l i).f0, (rdT l i).f1, wrap64 ((rdT l i).f2 + 1), (rdT l i).f3, wrap64 ((rdT l i).f4 + 1), (rdT l i).f5 ++ [b]⟩ ⟨(rdT l j).f0, (rdT l j).f1, (rdT l j).f2, (rdT l j).f3, (rdT l j).f4, (rdT l j).f5 ++ [a]⟩ H _ fin2
    refine Ev.cast (r := addT l a b w p q) ?_ rfl
    have e3 : ∀ u v, rd_T61 (st2 l i j u v) i = u := fun u v => st2_rd_i H
    have e4 : ∀ u v, rd_T61 (st2 l i j u v) j = v := fun u v => st2_rd_j H
    simp only [e3, e4, st2_set_i H]
    exact this
  · have e : addX (rdT l i) b w p = ⟨(rdT l i).f0, (rdT l i).f1, (rdT l i).f2, wrap64 ((rdT l i).f3 + p), wrap64 ((rdT l i).f4 + 1), (rdT l i).f5 ++ [b]⟩ := by simp [addX, hw]
    have e2 : addY (rdT l j) a w q = ⟨(rdT l j).f0, (rdT l j).f1, wrap64 ((rdT l j).f2 + 1), wrap64 ((rdT l j).f3 + q), (rdT l j).f4, (rdT l j).f5 ++ [a]⟩ := by simp [addY, hw]
    rw [e, e2] at fin2
    have := iAdd_j1 l i j p q ⟨(rdT l i).f0, (rdT l i).f1, (rdT l i).f2, (rdT l i).f3, wrap64 ((rdT l i).f4 + 1), (rdT l i).f5 ++ [b]⟩ ⟨(rdT l j).f0, (rdT l j).f1, wrap64 ((rdT l j).f2 + 1), (rdT l j).f3, (rdT l j).f4, (rdT l j).f5 ++ [a]⟩ H _ fin2
    have e3 : ∀ u v, rd_T61 (st2 l i j u v) i = u := fun u v => st2_rd_i H
    have e4 : ∀ u v, rd_T61 (st2 l i j u v) j = v := fun u v => st2_rd_j H
    simp only [e3, e4, st2_set_j H]
    exact this
theorem iAdd_ev (l : List Tm) (a b w p q : Int) (hs : Small l) : Ev (fun k => impl_AddResult.f k l a b w p q) (addT l a b w p q) := by
  unfold impl_AddResult.f
  have hj : ∀ x y, ¬ addC l a b w p q → Ev (fun k => impl_AddResult.j0 k l a b w p q l x y true) (addT l a b w p q) := fun x y h => Ev.step (fun k => impl_AddResult.j0.eq_2 ..) (Ev.pos rfl (Ev.some_ (by unfold addT; rw [if_neg h])))
  refine Ev.bind (iClone_ev l hs) (Ev.bnd (iFindTeam_eq l a) (Ev.bnd (iFindTeam_eq l b) (Ev.bind (iAreTeams_ev l hs) ?_)))
  refine Ev.ite (fun h1 => ?_) (fun h1 => hj _ _ (fun h => h1 h.1))
  refine Ev.ite (fun h2 => hj _ _ (fun h => by have := h.2.1; omega)) (fun h2 => ?_)
  refine Ev.ite (fun h3 => hj _ _ (fun h => by have := h.2.2.1; omega)) (fun h3 => ?_)
  refine Ev.ite (fun h4 => hj _ _ (fun h => h.2.2.2.1 h4)) (fun h4 => ?_)
  refine Ev.bnd (InRange_eq _ _ _) (Ev.ite (fun h5 => ?_) (fun h5 => hj _ _ (fun h => h5 h.2.2.2.2.1)))
  refine Ev.bnd (InRange_eq _ _ _) (Ev.ite (fun h6 => ?_) (fun h6 => hj _ _ (fun h => h6 h.2.2.2.2.2.1)))
  refine Ev.bnd (InRange_eq _ _ _) ?_
  cases h7 : inR q 0 1000 with
  | false => exact hj _ _ (fun h => by have h8 := h.2.2.2.2.2.2; rw [h7] at h8; cases h8)
  | true => exact iAdd_j0 l a b w p q hs ⟨h1, by omega, by omega, h4, h5, h6, h7⟩
end Go.Proofs.Ytiimiogpiflkdaa.L
end

section
set_option linter.unusedVariables false
namespace Go.Proofs.Ytiimiogpiflkdaa.M
theorem tot_le (m B : Nat) : ∀ ns : List Nat, (∀ n ∈ ns, n ≤ B) → tot m ns ≤ ns.length * (m + B)
  | [], _ => by simp [tot]
  | n :: r, h => by
    have h1 := tot_le m B r (fun x hx => h x (List.mem_cons_of_mem _ hx))
    have h2 := h n List.mem_cons_self
    simp only [tot, List.length_cons, Nat.succ_mul]
    omega
theorem tot_small {α : Type} (m : Nat) (hm : m ≤ 5) (f : α → Nat) (l : List α) (hl : l.length ≤ 1048576) (hf : ∀ x ∈ l, f x ≤ 1048576) : tot m (l.map f) ≤ 1099516870656 := by
  have h := tot_le m 1048576 (l.map f) (by simpa using hf)
  rw [List.length_map] at h
  refine Nat.le_trans h ?_
  refine Nat.le_trans (Nat.mul_le_mul hl (Nat.add_le_add_right hm 1048576)) ?_
  omega
end Go.Proofs.Ytiimiogpiflkdaa.M
end

section
set_option linter.unusedVariables false
set_option linter.unusedSimpArgs false
namespace Go.Proofs.Ytiimiogpiflkdaa.L
open Go Go.RowKit Go.Proofs.Ytiimiogpiflkdaa.A Go.Proofs.YtiimiogpiflkdaaW.PrintWords
theorem mkTs_drop (l : List Tm) (k : Int) : ∀ n (h : n < l.length), ∃ hh : n < (M.mkTs l k).length, (M.mkTs l k)[n] = M.mk1 l[n] (k + M.tot 5 (M.lens (l.take n))) := by
  intro n h
  have hl := M.mkTs_length l k
  refine ⟨by omega, ?_⟩
  have e : l = l.take n ++ (l[n] :: l.drop (n + 1)) := by rw [← List.drop_eq_getElem_cons h, List.take_append_drop]
  have hap : ∀ (a b : List Tm) (k : Int), M.mkTs (a ++ b) k = M.mkTs a k ++ M.mkTs b (k + M.tot 5 (M.lens a)) := by
    intro a
    induction a with
    | nil => intro b k; simp [M.mkTs, M.tot]
    | cons y a ih =>
      intro b k
      simp only [List.cons_append, M.mkTs, ih, List.map_cons, M.tot]
      rw [show k + 5 + (y.f5.length : Int) + (M.tot 5 (M.lens a) : Int) = k + ((5 + y.f5.length + M.tot 5 (M.lens a) : Nat) : Int) by omega]
  have h2 : (M.mkTs l k)[n]? = some (M.mk1 l[n] (k + M.tot 5 (M.lens (l.take n)))) := by
    have h3 := hap (l.take n) (l[n] :: l.drop (n + 1)) k
    rw [← e] at h3
    have hl2 : (M.mkTs (l.take n) k).length = n := by rw [M.mkTs_length, List.length_take]; omega
    rw [h3, List.getElem?_append_right (by omega), hl2, Nat.sub_self]
    rfl
  rw [List.getElem?_eq_getElem (by omega)] at h2
  exact Option.some.inj h2
theorem heldT_l0 (l : List Tm) (k0 : Int) (h0 : 0 ≤ k0) (h1 : k0 + M.tot 5 (M.lens l) ≤ 2305843009213693952) (hl : l.length ≤ 1099511627776) (hi5 : ∀ x ∈ l, x.f5.length ≤ 1099511627776) : ∀ (d n : Nat), n + d = l.length → Ev (fun k => laws_heldTeamS.l0 k (M.mkTs l k0) (k0 + M.tot 5 (M.lens (l.take n))) (n : Int)) (k0 + M.tot 5 (M.lens l)) := by
  have hml := M.mkTs_length l k0
  intro d
  induction d with
  | zero =>
    intro n hd
    refine Ev.step (fun k => laws_heldTeamS.l0.eq_2 ..) (Ev.neg (by omega) (Ev.some_ ?_))
    rw [List.take_of_length_le (by omega)]
  | succ d ih =>
    intro n hd
    have hn : n < l.length := by omega
    obtain ⟨hm, em⟩ := mkTs_drop l k0 n hn
    have htk := M.tot_take 5 (M.lens l) n (by simpa using hn)
    have htl := M.tot_take_le 5 (M.lens l) (n + 1)
    have et : ∀ n, (M.lens l).take n = M.lens (l.take n) := fun n => by simp [M.lens, List.map_take]
    rw [et, et] at htk
    rw [et] at htl
    have enk : (M.lens l)[n]'(by simpa using hn) = (l[n]).f5.length := by simp [M.lens]
    rw [enk] at htk
    generalize M.tot 5 (M.lens (l.take n)) = t at htk em ⊢
    have hx : ∀ i : Int, rd_T61 (M.mkTs l k0) (n : Int) = M.mk1 l[n] (k0 + t) := fun _ => by rw [rdTm hm, em]
    have e1 : wrap64 (k0 + (t : Int) + 1) = k0 + t + 1 := w64 (by omega) (by omega)
    have e2 : wrap64 (k0 + (t : Int) + 1 + 1) = k0 + t + 2 := by rw [w64 (by omega) (by omega)]; omega
    have e3 : wrap64 (k0 + (t : Int) + 2 + 1) = k0 + t + 3 := by rw [w64 (by omega) (by omega)]; omega
    have e4 : wrap64 (k0 + (t : Int) + 3 + 1) = k0 + t + 4 := by rw [w64 (by omega) (by omega)]; omega
    have e5 : wrap64 (k0 + (t : Int) + 4 + 1) = k0 + t + 5 := by rw [w64 (by omega) (by omega)]; omega
    have hv := heldIntS_ev (l[n]).f5.length (k0 + t + 5) (by omega) (by omega) (hi5 _ (List.getElem_mem hn))
    have hnx := ih (n + 1) (by omega)
    rw [htk] at hnx
    have e6 : k0 + ((t + (5 + (l[n]).f5.length) : Nat) : Int) = k0 + t + 5 + ((l[n]).f5.length : Int) := by omega
    rw [e6] at hnx
    refine Ev.step (fun k => laws_heldTeamS.l0.eq_2 ..) (Ev.pos (by omega) (Ev.pos (by omega) ?_))
    simp only [hx 0, M.mk1, e1, e2, e3, e4, e5, w64s (show n < 4611686018427387904 by omega)]
    refine Ev.pos trivial (Ev.pos trivial (Ev.pos trivial (Ev.pos trivial (Ev.pos trivial (Ev.bind hv (Ev.neg (by omega) hnx))))))
theorem heldT_ev (l : List Tm) (k0 : Int) (h0 : 0 ≤ k0) (h1 : k0 + M.tot 5 (M.lens l) ≤ 2305843009213693952) (hl : l.length ≤ 1099511627776) (hi5 : ∀ x ∈ l, x.f5.length ≤ 1099511627776) : Ev (fun k => laws_heldTeamS.f k (M.mkTs l k0) k0) (k0 + M.tot 5 (M.lens l)) := by
  unfold laws_heldTeamS.f
  have := heldT_l0 l k0 h0 h1 hl hi5 l.length 0 (by omega)
  simpa [M.tot] using this
theorem tot_addT (l : List Tm) (a b w p q : Int) (N : Nat) (hl : l.length ≤ N) (hN : 1 ≤ N) (h5 : ∀ x ∈ l, x.f5.length ≤ N) : ∀ x ∈ (addT l a b w p q).1, x.f5.length ≤ N + 1 := (addT_tiny (n := N) (m := N) ⟨hl, h5⟩ a b w p q).2
theorem tot_mark (z : List Tm) (hl : z.length ≤ 1048576) (h : ∀ x ∈ z, x.f5.length ≤ 1048576 + 1) : M.tot 5 (M.lens z) ≤ 1099517919232 := by
  have h1 := M.tot_le 5 1048577 (M.lens z) (by simpa [M.lens] using h)
  rw [show (M.lens z).length = z.length by simp [M.lens]] at h1
  have h2 : z.length * (5 + 1048577) ≤ 1048576 * (5 + 1048577) := Nat.mul_le_mul_right _ hl
  omega
theorem FnExactAddResult_pure (l0 : List S64) (a1 a2 a3 a4 a5 : Int) (b0 : l0.length ≤ 9223372036854775807) (b1 : ∀ x ∈ l0, x.f5.length ≤ 9223372036854775807) (a1w : (Lit.int .i64 a1).wf = true) (a2w : (Lit.int .i64 a2).wf = true) (a3w : (Lit.int .i64 a3).wf = true) (a4w : (Lit.int .i64 a4).wf = true) (a5w : (Lit.int .i64 a5).wf = true) : ∃ k, laws_FnExactAddResult.f k l0 a1 a2 a3 a4 a5 = some true := by
  refine Ev.rounds (g := fun k => laws_FnExactAddResult.f k l0 a1 a2 a3 a4 a5) ?_
  unfold laws_FnExactAddResult.f
  obtain ⟨v, hv, _, hv2⟩ := szTeamS_ev l0 b0 b1
  refine Ev.bind hv (Ev.ite (fun _ => Ev.now _) (fun hs => ?_))
  obtain ⟨hl, hi⟩ := hv2 hs
  have hi' : ∀ x ∈ l0, x.f5.length ≤ 1099511627776 := fun x hx => by have := hi x hx; omega
  have hS := small_map l0 (by omega) hi'
  have hT := M.tot_small 5 (by omega) (fun x : Tm => x.f5.length) (l0.map cvTm) (by simpa using hl) (by
    intro x hx
    obtain ⟨y, hy, rfl⟩ := List.mem_map.1 hx
    exact hi y hy)
  have hT1 := toTeamS_ev l0 (by omega) hi'
  have hsA := sAdd_ev (l0.map cvTm) a1 a2 a3 a4 a5 hS
  have hiA := iAdd_ev (l0.map cvTm) a1 a2 a3 a4 a5 hS
  have hlen := addT_len (l0.map cvTm) a1 a2 a3 a4 a5
  rw [List.length_map] at hlen
  have h5 := tot_addT (l0.map cvTm) a1 a2 a3 a4 a5 1048576 (by simpa using hl) (by omega) (by
    intro x hx
    obtain ⟨y, hy, rfl⟩ := List.mem_map.1 hx
    exact hi y hy)
  generalize addT (l0.map cvTm) a1 a2 a3 a4 a5 = z at hsA hiA hlen h5
  obtain ⟨z, ok⟩ := z
  simp only at hlen h5
  have hSz : Small z := ⟨by omega, fun x hx => by have := h5 x hx; omega⟩
  have hE := eqTeamS_ev z hSz
  have hEl := eqTeamS_ev (l0.map cvTm) hS
  have hTz := tot_mark z (by omega) h5
  have hH := heldT_ev z 1 (by omega) (by omega) (by omega) hSz.2
  have hMk : laws_markTeamS.f z 1 = some ((1 : Int) + (M.tot 5 (M.lens z) : Int), M.mkTs z 1) := if_pos ⟨by omega, by omega, by omega, hSz.2⟩
  refine Ev.bind hT1 (Ev.bind hsA (Ev.bind hT1 (Ev.bind hiA ?_)))
  refine Ev.bind hE (Ev.pos rfl (Ev.pos rfl (Ev.bind hT1 (Ev.bind hEl (Ev.pos rfl ?_)))))
  refine Ev.pos ⟨⟨by simp; omega, fun x hx => by have := hS.2 x hx; omega⟩, Int.le_trans (Int.ofNat_le.2 hT) (by omega)⟩ ?_
  refine Ev.bind hE (Ev.pos rfl (Ev.pos rfl (Ev.bnd hMk ?_)))
  dsimp only
  refine Ev.bind hH (Ev.pos (by omega) (Ev.pos rfl ?_))
  refine Ev.bind hT1 (Ev.bind hiA (Ev.bind hE (Ev.pos rfl (Ev.pos rfl ?_))))
  exact Ev.bind hH (Ev.pos (by omega) (Ev.pos rfl (Ev.now _)))
end Go.Proofs.Ytiimiogpiflkdaa.L
end
