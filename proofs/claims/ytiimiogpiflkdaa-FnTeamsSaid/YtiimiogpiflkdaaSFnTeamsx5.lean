/- What the row FnTeams rests on, put together: LDrawT, LHBef, LHStandS, LStandP, LXFnTeams. No condition. -/
import Derived.Test.YtiimiogpiflkdaaSFnTeamsx4
import Derived.Test.YtiimiogpiflkdaaSFnTeamsx2
import Derived.Test.YtiimiogpiflkdaaSFnTeamsx3
import Derived.Test.YtiimiogpiflkdaaSFnTeamsx0
import Derived.Deep.RegionHeld3
import Derived.StillTailTactics
import Derived.BigQuiet
import Derived.Test.YtiimiogpiflkdaaSFnTeamsx1
section
set_option linter.unusedVariables false
set_option linter.unusedSimpArgs false
namespace Go.Proofs.Ytiimiogpiflkdaa.L
open Go Go.RowKit Go.Proofs.Ytiimiogpiflkdaa.A Go.Proofs.YtiimiogpiflkdaaW.PrintWords
theorem TDraw_l1 (b : List Int) : ∀ (d m : Nat) (l : List Tm) (i h : Int), d ≤ 6 → m + d ≤ 6 → 0 < l.length → Tiny 7 m l → At b i → ∃ l' i' h', 0 < l'.length ∧ Tiny 7 6 l' ∧ At b i' ∧ Ev (fun k => spec_l19Draw.l1 k l (d : Int) b i h) (l', i', h') := by
  intro d
  induction d with
  | zero =>
    intro m l i h hd hm hp ht ha
    exact ⟨l, i, h, hp, ⟨ht.1, fun x hx => by have := ht.2 x hx; omega⟩, ha, Ev.step (fun k => spec_l19Draw.l1.eq_2 ..) (Ev.neg (by omega) (Ev.now _))⟩
  | succ d ih =>
    intro m l i h hd hm hp ht ha
    obtain ⟨r1, i1, h1, e1, _, _, _, a1⟩ := Below_eq b i h 6 ha
    obtain ⟨r2, i2, h2, e2, _, _, _, a2⟩ := Below_eq b i1 h1 6 a1
    obtain ⟨r3, i3, h3, e3, _, _, _, a3⟩ := Below_eq b i2 h2 2 a2
    obtain ⟨r4, i4, h4, e4, _, _, _, a4⟩ := Below_eq b i3 h3 20 a3
    obtain ⟨r5, i5, h5, e5, _, _, _, a5⟩ := Below_eq b i4 h4 20 a4
    have hs : Small l := ht.small (by omega) (by omega)
    have hA := sAdd_ev l (wrap64 (2 * (wrap64 (1 + r1)))) (wrap64 (2 * (wrap64 (1 + r2)))) (wrap64 (1 + r3)) (wrap64 (60 + r4)) (wrap64 (60 + r5)) hs
    have hT := addT_tiny ht (wrap64 (2 * (wrap64 (1 + r1)))) (wrap64 (2 * (wrap64 (1 + r2)))) (wrap64 (1 + r3)) (wrap64 (60 + r4)) (wrap64 (60 + r5))
    have hL := addT_len l (wrap64 (2 * (wrap64 (1 + r1)))) (wrap64 (2 * (wrap64 (1 + r2)))) (wrap64 (1 + r3)) (wrap64 (60 + r4)) (wrap64 (60 + r5))
    obtain ⟨l', i', h', p', t', a', e'⟩ := ih (m + 1) _ i5 h5 (by omega) (by omega) (by rw [hL]; exact hp) hT a5
    refine ⟨l', i', h', p', t', a', Ev.step (fun k => spec_l19Draw.l1.eq_2 ..) (Ev.pos (by omega) (Ev.bnd e1 (Ev.bnd e2 (Ev.bnd e3 (Ev.bnd e4 (Ev.bnd e5 (Ev.bind hA ?_)))))))⟩
    rw [w64p (show d < 4611686018427387904 by omega)]
    exact e'
theorem TDraw_l0 (b : List Int) : ∀ (d x4 : Nat) (l : List Tm) (i h : Int), x4 + d = 7 → 1 ≤ x4 → l.length + 1 = x4 → Tiny 7 0 l → At b i → ∃ l' i' h', 0 < l'.length ∧ Tiny 7 6 l' ∧ At b i' ∧ Ev (fun k => spec_l19Draw.l0 k l (x4 : Int) b i h) (l', i', h') := by
  intro d
  induction d with
  | zero =>
    intro x4 l i h hd h1x hl ht ha
    obtain ⟨r, i1, h1, e1, r0, r1, _, a1⟩ := Below_eq b i h 5 ha
    have hr := r1 (by omega)
    obtain ⟨r2, i2, h2, e2, r20, r21, _, a2⟩ := Below_eq b i1 h1 7 a1
    have hr2 := r21 (by omega)
    obtain ⟨n, hn⟩ : ∃ n : Nat, r2 = (n : Int) := ⟨r2.toNat, by omega⟩
    subst hn
    obtain ⟨l', i', h', p', t', a', e'⟩ := TDraw_l1 b n 0 l i2 h2 (by omega) (by omega) (by omega) ht a2
    exact ⟨l', i', h', p', t', a', Ev.step (fun k => spec_l19Draw.l0.eq_2 ..) (Ev.bnd e1 (Ev.neg (by rw [w64 (by omega) (by omega)]; omega) (Ev.bnd e2 e')))⟩
  | succ d ih =>
    intro x4 l i h hd h1x hl ht ha
    obtain ⟨r, i1, h1, e1, r0, r1, _, a1⟩ := Below_eq b i h 5 ha
    have hr := r1 (by omega)
    by_cases hx : (x4 : Int) ≤ wrap64 (2 + r)
    · obtain ⟨r2, i2, h2, e2, _, _, _, a2⟩ := Below_eq b i1 h1 3 a1
      obtain ⟨l', i', h', p', t', a', e'⟩ := ih (x4 + 1) (l ++ [(⟨wrap64 (2 * (x4 : Int)), wrap64 (1 + r2), 0, 0, 0, ([] : List Int)⟩ : S61)]) i2 h2 (by omega) (by omega) (by simp; omega) ⟨by simp; omega, fun x hx => by
        rcases List.mem_append.1 hx with hx | hx
        · exact ht.2 x hx
        · simp only [List.mem_cons, List.not_mem_nil, or_false] at hx
          subst hx
          simp⟩ a2
      refine ⟨l', i', h', p', t', a', Ev.step (fun k => spec_l19Draw.l0.eq_2 ..) (Ev.bnd e1 (Ev.pos hx (Ev.bnd e2 (Ev.pos (by omega) ?_))))⟩
      rw [w64s (show x4 < 4611686018427387904 by omega)]
      exact e'
    · have hx2 : 2 ≤ x4 := by rw [w64 (by omega) (by omega)] at hx; omega
      obtain ⟨r2, i2, h2, e2, r20, r21, _, a2⟩ := Below_eq b i1 h1 7 a1
      have hr2 := r21 (by omega)
      obtain ⟨n, hn⟩ : ∃ n : Nat, r2 = (n : Int) := ⟨r2.toNat, by omega⟩
      subst hn
      obtain ⟨l', i', h', p', t', a', e'⟩ := TDraw_l1 b n 0 l i2 h2 (by omega) (by omega) (by omega) ht a2
      exact ⟨l', i', h', p', t', a', Ev.step (fun k => spec_l19Draw.l0.eq_2 ..) (Ev.bnd e1 (Ev.neg hx (Ev.bnd e2 e')))⟩
theorem TDraw_ev (b : List Int) (i h : Int) (ha : At b i) : ∃ l' i' h', 0 < l'.length ∧ Tiny 7 6 l' ∧ At b i' ∧ Ev (fun k => spec_l19Draw.f k b i h) (l', i', h') := by
  unfold spec_l19Draw.f
  exact TDraw_l0 b 6 1 [] i h (by omega) (by omega) (by simp) ⟨by simp, fun x hx => by simp at hx⟩ ha
theorem tiny_set {n m : Nat} {l : List Tm} (h : Tiny n m l) {i : Nat} {v : Tm} (hv : v.f5.length ≤ m) : Tiny n m (l.set i v) :=
  ⟨by rw [List.length_set]; exact h.1, fun x hx => by
    rcases mem_set hx with rfl | hx
    · exact hv
    · exact h.2 x hx⟩
theorem Tiny.wide {n m k : Nat} {l : List Tm} (h : Tiny n m l) (hk : m ≤ k) : Tiny n k l := ⟨h.1, fun x hx => Nat.le_trans (h.2 x hx) hk⟩
theorem TAny_ev (b : List Int) (i h : Int) (ha : At b i) : ∃ l' i' h', 0 < l'.length ∧ Tiny 7 7 l' ∧ At b i' ∧ Ev (fun k => spec_l19Any.f k b i h) (l', i', h') := by
  obtain ⟨l, i1, h1, hp, ht, a1, e1⟩ := TDraw_ev b i h ha
  obtain ⟨r, i2, h2, e2, r0, r1, _, a2⟩ := Below_eq b i1 h1 (l.length : Int) a1
  have hr := r1 (by omega)
  obtain ⟨c, i3, h3, e3, _, _, _, a3⟩ := Below_eq b i2 h2 14 a2
  have h5 : (rdT l r).f5.length ≤ 6 := rdT_f5 ht.2 r0 hr
  unfold spec_l19Any.f
  by_cases c0 : c = 0
  · obtain ⟨v, i4, h4, e4, _, a4⟩ := DInt_eq b i3 h3 [0, 2, 99, 100] (by simp) a3
    exact ⟨l.set r.toNat ⟨v, (rdT l r).f1, (rdT l r).f2, (rdT l r).f3, (rdT l r).f4, (rdT l r).f5⟩, i4, h4, by simpa using hp, tiny_set (ht.wide (by omega)) (by show (rdT l r).f5.length ≤ 7; omega), a4, Ev.bind e1 (Ev.bnd e2 (Ev.bnd e3 (Ev.pos c0 (Ev.bnd e4 (Ev.pos r0 (Ev.pos hr (Ev.now _)))))))⟩
  by_cases c1 : c = 1
  · obtain ⟨v, i4, h4, e4, _, a4⟩ := DInt_eq b i3 h3 [(-1), 9] (by simp) a3
    exact ⟨l.set r.toNat ⟨(rdT l r).f0, (rdT l r).f1, v, (rdT l r).f3, (rdT l r).f4, (rdT l r).f5⟩, i4, h4, by simpa using hp, tiny_set (ht.wide (by omega)) (by show (rdT l r).f5.length ≤ 7; omega), a4, Ev.bind e1 (Ev.bnd e2 (Ev.bnd e3 (Ev.neg c0 (Ev.pos c1 (Ev.bnd e4 (Ev.pos r0 (Ev.pos hr (Ev.now _))))))))⟩
  by_cases c2 : c = 2
  · obtain ⟨v, i4, h4, e4, _, a4⟩ := DInt_eq b i3 h3 [(-1), 100000, 100001] (by simp) a3
    exact ⟨l.set r.toNat ⟨(rdT l r).f0, (rdT l r).f1, (rdT l r).f2, v, (rdT l r).f4, (rdT l r).f5⟩, i4, h4, by simpa using hp, tiny_set (ht.wide (by omega)) (by show (rdT l r).f5.length ≤ 7; omega), a4, Ev.bind e1 (Ev.bnd e2 (Ev.bnd e3 (Ev.neg c0 (Ev.neg c1 (Ev.pos c2 (Ev.bnd e4 (Ev.pos r0 (Ev.pos hr (Ev.now _)))))))))⟩
  by_cases c3 : c = 3
  · exact ⟨l.set r.toNat ⟨(rdT l r).f0, (rdT l r).f1, (rdT l r).f2, (rdT l r).f3, (rdT l r).f4, (rdT l r).f5 ++ [2]⟩, i3, h3, by simpa using hp, tiny_set (ht.wide (by omega)) (by show ((rdT l r).f5 ++ [2]).length ≤ 7; simp; omega), a3, Ev.bind e1 (Ev.bnd e2 (Ev.bnd e3 (Ev.neg c0 (Ev.neg c1 (Ev.neg c2 (Ev.pos c3 (Ev.pos r0 (Ev.pos hr (Ev.pos (show (rdT l r).f5.length < _ by omega) (Ev.now _))))))))))⟩
  by_cases c4 : c = 4
  · obtain ⟨v, i4, h4, e4, _, a4⟩ := DInt_eq b i3 h3 [0, 99, 100] (by simp) a3
    exact ⟨l.set r.toNat ⟨(rdT l r).f0, v, (rdT l r).f2, (rdT l r).f3, (rdT l r).f4, (rdT l r).f5⟩, i4, h4, by simpa using hp, tiny_set (ht.wide (by omega)) (by show (rdT l r).f5.length ≤ 7; omega), a4, Ev.bind e1 (Ev.bnd e2 (Ev.bnd e3 (Ev.neg c0 (Ev.neg c1 (Ev.neg c2 (Ev.neg c3 (Ev.pos c4 (Ev.bnd e4 (Ev.pos r0 (Ev.pos hr (Ev.now _)))))))))))⟩
  exact ⟨l, i3, h3, hp, ht.wide (by omega), a3, Ev.bind e1 (Ev.bnd e2 (Ev.bnd e3 (Ev.neg c0 (Ev.neg c1 (Ev.neg c2 (Ev.neg c3 (Ev.neg c4 (Ev.now _))))))))⟩
end Go.Proofs.Ytiimiogpiflkdaa.L
end

section
set_option linter.unusedVariables false
set_option linter.unusedSimpArgs false
namespace Go.Proofs.Ytiimiogpiflkdaa.A
open Go.RowKit Go.Proofs.YtiimiogpiflkdaaW.PrintWords Go.Proofs.YtiimiogpiflkdaaW.PrintLast Go.Proofs.YtiimiogpiflkdaaW.PrintMore Go.Shelf Go.Sort
def kTm : Kd TmA where
  sz := 6
  E := []
  K := fun _ x cs => cs = x.cells
  M := fun _ _ _ x cs => cs = x.cells
  K_len := fun h => by rw [h]; rfl
  K_one := fun {w x cs} h u hu => by
    rw [h] at hu
    simp only [TmA.cells, List.mem_cons, List.not_mem_nil, or_false] at hu
    rcases hu with rfl | rfl | rfl | rfl | rfl | rfl <;> rfl
  K_below := fun _ h => h
  K_of_M := fun h => h
  M_mono := fun _ h => h
  M_bound := fun h => h
  M_move := fun _ h => h
  M_lower := fun _ h => h
end Go.Proofs.Ytiimiogpiflkdaa.A
end

section
set_option linter.unusedVariables false
set_option linter.unusedSimpArgs false
namespace Go.Proofs.Ytiimiogpiflkdaa.A
open Go.RowKit Go.Proofs.YtiimiogpiflkdaaW.PrintWords Go.Proofs.YtiimiogpiflkdaaW.PrintLast Go.Proofs.YtiimiogpiflkdaaW.PrintMore Go.Shelf Go.Sort Go.Proofs.Ytiimiogpiflkdaa.L
def insKP (x : K3) (ys : List K3) : Nat → Nat
  | 0 => 0
  | k + 1 => if befK x (ys.getD k default) = true then insKP x ys k else k + 1
def insKK (ys : List K3) (x : K3) : List K3 := ys.take (insKP x ys ys.length) ++ [x] ++ ys.drop (insKP x ys ys.length)
def insP (x : TmA) (ys : List TmA) : Nat → Nat
  | 0 => 0
  | k + 1 => if befK (keyA x) (keyA (ys.getD k default)) = true then insP x ys k else k + 1
def insA (ys : List TmA) (x : TmA) : List TmA := ys.take (insP x ys ys.length) ++ [x] ++ ys.drop (insP x ys ys.length)
def tcell (W : World) (p : Addr) (x : TmA) : Prop := W.cell? p = some (.int .i64 x.f0) ∧ W.cell? ⟨p.block, p.off + 1, none⟩ = some (.int .i64 x.f1) ∧ W.cell? ⟨p.block, p.off + 2, none⟩ = some (.int .i64 x.f2) ∧ W.cell? ⟨p.block, p.off + 3, none⟩ = some (.int .i64 x.f3) ∧ W.cell? ⟨p.block, p.off + 4, none⟩ = some (.int .i64 x.f4) ∧ W.cell? ⟨p.block, p.off + 5, none⟩ = some (.slice x.A x.n x.c)
theorem tcell.below {w W : World} {p : Addr} {x : TmA} (h : tcell w p x) (hb : Below w.heap.size w W) : tcell W p x := by
  obtain ⟨h0, h1, h2, h3, h4, h5⟩ := h
  have L : ∀ {q : Addr} {v : Value}, w.cell? q = some v → W.cell? q = some v := fun h => (hb.cell (World.block_lt_of_cell? w _ h)).trans h
  exact ⟨L h0, L h1, L h2, L h3, L h4, L h5⟩
def spec_Standing.f (k : Nat) (l0 : List S61) : Option (List Int) := (spec_AreTeams.f k l0).bind fun b => if b = true then (if l0.length ≤ 12 then some (((l0.map keyS).foldl insKK []).map fun q => q.2.2) else none) else some []
end Go.Proofs.Ytiimiogpiflkdaa.A
end

section
set_option linter.unusedVariables false
set_option linter.unusedSimpArgs false
namespace Go.Proofs.Ytiimiogpiflkdaa.L
open Go Go.RowKit Go.Proofs.Ytiimiogpiflkdaa.A Go.Proofs.YtiimiogpiflkdaaW.PrintWords
abbrev SrtK (ys : List K3) : Prop := ys.Pairwise (fun u v => befK v u = false)
theorem areT_ten {l : List Tm} (h : areT l = true) : l.length ≤ 10 := by
  by_cases h10 : l.length ≤ 10
  · exact h10
  · rw [areT_big h10] at h
    cases h
def standT (l : List Tm) : List Int := if areT l = true then (ordT l).map (fun t => t.f0) else []
theorem iStanding_ev (l : List Tm) (hs : Small l) : Ev (fun k => impl_Standing.f k l) (standT l) := by
  unfold impl_Standing.f standT
  refine Ev.bind (iAreTeams_ev l hs) ?_
  by_cases h : areT l = true
  · exact Ev.cast (Ev.pos h (Ev.pos (by have := areT_ten h; omega) (Ev.now _))) (if_pos h).symm
  · exact Ev.cast (Ev.neg h (Ev.now _)) (if_neg h).symm
end Go.Proofs.Ytiimiogpiflkdaa.L
end

section
set_option linter.unusedVariables false
set_option linter.unusedSimpArgs false
namespace Go.Proofs.Ytiimiogpiflkdaa.L
open Go Go.RowKit Go.Proofs.Ytiimiogpiflkdaa.A Go.Proofs.YtiimiogpiflkdaaW.PrintWords
theorem DrawAdd_ev (c : List Int) (hc : c.length ≤ 1099511627776) : ∃ l a b w p q, Tiny 7 7 l ∧ Ev (fun k => spec_DrawAddResult.f k c) (l, a, b, w, p, q) := by
  obtain ⟨h0, e0⟩ := New_ev c hc
  obtain ⟨l, i1, h1, _, ht, a1, e1⟩ := TAny_ev c 0 h0 ⟨hc, by omega, by omega⟩
  obtain ⟨r2, i2, h2, e2, _, _, _, a2⟩ := Below_eq c i1 h1 6 a1
  obtain ⟨r3, i3, h3, e3, _, _, _, a3⟩ := Below_eq c i2 h2 6 a2
  obtain ⟨r4, i4, h4, e4, _, a4⟩ := DInt_eq c i3 h3 [1, 2, 1, 2, 0, 3] (by simp) a3
  obtain ⟨r5, i5, h5, e5, _, a5⟩ := DInt_eq c i4 h4 [0, 70, 1000, 1001] (by simp) a4
  obtain ⟨r6, i6, h6, e6, _, a6⟩ := DInt_eq c i5 h5 [0, 70, 1000, (-1)] (by simp) a5
  exact ⟨l, _, _, _, _, _, ht, Ev.bind e0 (Ev.bind e1 (Ev.bnd e2 (Ev.bnd e3 (Ev.bnd e4 (Ev.bnd e5 (Ev.bnd e6 (Ev.now _)))))))⟩
theorem DrawStand_ev (c : List Int) (hc : c.length ≤ 1099511627776) : ∃ l, Tiny 7 7 l ∧ Ev (fun k => spec_DrawStanding.f k c) l := by
  obtain ⟨h0, e0⟩ := New_ev c hc
  obtain ⟨l, i1, h1, _, ht, a1, e1⟩ := TAny_ev c 0 h0 ⟨hc, by omega, by omega⟩
  refine ⟨l, ht, Ev.bind (a := l) ?_ (Ev.now _)⟩
  unfold spec_DrawAreTeams.f
  exact Ev.bind e0 (Ev.bind e1 (Ev.now _))
theorem idT {l : List Tm} (h : areT l = true) {u : Tm} (hu : u ∈ l) : rdT l (findT l u.f0) = u ∧ 0 ≤ findT l u.f0 := by
  obtain ⟨n, hn, rfl⟩ := List.getElem_of_mem hu
  have := findT_self (n := n) (fun i hi => areT_asc h i (by omega)) hn
  have e : (rdT l (n : Int)) = l[n] := rdTm hn
  rw [e] at this
  rw [this, e]
  exact ⟨rfl, by omega⟩
theorem teams_l0 (l : List Tm) (h : areT l = true) : ∀ (d n : Nat), n + d = (ordT l).length → 1 ≤ n → Ev (fun k => laws_FnTeams.l0 k l ((ordT l).map (fun t => t.f0)) (n : Int)) true := by
  have hlen : (ordT l).length = l.length := List.length_mergeSort _
  have hl := areT_ten h
  have hml : ((ordT l).map (fun t => t.f0)).length = l.length := by rw [List.length_map, hlen]
  intro d
  induction d with
  | zero =>
    intro n hd h1
    exact Ev.step (fun k => laws_FnTeams.l0.eq_2 ..) (Ev.neg (by rw [hml]; omega) (Ev.now _))
  | succ d ih =>
    intro n hd h1
    have hn : n < (ordT l).length := by omega
    obtain ⟨m, rfl⟩ : ∃ m, n = m + 1 := ⟨n - 1, by omega⟩
    have hw : wrap64 (((m + 1 : Nat) : Int) - 1) = (m : Int) := w64p (by omega)
    have hm1 : (ordT l)[m] ∈ l := (ordT_perm l).mem_iff.1 (List.getElem_mem _)
    have hm2 : (ordT l)[m + 1] ∈ l := (ordT_perm l).mem_iff.1 (List.getElem_mem _)
    have g1 : rd ((ordT l).map (fun t => t.f0)) (m : Int) = ((ordT l)[m]).f0 := by rw [rd_at (by rw [List.length_map]; omega), List.getElem_map]
    have g2 : rd ((ordT l).map (fun t => t.f0)) ((m + 1 : Nat) : Int) = ((ordT l)[m + 1]).f0 := by rw [rd_at (by rw [List.length_map]; omega), List.getElem_map]
    have i1 := idT h hm1
    have i2 := idT h hm2
    have r1 := findT_range l ((ordT l)[m]).f0
    have r2 := findT_range l ((ordT l)[m + 1]).f0
    have hs := List.pairwise_iff_getElem.1 (ordT_sorted l) m (m + 1) (by omega) hn (by omega)
    rw [Bool.eq_false_iff, Ne, befB_iff] at hs
    refine Ev.step (fun k => laws_FnTeams.l0.eq_2 ..) (Ev.pos (by rw [hml]; omega) ?_)
    rw [hw, g1, g2]
    refine Ev.pos (by omega) (Ev.pos (by rw [hml]; omega) (Ev.bnd (iFindTeam_eq l _) (Ev.pos i1.2 (Ev.pos r1.2 (Ev.pos (by omega) (Ev.bnd (iFindTeam_eq l _) (Ev.pos i2.2 (Ev.pos r2.2 ?_))))))))
    have q1 : rd_T61 l (findT l ((ordT l)[m]).f0) = (ordT l)[m] := i1.1
    have q2 : rd_T61 l (findT l ((ordT l)[m + 1]).f0) = (ordT l)[m + 1] := i2.1
    rw [q1, q2, w64s (show m + 1 < 4611686018427387904 by omega)]
    have hnx := ih (m + 1 + 1) (by omega) (by omega)
    refine Ev.neg (by omega) (Ev.ite (fun he => Ev.neg (by omega) hnx) (fun _ => hnx))
theorem teams_j0 (c : List Int) (hc : c.length ≤ 1099511627776) : Ev (fun k => laws_FnTeams.j0 k c) true := by
  obtain ⟨l, ht, e⟩ := DrawStand_ev c hc
  have hs : Small l := ht.small (by omega) (by omega)
  have hsl := iStanding_ev l hs
  have hm : ∀ s, s.length = 0 → Ev (fun k => laws_FnTeams.l0 k l s 1) true := fun s h => Ev.step (fun k => laws_FnTeams.l0.eq_2 ..) (Ev.neg (by omega) (Ev.now _))
  refine Ev.step (fun k => laws_FnTeams.j0.eq_2 ..) (Ev.bind e (Ev.bind hsl (Ev.bind (iAreTeams_ev l hs) ?_)))
  by_cases ha : areT l = true
  · have hst : standT l = (ordT l).map (fun t => t.f0) := if_pos ha
    have hlen : (ordT l).length = l.length := List.length_mergeSort _
    have hb : (areT l != (((standT l).length : Int) == (l.length : Int))) = false := by rw [ha, hst, List.length_map, hlen]; simp
    refine Ev.neg (by rw [hb]; simp) (Ev.step (fun k => laws_FnTeams.j1.eq_2 ..) (Ev.neg (by simp) ?_))
    rw [hst]
    by_cases h0 : l.length = 0
    · exact hm _ (by rw [List.length_map, hlen]; exact h0)
    · exact teams_l0 l ha ((ordT l).length - 1) 1 (by omega) (by omega)
  · have hst : standT l = [] := if_neg ha
    have hf : areT l = false := by simpa using ha
    rw [hst, hf]
    refine Ev.ite (fun h1 => Ev.step (fun k => laws_FnTeams.j1.eq_2 ..) (Ev.neg ?_ (hm _ rfl))) (fun h1 => Ev.step (fun k => laws_FnTeams.j1.eq_2 ..) (Ev.neg (by simp) (hm _ rfl)))
    simp only [decide_eq_true_eq]
    intro h2
    simp only [List.length_nil, bne, Bool.not_eq_true', beq_eq_false_iff_ne, Bool.false_eq] at h1
    have : ¬ ((0 : Nat) : Int) = (l.length : Int) := by omega
    simp [this] at h1
    omega
theorem FnTeams_pure (l0 : List Int) (b0 : l0.length ≤ 9223372036854775807) : ∃ k, laws_FnTeams.f k l0 = some true := by
  refine Ev.rounds (g := fun k => laws_FnTeams.f k l0) ?_
  unfold laws_FnTeams.f
  refine Ev.bnd (big_eq l0) (Ev.ite (fun _ => Ev.now _) (fun hb => ?_))
  have hl : l0.length ≤ 1099511627776 := by simp only [decide_eq_true_eq] at hb; omega
  obtain ⟨l, a, b, w, p, q, ht, e⟩ := DrawAdd_ev l0 hl
  have hs : Small l := ht.small (by omega) (by omega)
  have hA := iAdd_ev l a b w p q hs
  have hT := addT_tiny ht a b w p q
  have hS : Small (addT l a b w p q).1 := hT.small (by omega) (by omega)
  have hL := addT_len l a b w p q
  have hj := teams_j0 l0 hl
  have hok : (addT l a b w p q).2 = true → addC l a b w p q ∧ areT (addL l a b w p q) = true ∧ (addT l a b w p q).1 = addL l a b w p q := by
    unfold addT
    split
    · rename_i h
      split
      · rename_i h2
        exact fun _ => ⟨h, h2, rfl⟩
      · exact fun h => by simp at h
    · exact fun h => by simp at h
  refine Ev.bind e (Ev.bind hA ?_)
  generalize addT l a b w p q = z at hT hS hL hok
  obtain ⟨x, ok⟩ := z
  simp only at hT hS hL hok ⊢
  refine Ev.ite (fun h => ?_) (fun h => Ev.pos (by omega) hj)
  obtain ⟨hc, hx, rfl⟩ := hok h
  have hcc := hc
  obtain ⟨c1, c2, c3, c4, c5, c6, c7⟩ := hc
  have hmet := addL_met w p q c2 c3 c4
  have hfa := findT_ids _ _ a (addL_ids w p q c2 c3 c4)
  have r1 := findT_range (addL l a b w p q) a
  have r2 := findT_range l a
  refine Ev.bind (iAreTeams_ev _ hS) (Ev.pos hx (Ev.bind (iTotalWins_ev _ hS) (Ev.bind (iTotalWins_ev _ hs) (Ev.pos (addL_wins hcc hx) ?_))))
  refine Ev.bind (iHaveMet_ev _ a b hS) (Ev.pos hmet.1 (Ev.bind (iHaveMet_ev _ b a hS) (Ev.pos hmet.2 ?_)))
  refine Ev.bnd (iFindTeam_eq _ a) (Ev.pos (by omega) (Ev.pos r1.2 (Ev.bnd (iFindTeam_eq _ a) (Ev.pos c2 (Ev.pos r2.2 (Ev.pos ?_ hj))))))
  exact addL_first hcc
end Go.Proofs.Ytiimiogpiflkdaa.L
end
