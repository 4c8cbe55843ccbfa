/- What the row FnExactStanding rests on, put together: LWMark, LHMark, LHMarkT, LHLFnExactStanding, LOpen, LTeam2, LStandP, LMark, LTotLe, LXFnExactStanding. No condition. -/
import Derived.Test.YtieglenodannmaaSFnExactStandingx0
import Derived.Test.YtieglenodannmaaSFnExactStandingx1
import Derived.Deep.Slices
import Derived.Deep.Fields
import Derived.ChangeSame
import Derived.Lib.SmallJoins
section
set_option linter.unusedVariables false
set_option linter.unusedSimpArgs false
namespace Go.Proofs.Ytieglenodannmaa.M
open Go Go.RowKit Go.Proofs.YtieglenodannmaaW.PrintWords
structure MI (P : Nat → Prop) (w w' : World) : Prop where
  os : w'.os = w.os
  tape : w'.tape = w.tape
  output : w'.output = w.output
  size : w.heap.size ≤ w'.heap.size
  keep : ∀ k, k < w.heap.size → ¬ P k → w'.heap[k]? = w.heap[k]?
  int : ∀ p x, w.cell? p = some (.int .i64 x) → ∃ x', w'.cell? p = some (.int .i64 x')
  oth : ∀ p v, w.cell? p = some v → (∀ x, v ≠ .int .i64 x) → w'.cell? p = some v
  froz : ∀ p, p.block < w.heap.size → w'.frozen? p = w.frozen? p
theorem MI.refl (P : Nat → Prop) (w : World) : MI P w w := ⟨rfl, rfl, rfl, Nat.le_refl _, fun _ _ _ => rfl, fun _ x h => ⟨x, h⟩, fun _ _ h _ => h, fun _ _ => rfl⟩
theorem MI.trans {P : Nat → Prop} {a b c : World} (h : MI P a b) (k : MI P b c) : MI P a c where
  os := k.os.trans h.os
  tape := k.tape.trans h.tape
  output := k.output.trans h.output
  size := Nat.le_trans h.size k.size
  keep := fun i hi hn => (k.keep i (Nat.lt_of_lt_of_le hi h.size) hn).trans (h.keep i hi hn)
  int := fun p x hx => by
    obtain ⟨y, hy⟩ := h.int p x hx
    exact k.int p y hy
  oth := fun p v hv hn => k.oth p v (h.oth p v hv hn) hn
  froz := fun p hp => (k.froz p (Nat.lt_of_lt_of_le hp h.size)).trans (h.froz p hp)
theorem MI.drewN {P : Nat → Prop} {a b : World} (h : MI P a b) (n : Nat) : MI P a (b.drewN n) := ⟨h.os, h.tape, h.output, h.size, h.keep, h.int, h.oth, h.froz⟩
theorem MI.drew {P : Nat → Prop} {a b : World} (h : MI P a b) : MI P a b.drew := ⟨h.os, h.tape, h.output, h.size, h.keep, h.int, h.oth, h.froz⟩
theorem heap_set_ne {w : World} {g o k : Nat} {u : Value} (h : k ≠ g) : (w.setCell ⟨g, o, none⟩ u).heap[k]? = w.heap[k]? := by
  simp [World.setCell, Array.getElem?_modify, Ne.symm h]
theorem heap_set_size (w : World) (p : Addr) (u : Value) : (w.setCell p u).heap.size = w.heap.size := by simp [World.setCell]
theorem cell_set_ne {w : World} {g o : Nat} {q : Addr} {u : Value} (h : q.block = g → q.off ≠ o) : (w.setCell ⟨g, o, none⟩ u).cell? q = w.cell? q := by
  unfold World.cell? World.setCell
  simp only [Array.getElem?_modify]
  by_cases e : g = q.block
  · subst e
    simp only [if_true]
    cases w.heap[q.block]? with
    | none => rfl
    | some ob =>
      cases ob with
      | cells c t f =>
        simp only [Option.map_some]
        simp [Array.getElem?_setIfInBounds_ne (h rfl).symm]
      | _ => rfl
  · simp [e]
theorem frozen_set {w : World} {p q : Addr} {u : Value} : (w.setCell p u).frozen? q = w.frozen? q := by
  unfold World.frozen? World.setCell
  simp only [Array.getElem?_modify]
  by_cases e : p.block = q.block
  · simp only [e, if_true]
    cases w.heap[q.block]? with
    | none => rfl
    | some ob => cases ob <;> rfl
  · simp [e]
theorem cell_set_same {w : World} {g o : Nat} {v u : Value} (h : w.cell? ⟨g, o, none⟩ = some v) : (w.setCell ⟨g, o, none⟩ u).cell? ⟨g, o, none⟩ = some u := by
  unfold World.cell? World.setCell at *
  simp only [Array.getElem?_modify, if_true]
  cases e : w.heap[g]? with
  | none => simp [e] at h
  | some ob =>
    cases ob with
    | cells c t f =>
      simp [e] at h
      have := (Array.getElem?_eq_some_iff.1 h).1
      simp [this]
    | _ => simp [e] at h
theorem cell_spot {w : World} {p : Addr} {v : Value} (h : w.cell? p = some v) : p.spot = none := by
  unfold World.cell? at h
  split at h
  · split at h
    · cases h
    · rename_i hs
      simpa using hs
  · cases h
theorem MI.set {P : Nat → Prop} {a b : World} (h : MI P a b) {g o : Nat} {x : Int} (hg : P g) (hc : b.cell? ⟨g, o, none⟩ = some (.int .i64 x)) (y : Int) : MI P a (b.setCell ⟨g, o, none⟩ (.int .i64 y)) := by
  refine h.trans ⟨rfl, rfl, rfl, Nat.le_of_eq (heap_set_size _ _ _).symm, fun k _ hn => heap_set_ne (fun e => hn (e ▸ hg)), fun p x' hx => ?_, fun p v hv hn => ?_, fun p _ => frozen_set⟩
  · by_cases e : p.block = g ∧ p.off = o
    · have hs := cell_spot hx
      obtain ⟨pb, po, ps⟩ := p
      obtain ⟨rfl, rfl⟩ := e
      cases hs
      exact ⟨y, cell_set_same hx⟩
    · exact ⟨x', by rw [cell_set_ne (fun h1 h2 => e ⟨h1, h2⟩)]; exact hx⟩
  · refine (cell_set_ne (fun h1 h2 => ?_)).trans hv
    have hs := cell_spot hv
    obtain ⟨pb, po, ps⟩ := p
    cases h1
    cases h2
    cases hs
    rw [hv] at hc
    exact hn x (Option.some.inj hc)
theorem MI.kept {P : Nat → Prop} {a b : World} (h : MI P a b) : Kept a b P := ⟨h.size, h.keep⟩
theorem MI.below {P : Nat → Prop} {a b : World} (h : MI P a b) {w0 : World} (hb : Below w0.heap.size w0 a) (hp : ∀ k, P k → w0.heap.size ≤ k) : Below w0.heap.size w0 b :=
  hb.trans ⟨h.os, h.tape, h.output, h.size, fun k hk => h.keep k (Nat.lt_of_lt_of_le hk hb.size) (fun hq => by have := hp k hq; omega)⟩
def RowI (P : Nat → Prop) (w : World) (A : Option Addr) (n : Nat) : Prop := n ≤ 4611686018427387904 ∧ (0 < n → ∃ g, A = some ⟨g, 0, none⟩ ∧ P g ∧ g < w.heap.size ∧ ∀ j, j < n → (∃ x, w.cell? ⟨g, j, none⟩ = some (.int .i64 x)) ∧ w.frozen? ⟨g, j, none⟩ = false)
theorem RowI.mi {P Q : Nat → Prop} {w w' : World} {A : Option Addr} {n : Nat} (h : RowI P w A n) (k : MI Q w w') : RowI P w' A n :=
  ⟨h.1, fun hn => by
    obtain ⟨g, e, hp, hlt, hc⟩ := h.2 hn
    exact ⟨g, e, hp, Nat.lt_of_lt_of_le hlt k.size, fun j hj => by
      obtain ⟨⟨x, hx⟩, hf⟩ := hc j hj
      exact ⟨k.int _ x hx, by rw [k.froz _ hlt]; exact hf⟩⟩⟩
theorem RowI.of_R {P : Nat → Prop} {w : World} {base : Nat} {A : Option Addr} {n c : Nat} {xs : List Int} (h : Kd.R (Kd.int .i64) 3 w base P (.slice A n c) xs) (hl : xs.length ≤ 4611686018427387904) : RowI P w A n := by
  obtain ⟨hn, _, _⟩ := Kd.R_reads' h
  subst hn
  refine ⟨hl, fun hp => ?_⟩
  obtain ⟨g, cap, e, _, hlt, _⟩ := Kd.R_form h hp
  injection e with e1 e2 e3
  subst e1 e3
  refine ⟨g, rfl, h.1 g rfl, hlt, fun j hj => ?_⟩
  obtain ⟨h1, h2⟩ := Kd.R_celln 0 h (j : Int) (by omega) (by omega)
  exact ⟨⟨_, by simpa using h1⟩, by simpa using h2⟩
def RowS (m : Nat) (P : Nat → Prop) (w : World) (A : Option Addr) (ns : List Nat) : Prop :=
  ns.length ≤ 4611686018427387904 ∧ (0 < ns.length → ∃ g, A = some ⟨g, 0, none⟩ ∧ P g ∧ g < w.heap.size ∧ ∀ (i : Nat) (hi : i < ns.length), (∀ j, j < m → (∃ x, w.cell? ⟨g, i * (m + 1) + j, none⟩ = some (.int .i64 x)) ∧ w.frozen? ⟨g, i * (m + 1) + j, none⟩ = false) ∧ ∃ B c, w.cell? ⟨g, i * (m + 1) + m, none⟩ = some (.slice B ns[i] c) ∧ RowI P w B ns[i])
theorem RowS.mi {m : Nat} {P Q : Nat → Prop} {w w' : World} {A : Option Addr} {ns : List Nat} (h : RowS m P w A ns) (k : MI Q w w') : RowS m P w' A ns :=
  ⟨h.1, fun hn => by
    obtain ⟨g, e, hp, hlt, hc⟩ := h.2 hn
    refine ⟨g, e, hp, Nat.lt_of_lt_of_le hlt k.size, fun i hi => ?_⟩
    obtain ⟨h1, B, c, h2, h3⟩ := hc i hi
    refine ⟨fun j hj => ?_, B, c, k.oth _ _ h2 (fun x hx => by cases hx), h3.mi k⟩
    obtain ⟨⟨x, hx⟩, hf⟩ := h1 j hj
    exact ⟨k.int _ x hx, by rw [k.froz _ hlt]; exact hf⟩⟩
theorem RowI.mono {P Q : Nat → Prop} {w : World} {A : Option Addr} {n : Nat} (h : RowI P w A n) (hq : ∀ k, P k → Q k) : RowI Q w A n :=
  ⟨h.1, fun hn => by
    obtain ⟨g, e, hp, r⟩ := h.2 hn
    exact ⟨g, e, hq _ hp, r⟩⟩
theorem RowS.of_R {α : Type} {d : Kd α} (m : Nat) (hsz : d.sz = m + 1) (len : α → Nat) {P : Nat → Prop} {w : World} {e base : Nat} {A : Option Addr} {n c : Nat} {l : List α}
    (hM : ∀ {ok : Nat → Prop} {x : α} {cs : List Value}, d.M w base ok x cs → ∃ (zs : List Int) (v : Value) (xs : List Int), cs = zs.map (Value.int .i64) ++ [v] ∧ zs.length = m ∧ xs.length = len x ∧ Kd.R (Kd.int .i64) 3 w base ok v xs)
    (h : Kd.R d e w base P (.slice A n c) l) (hl : l.length ≤ 4611686018427387904) (hx : ∀ x ∈ l, len x ≤ 4611686018427387904) : RowS m P w A (l.map len) := by
  obtain ⟨hn, _, _⟩ := Kd.R_reads' h
  subst hn
  refine ⟨by simpa using hl, fun hp => ?_⟩
  rw [List.length_map] at hp
  obtain ⟨g, cap, e1, _, hlt, _⟩ := Kd.R_form h hp
  obtain ⟨h0, inner, hown, hreps⟩ := h
  injection e1 with e1 e2 e3
  subst e1 e3
  have hfz : ∀ o, w.frozen? ⟨g, o, none⟩ = false := fun o => by
    rcases hown.2 with ⟨e', _⟩ | ⟨g', cap', cur, e', _, hh, _⟩
    · cases e'
    · injection e' with e1 e2 e3
      injection e1 with e1
      injection e1 with e1
      subst e1
      simp [World.frozen?, hh]
  refine ⟨g, rfl, h0 g rfl, hlt, fun i hi => ?_⟩
  rw [List.length_map] at hi
  obtain ⟨zs, v, xs, hcs, hz, hlen, hr⟩ := hM (hreps.2 i l[i] (List.getElem?_eq_getElem hi))
  rw [hsz] at hcs
  have hcell : ∀ (j : Nat) (u : Value), (zs.map (Value.int .i64) ++ [v])[j]? = some u → w.cell? ⟨g, i * (m + 1) + j, none⟩ = some u := fun j u hu => by
    have h1 : inner[i * (m + 1) + j]? = some u := by
      rw [← hcs, List.getElem?_take] at hu
      split at hu
      · rw [List.getElem?_drop] at hu
        exact hu
      · cases hu
    have := hown.cells (g := g) rfl _ u h1
    unfold Addr.add at this
    split at this
    · rename_i h0
      simpa [h0] using this
    · simpa using this
  obtain ⟨B, cB, rfl, _, _⟩ := Kd.R_reads hr
  refine ⟨fun j hj => ⟨⟨zs[j]'(by omega), hcell j _ ?_⟩, hfz _⟩, B, cB, ?_, ?_⟩
  · rw [List.getElem?_append_left (by simp; omega), List.getElem?_map, List.getElem?_eq_getElem (by omega)]
    rfl
  · have := hcell m (.slice B xs.length cB) (by rw [List.getElem?_append_right (by simp [hz])]; simp [hz])
    simpa [hlen] using this
  · have := RowI.mono (RowI.of_R hr (by rw [hlen]; exact hx _ (List.getElem_mem _))) (fun k hk => hk.1)
    simpa [hlen] using this
def tot (m : Nat) : List Nat → Nat
  | [] => 0
  | k :: r => m + k + tot m r
theorem tot_snoc (m : Nat) : ∀ (a : List Nat) (k : Nat), tot m (a ++ [k]) = tot m a + (m + k)
  | [], k => by simp [tot]
  | x :: a, k => by simp only [List.cons_append, tot, tot_snoc m a k]; omega
theorem tot_take (m : Nat) (ns : List Nat) (i : Nat) (hi : i < ns.length) : tot m (ns.take (i + 1)) = tot m (ns.take i) + (m + ns[i]) := by
  rw [List.take_succ_eq_append_getElem hi, tot_snoc]
theorem tot_take_le (m : Nat) : ∀ (ns : List Nat) (i : Nat), tot m (ns.take i) ≤ tot m ns
  | [], i => by simp [tot]
  | k :: r, 0 => by simp [tot]
  | k :: r, i + 1 => by simp only [List.take_succ_cons, tot]; have := tot_take_le m r i; omega
end Go.Proofs.Ytieglenodannmaa.M
end

section
set_option linter.unusedVariables false
set_option linter.unusedSimpArgs false
namespace Go.Proofs.Ytieglenodannmaa.M
open Go.RowKit Go.Proofs.YtieglenodannmaaW.PrintWords Go.Proofs.YtieglenodannmaaW.PrintLast Go.Proofs.YtieglenodannmaaW.PrintMore
set_option maxHeartbeats 4000000 in
set_option maxRecDepth 100000 in
theorem markI_calls (P : Nat → Prop) (A : Option Addr) (n c : Nat) (a1 : Int) (w : World) (h : RowI P w A n) (h0 : 0 ≤ a1) (h1 : a1 + n ≤ 4611686018427387904) :
    Calls Try.prog 11 #[.slice A n c, .int .i64 a1] w fun e w' => e = .returned (.int .i64 (a1 + n)) ∧ MI P w w' := by
  have HR := Aside0.mk h
  have H0 := Aside0.mk h0
  have H1 := Aside0.mk h1
  clear h h0 h1
  go_enter Try.func11, Try.ntmps11
  go_wp2
  go_loopg [1, 5] n (fun gg v1 v5 wr => ∃ (kk : Nat) (x1 : Int), v1 = .int .i64 x1 ∧ v5 = .int .i64 kk ∧ Aside0 (x1 = a1 + kk) ∧ Aside0 (kk ≤ n ∧ n - kk ≤ gg) ∧ Aside0 (MI P w wr))
  case atStart => exact ⟨0, a1, rfl, rfl, ⟨by simp⟩, ⟨by omega⟩, ⟨MI.refl P w⟩⟩
  case round =>
    obtain ⟨kk, x1, rfl, rfl, HX, HI, HM⟩ := hrel
    by_cases hlt : kk < n
    · have hltb : ((kk : Int) < (n : Int)) = True := eq_true (by omega)
      obtain ⟨g, rfl, hP, hgl, hc⟩ := (HR.out.mi HM.out).2 (by omega)
      obtain ⟨⟨x, hx⟩, hf⟩ := hc kk hlt
      have HP := Aside0.mk hP
      have HC : Aside0 (wr.cell? ⟨g, kk, none⟩ = some (.int .i64 x)) := ⟨hx⟩
      have HLT := Aside0.mk hlt
      have HW1 : Aside0 (wrap64 (x1 + 1) = a1 + ((kk + 1 : Nat) : Int)) := ⟨by have := H1.out; have := HX.out; have := H0.out; unfold wrap64; omega⟩
      have HW5 : Aside0 (wrap64 ((kk : Int) + 1) = ((kk + 1 : Nat) : Int)) := ⟨by have := H1.out; have := H0.out; unfold wrap64; omega⟩
      clear hc hP hgl hlt
      go_wp2
      go_roundg (n - (kk + 1))
      case measure => have := HI.out; have := HLT.out; omega
      case rel => exact ⟨kk + 1, wrap64 (x1 + 1), rfl, by rw [HW5.out], HW1, ⟨by have := HLT.out; omega⟩, ⟨HM.out.set HP.out HC.out _⟩⟩
    · have hltb : ((kk : Int) < (n : Int)) = False := eq_false (by omega)
      have HLT := Aside0.mk hlt
      clear hlt
      go_wp2
      go_ret
      refine ⟨?_, HM.out⟩
      have e : x1 = a1 + (n : Int) := by have := HI.out; have := HLT.out; have := HX.out; omega
      rw [← e]
      rfl
theorem drawn_below {w w' : World} (h : Drawn0 w w') : Below w.heap.size w w' := by
  obtain ⟨n, rfl⟩ := h.out
  exact pw_below_drewN (Below.refl _ _) n
theorem own_interval {α : Type} {d : Kd α} {e : Nat} {w w' : World} {v : Value} {xs : List α} (h : Kd.R d e w' w.heap.size (fun _ => True) v xs) : Kd.R d e w' w.heap.size (fun k => w.heap.size ≤ k ∧ k < w'.heap.size) v xs :=
  Kd.R_mono (Kd.R_bound h) (fun k hk => ⟨hk.2.1, hk.2.2.1⟩)
end Go.Proofs.Ytieglenodannmaa.M
end

section
set_option linter.unusedVariables false
set_option linter.unusedSimpArgs false
namespace Go.Proofs.Ytieglenodannmaa.M
open Go.RowKit Go.Proofs.Ytieglenodannmaa.A Go.Proofs.YtieglenodannmaaW.PrintWords Go.Proofs.YtieglenodannmaaW.PrintLast Go.Proofs.YtieglenodannmaaW.PrintMore
set_option maxHeartbeats 8000000 in
set_option maxRecDepth 100000 in
theorem markTeamS_calls (P : Nat → Prop) (A : Option Addr) (ns : List Nat) (c : Nat) (a1 : Int) (w : World) (h : RowS 5 P w A ns) (h0 : 0 ≤ a1) (h1 : a1 + tot 5 ns ≤ 4611686018427387904) :
    Calls Try.prog 10 #[.slice A ns.length c, .int .i64 a1] w fun e w' => e = .returned (.int .i64 (a1 + tot 5 ns)) ∧ MI P w w' := by
  have HR := Aside0.mk h
  have H0 := Aside0.mk h0
  have H1 := Aside0.mk h1
  have HN := Aside0.mk h.1
  clear h h0 h1
  have hu38 := Try.underlying38
  go_enter Try.func10, Try.ntmps10
  go_wp2
  go_loopg [1, 5] ns.length (fun gg v1 v5 wr => ∃ (kk : Nat) (x1 : Int), v1 = .int .i64 x1 ∧ v5 = .int .i64 kk ∧ Aside0 (x1 = a1 + tot 5 (ns.take kk)) ∧ Aside0 (kk ≤ ns.length ∧ ns.length - kk ≤ gg) ∧ Aside0 (MI P w wr))
  case atStart => exact ⟨0, a1, rfl, rfl, ⟨by simp [tot]⟩, ⟨by omega⟩, ⟨MI.refl P w⟩⟩
  case round =>
    obtain ⟨kk, x1, rfl, rfl, HX, HI, HM⟩ := hrel
    by_cases hlt : kk < ns.length
    · have hltb : ((kk : Int) < (ns.length : Int)) = True := eq_true (by omega)
      obtain ⟨g, rfl, hP, hgl, hc⟩ := (HR.out.mi HM.out).2 (by omega)
      have HP := Aside0.mk hP
      have HLT := Aside0.mk hlt
      have htk := tot_take 5 ns kk hlt
      have htl := tot_take_le 5 ns (kk + 1)
      obtain ⟨nk, hnk⟩ : ∃ nk, ns[kk] = nk := ⟨_, rfl⟩
      rw [hnk] at htk
      have HB : Aside0 (0 ≤ x1 ∧ x1 + 5 + nk ≤ 4611686018427387904) := ⟨by have := H1.out; have := HX.out; have := H0.out; omega⟩
      have HT : Aside0 (x1 + 5 + nk = a1 + tot 5 (ns.take (kk + 1))) := ⟨by have := HX.out; omega⟩
      have HKK : Aside0 (wrap64 ((kk : Int) + 1) = ((kk + 1 : Nat) : Int)) := ⟨by have := HN.out; unfold wrap64; omega⟩
      obtain ⟨hi_, B, cB, hs0, hrB⟩ := hc kk hlt
      rw [hnk] at hs0 hrB
      obtain ⟨⟨y0, hy0⟩, hz0⟩ := hi_ 0 (by omega)
      obtain ⟨⟨y1, hy1⟩, hz1⟩ := hi_ 1 (by omega)
      obtain ⟨⟨y2, hy2⟩, hz2⟩ := hi_ 2 (by omega)
      obtain ⟨⟨y3, hy3⟩, hz3⟩ := hi_ 3 (by omega)
      obtain ⟨⟨y4, hy4⟩, hz4⟩ := hi_ 4 (by omega)
      have hc0 : wr.cell? ⟨g, kk * 6, none⟩ = some (.int .i64 y0) := hy0
      have hf0 : wr.frozen? ⟨g, kk * 6, none⟩ = false := hz0
      have hc1 : ∀ v0 : Int, (World.setCell wr ⟨g, kk * 6, none⟩ (.int .i64 v0)).cell? ⟨g, kk * 6 + 1, none⟩ = some (.int .i64 y1) := fun v0 => (cell_set_ne (fun _ => by show kk * 6 + 1 ≠ kk * 6; omega)).trans hy1
      have hf1 : ∀ v0 : Int, (World.setCell wr ⟨g, kk * 6, none⟩ (.int .i64 v0)).frozen? ⟨g, kk * 6 + 1, none⟩ = false := fun v0 => frozen_set.trans hz1
      have hc2 : ∀ v0 v1 : Int, (World.setCell (World.setCell wr ⟨g, kk * 6, none⟩ (.int .i64 v0)) ⟨g, kk * 6 + 1, none⟩ (.int .i64 v1)).cell? ⟨g, kk * 6 + 2, none⟩ = some (.int .i64 y2) := fun v0 v1 => (cell_set_ne (fun _ => by show kk * 6 + 2 ≠ kk * 6 + 1; omega)).trans ((cell_set_ne (fun _ => by show kk * 6 + 2 ≠ kk * 6; omega)).trans hy2)
      have hf2 : ∀ v0 v1 : Int, (World.setCell (World.setCell wr ⟨g, kk * 6, none⟩ (.int .i64 v0)) ⟨g, kk * 6 + 1, none⟩ (.int .i64 v1)).frozen? ⟨g, kk * 6 + 2, none⟩ = false := fun v0 v1 => frozen_set.trans (frozen_set.trans hz2)
      have hc3 : ∀ v0 v1 v2 : Int, (World.setCell (World.setCell (World.setCell wr ⟨g, kk * 6, none⟩ (.int .i64 v0)) ⟨g, kk * 6 + 1, none⟩ (.int .i64 v1)) ⟨g, kk * 6 + 2, none⟩ (.int .i64 v2)).cell? ⟨g, kk * 6 + 3, none⟩ = some (.int .i64 y3) := fun v0 v1 v2 => (cell_set_ne (fun _ => by show kk * 6 + 3 ≠ kk * 6 + 2; omega)).trans ((cell_set_ne (fun _ => by show kk * 6 + 3 ≠ kk * 6 + 1; omega)).trans ((cell_set_ne (fun _ => by show kk * 6 + 3 ≠ kk * 6; omega)).trans hy3))
      have hf3 : ∀ v0 v1 v2 : Int, (World.setCell (World.setCell (World.setCell wr ⟨g, kk * 6, none⟩ (.int .i64 v0)) ⟨g, kk * 6 + 1, none⟩ (.int .i64 v1)) ⟨g, kk * 6 + 2, none⟩ (.int .i64 v2)).frozen? ⟨g, kk * 6 + 3, none⟩ = false := fun v0 v1 v2 => frozen_set.trans (frozen_set.trans (frozen_set.trans hz3))
      have hc4 : ∀ v0 v1 v2 v3 : Int, (World.setCell (World.setCell (World.setCell (World.setCell wr ⟨g, kk * 6, none⟩ (.int .i64 v0)) ⟨g, kk * 6 + 1, none⟩ (.int .i64 v1)) ⟨g, kk * 6 + 2, none⟩ (.int .i64 v2)) ⟨g, kk * 6 + 3, none⟩ (.int .i64 v3)).cell? ⟨g, kk * 6 + 4, none⟩ = some (.int .i64 y4) := fun v0 v1 v2 v3 => (cell_set_ne (fun _ => by show kk * 6 + 4 ≠ kk * 6 + 3; omega)).trans ((cell_set_ne (fun _ => by show kk * 6 + 4 ≠ kk * 6 + 2; omega)).trans ((cell_set_ne (fun _ => by show kk * 6 + 4 ≠ kk * 6 + 1; omega)).trans ((cell_set_ne (fun _ => by show kk * 6 + 4 ≠ kk * 6; omega)).trans hy4)))
      have hf4 : ∀ v0 v1 v2 v3 : Int, (World.setCell (World.setCell (World.setCell (World.setCell wr ⟨g, kk * 6, none⟩ (.int .i64 v0)) ⟨g, kk * 6 + 1, none⟩ (.int .i64 v1)) ⟨g, kk * 6 + 2, none⟩ (.int .i64 v2)) ⟨g, kk * 6 + 3, none⟩ (.int .i64 v3)).frozen? ⟨g, kk * 6 + 4, none⟩ = false := fun v0 v1 v2 v3 => frozen_set.trans (frozen_set.trans (frozen_set.trans (frozen_set.trans hz4)))
      have hs : ∀ v0 v1 v2 v3 v4 : Int, (World.setCell (World.setCell (World.setCell (World.setCell (World.setCell wr ⟨g, kk * 6, none⟩ (.int .i64 v0)) ⟨g, kk * 6 + 1, none⟩ (.int .i64 v1)) ⟨g, kk * 6 + 2, none⟩ (.int .i64 v2)) ⟨g, kk * 6 + 3, none⟩ (.int .i64 v3)) ⟨g, kk * 6 + 4, none⟩ (.int .i64 v4)).cell? ⟨g, kk * 6 + 5, none⟩ = some (.slice B nk cB) := fun v0 v1 v2 v3 v4 => (cell_set_ne (fun _ => by show kk * 6 + 5 ≠ kk * 6 + 4; omega)).trans ((cell_set_ne (fun _ => by show kk * 6 + 5 ≠ kk * 6 + 3; omega)).trans ((cell_set_ne (fun _ => by show kk * 6 + 5 ≠ kk * 6 + 2; omega)).trans ((cell_set_ne (fun _ => by show kk * 6 + 5 ≠ kk * 6 + 1; omega)).trans ((cell_set_ne (fun _ => by show kk * 6 + 5 ≠ kk * 6; omega)).trans hs0))))
      have HMM : Aside0 (∀ v0 v1 v2 v3 v4 : Int, MI P w (World.setCell (World.setCell (World.setCell (World.setCell (World.setCell wr ⟨g, kk * 6, none⟩ (.int .i64 v0)) ⟨g, kk * 6 + 1, none⟩ (.int .i64 v1)) ⟨g, kk * 6 + 2, none⟩ (.int .i64 v2)) ⟨g, kk * 6 + 3, none⟩ (.int .i64 v3)) ⟨g, kk * 6 + 4, none⟩ (.int .i64 v4))) := ⟨fun v0 v1 v2 v3 v4 => (((((HM.out.set HP.out (hc0 ) v0).set HP.out (hc1 v0) v1).set HP.out (hc2 v0 v1) v2).set HP.out (hc3 v0 v1 v2) v3).set HP.out (hc4 v0 v1 v2 v3) v4)⟩
      have HRB : Aside0 (∀ v0 v1 v2 v3 v4 : Int, RowI P (World.setCell (World.setCell (World.setCell (World.setCell (World.setCell wr ⟨g, kk * 6, none⟩ (.int .i64 v0)) ⟨g, kk * 6 + 1, none⟩ (.int .i64 v1)) ⟨g, kk * 6 + 2, none⟩ (.int .i64 v2)) ⟨g, kk * 6 + 3, none⟩ (.int .i64 v3)) ⟨g, kk * 6 + 4, none⟩ (.int .i64 v4)) B nk) := ⟨fun v0 v1 v2 v3 v4 => hrB.mi ((((((MI.refl P wr).set HP.out (hc0 ) v0).set HP.out (hc1 v0) v1).set HP.out (hc2 v0 v1) v2).set HP.out (hc3 v0 v1 v2) v3).set HP.out (hc4 v0 v1 v2 v3) v4)⟩
      clear hi_ hrB hc hP htk htl hlt hgl hs0 hnk hy0 hz0 hy1 hz1 hy2 hz2 hy3 hz3 hy4 hz4
      have HV : Aside0 (wrap64 (wrap64 (wrap64 (wrap64 (wrap64 (x1 + 1) + 1) + 1) + 1) + 1) = x1 + 5) := ⟨by have := HB.out; unfold wrap64; omega⟩
      go_wp2_with (go_at_call 11; refine (markI_calls P B nk cB _ _ ?q1 ?q2 ?q3).mono ?_; (case q1 => exact HRB.out _ _ _ _ _); (case q2 => rw [HV.out]; have := HB.out; omega); (case q3 => rw [HV.out]; have := HB.out; omega); rintro e w9 ⟨rfl, hm9⟩; have HM9 := Aside0.mk ((HMM.out _ _ _ _ _).trans hm9); clear hm9)
      go_roundg (ns.length - (kk + 1))
      case measure => have := HI.out; have := HLT.out; omega
      case rel => exact ⟨kk + 1, _, rfl, by rw [HKK.out], ⟨by rw [← HT.out, HV.out]⟩, ⟨by have := HLT.out; omega⟩, HM9⟩
    · have hltb : ((kk : Int) < (ns.length : Int)) = False := eq_false (by omega)
      have HLT := Aside0.mk hlt
      clear hlt
      go_wp2
      go_ret
      refine ⟨?_, HM.out⟩
      have e : x1 = a1 + (tot 5 ns : Int) := by
        have h1 := HX.out
        rw [List.take_of_length_le (by have := HI.out; have := HLT.out; omega)] at h1
        exact h1
      rw [← e]
      rfl
theorem markTeams (P : Nat → Prop) (A : Option Addr) (c : Nat) (l : List S38) (a1 : Int) (w : World) {e base : Nat} (h : Kd.R Go.Proofs.Ytieglenodannmaa.A.k38 e w base P (.slice A l.length c) l) (hl : l.length ≤ 4611686018427387904) (hi : ∀ x ∈ l, x.f5.length ≤ 4611686018427387904) (h0 : 0 ≤ a1) (h1 : a1 + tot 5 (l.map (fun x => x.f5.length)) ≤ 4611686018427387904) :
    Calls Try.prog 10 #[.slice A l.length c, .int .i64 a1] w fun e w' => e = .returned (.int .i64 (a1 + tot 5 (l.map (fun x => x.f5.length)))) ∧ MI P w w' := by
  have hm : ∀ {ok : Nat → Prop} {x : S38} {cs : List Value}, (Go.Proofs.Ytieglenodannmaa.A.k38).M w base ok x cs → ∃ (zs : List Int) (v : Value) (xs : List Int), cs = zs.map (Value.int .i64) ++ [v] ∧ zs.length = 5 ∧ xs.length = x.f5.length ∧ Kd.R (Kd.int .i64) 3 w base ok v xs := by
    intro ok x cs h
    obtain ⟨c0, r0, rfl, h0, c1, r1, rfl, h1, c2, r2, rfl, h2, c3, r3, rfl, h3, c4, r4, rfl, h4, v, rfl, hr⟩ := h
    cases h0
    cases h1
    cases h2
    cases h3
    cases h4
    exact ⟨[x.f0, x.f1, x.f2, x.f3, x.f4], v, x.f5, rfl, rfl, rfl, hr⟩
  have := markTeamS_calls P A (l.map (fun x => x.f5.length)) c a1 w (RowS.of_R 5 rfl (fun x => x.f5.length) hm h hl hi) h0 h1
  rw [List.length_map] at this
  exact this
end Go.Proofs.Ytieglenodannmaa.M
end

section
set_option linter.unusedVariables false
set_option linter.unusedSimpArgs false
namespace Go.Proofs.Ytieglenodannmaa.A
open Go.RowKit Go.Proofs.YtieglenodannmaaW.PrintWords Go.Proofs.YtieglenodannmaaW.PrintLast Go.Proofs.YtieglenodannmaaW.PrintMore
def laws_FnExactStanding.f (k : Nat) (l0 : List S35) : Option Bool := (laws_szTeamS.f k l0 1048576).bind (fun n1 => if n1 < 0 then some true else ((laws_toTeamS.f k l0).bind (fun x2 => (spec_Standing.f k x2).bind (fun x3 => (laws_toTeamS.f k l0).bind (fun x4 => (impl_Standing.f k x4).bind (fun x5 => (laws_eqIntS.f k x5 x3).bind (fun b6 => if b6 = true then ((laws_toTeamS.f k l0).bind (fun x7 => (laws_eqTeamS.f k x4 x7).bind (fun b8 => if b8 = true then (if (x4.length ≤ 4611686018427387904 ∧ ∀ x ∈ x4, x.f5.length ≤ 4611686018427387904) ∧ (M.tot 5 (x4.map (fun x => x.f5.length)) : Int) ≤ 1152921504606846976 then ((laws_eqIntS.f k x5 x3).bind (fun b10 => if b10 = true then ((laws_markIntS.f k x5 1).bind (fun t_ => (fun m11  y11 => (laws_heldIntS.f k y11 1).bind (fun n12 => if ¬ (n12 < 0) then (if n12 = m11 then ((laws_toTeamS.f k l0).bind (fun x13 => (impl_Standing.f k x13).bind (fun x14 => (laws_eqIntS.f k x14 x3).bind (fun b15 => if b15 = true then ((laws_heldIntS.f k y11 1).bind (fun n16 => if ¬ (n16 < 0) then (if n16 = m11 then (some true) else none) else none)) else none)))) else none) else none)) t_.1 t_.2)) else none)) else none) else none))) else none)))))))
set_option maxHeartbeats 16000000 in
set_option maxRecDepth 100000 in
theorem laws_FnExactStanding.calls (k : Nat) (A0 : Option Addr) (c0 : Nat) (l0 : List S35) (r : Bool) (w : World) (hr0 : Kd.C k35 w A0 l0.length l0) (hc0 : l0.length ≤ c0) (h : laws_FnExactStanding.f k l0 = some r) :
  Calls Try.prog 3 #[.slice A0 l0.length c0] w fun e w' => e = .returned (.bool r) ∧ Below w.heap.size w w' := by
  have HR0 := Aside0.mk hr0
  have HC0 := Aside0.mk hc0
  clear hr0 hc0
  unfold laws_FnExactStanding.f at h
  have HB := Aside0.mk (Below.refl w.heap.size w)
  have TK0 : Aside0 True := ⟨trivial⟩
  replace h := Option.bind_eq_some_iff.mp h
  obtain ⟨n1, hx10, h⟩ := h
  have hx1 := Aside0.mk hx10
  clear hx10
  by_cases ce : n1 < 0
  · rw [if_pos ce] at h
    obtain rfl := Option.some.inj h
    have cx0 : (n1 < 0) = True := eq_true (by omega)
    clear ce h
    go_enter Try.func3, Try.ntmps3
    go_wp2_with (first | (have tok_ := TK0; clear TK0 tok_; go_at_call 4; refine (laws_szTeamS.calls (k := k) (A0 := A0) (c0 := c0) (l0 := l0) (a1 := 1048576) (r := n1) (h := hx1.out) (hr0 := ?hr0) (hc0 := ?hc0)).mono ?_; (case hr0 => exact Kd.C_below HR0.out (by repeat (first | (with_reducible first | exact HB.out | apply below_alloc | apply pw_below_drewN | apply below_drew1) | exact HB.out))); (case hc0 => exact HC0.out); rintro e w1 ⟨rfl, hb⟩; have HSZ1 : Aside0 (w.heap.size ≤ w1.heap.size) := ⟨hb.size⟩; have nB_ := Aside0.mk (below_step (by repeat (first | (with_reducible first | exact HB.out | apply below_alloc | apply pw_below_drewN | apply below_drew1) | exact HB.out)) hb); clear HB; have HB := nB_; clear nB_; clear hb; have TK1 : Aside0 True := ⟨trivial⟩))
    go_ret
    exact ⟨rfl, (by repeat (first | (with_reducible first | exact HB.out | apply below_alloc | apply pw_below_drewN | apply below_drew1) | exact HB.out))⟩
  rw [if_neg ce] at h
  have cf1 : (n1 < 0) = False := eq_false (by omega)
  clear ce
  replace h := Option.bind_eq_some_iff.mp h
  obtain ⟨x2, hx20, h⟩ := h
  have hx2 := Aside0.mk hx20
  clear hx20
  replace h := Option.bind_eq_some_iff.mp h
  obtain ⟨x3, hx30, h⟩ := h
  have hx3 := Aside0.mk hx30
  clear hx30
  replace h := Option.bind_eq_some_iff.mp h
  obtain ⟨x4, hx40, h⟩ := h
  have hx4 := Aside0.mk hx40
  clear hx40
  replace h := Option.bind_eq_some_iff.mp h
  obtain ⟨x5, hx50, h⟩ := h
  have hx5 := Aside0.mk hx50
  clear hx50
  replace h := Option.bind_eq_some_iff.mp h
  obtain ⟨b6, hx60, h⟩ := h
  have hx6 := Aside0.mk hx60
  clear hx60
  by_cases ct : b6 = true
  rotate_left
  · rw [if_neg ct] at h; cases h
  rw [if_pos ct] at h
  subst ct
  replace h := Option.bind_eq_some_iff.mp h
  obtain ⟨x7, hx70, h⟩ := h
  have hx7 := Aside0.mk hx70
  clear hx70
  replace h := Option.bind_eq_some_iff.mp h
  obtain ⟨b8, hx80, h⟩ := h
  have hx8 := Aside0.mk hx80
  clear hx80
  by_cases ct : b8 = true
  rotate_left
  · rw [if_neg ct] at h; cases h
  rw [if_pos ct] at h
  subst ct
  by_cases ct : (x4.length ≤ 4611686018427387904 ∧ ∀ x ∈ x4, x.f5.length ≤ 4611686018427387904) ∧ (M.tot 5 (x4.map (fun x => x.f5.length)) : Int) ≤ 1152921504606846976
  rotate_left
  · rw [if_neg ct] at h; cases h
  rw [if_pos ct] at h
  obtain ⟨K9, hkK9⟩ : ∃ K_ : Int, K_ = 1 + (M.tot 5 (x4.map (fun x => x.f5.length)) : Int) := ⟨_, rfl⟩
  have HKK9 := Aside0.mk hkK9
  have HTK9 := Aside0.mk ct
  have HQK9 : Aside0 (0 ≤ K9 ∧ K9 ≤ 1152921504606846976 * 1 + 1) := ⟨by have := HTK9.out.2; omega⟩
  clear ct hkK9
  have cqK9 : (K9 < 0) = False := eq_false (by have := HQK9.out; omega)
  replace h := Option.bind_eq_some_iff.mp h
  obtain ⟨b10, hx100, h⟩ := h
  have hx10 := Aside0.mk hx100
  clear hx100
  by_cases ct : b10 = true
  rotate_left
  · rw [if_neg ct] at h; cases h
  rw [if_pos ct] at h
  subst ct
  replace h := Option.bind_eq_some_iff.mp h
  obtain ⟨⟨m11, y11⟩, hx110, h⟩ := h
  have hx11 := Aside0.mk hx110
  clear hx110
  dsimp only at h
  replace h := Option.bind_eq_some_iff.mp h
  obtain ⟨n12, hx120, h⟩ := h
  have hx12 := Aside0.mk hx120
  clear hx120
  by_cases ct : ¬ (n12 < 0)
  rotate_left
  · rw [if_neg ct] at h; cases h
  rw [if_pos ct] at h
  have cf2 : (n12 < 0) = False := eq_false ct
  clear ct
  by_cases ct : n12 = m11
  rotate_left
  · rw [if_neg ct] at h; cases h
  rw [if_pos ct] at h
  have ct2 : m11 = n12 := ct.symm
  clear ct
  subst ct2
  replace h := Option.bind_eq_some_iff.mp h
  obtain ⟨x13, hx130, h⟩ := h
  have hx13 := Aside0.mk hx130
  clear hx130
  replace h := Option.bind_eq_some_iff.mp h
  obtain ⟨x14, hx140, h⟩ := h
  have hx14 := Aside0.mk hx140
  clear hx140
  replace h := Option.bind_eq_some_iff.mp h
  obtain ⟨b15, hx150, h⟩ := h
  have hx15 := Aside0.mk hx150
  clear hx150
  by_cases ct : b15 = true
  rotate_left
  · rw [if_neg ct] at h; cases h
  rw [if_pos ct] at h
  subst ct
  replace h := Option.bind_eq_some_iff.mp h
  obtain ⟨n16, hx160, h⟩ := h
  have hx16 := Aside0.mk hx160
  clear hx160
  by_cases ct : ¬ (n16 < 0)
  rotate_left
  · rw [if_neg ct] at h; cases h
  rw [if_pos ct] at h
  have cf3 : (n16 < 0) = False := eq_false ct
  clear ct
  by_cases ct : n16 = m11
  rotate_left
  · rw [if_neg ct] at h; cases h
  rw [if_pos ct] at h
  have ct2 : m11 = n16 := ct.symm
  clear ct
  subst ct2
  obtain rfl := Option.some.inj h
  clear h
  go_enter Try.func3, Try.ntmps3
  go_wp2_with (first | (have tok_ := TK0; clear TK0 tok_; go_at_call 4; refine (laws_szTeamS.calls (k := k) (A0 := A0) (c0 := c0) (l0 := l0) (a1 := 1048576) (r := n1) (h := hx1.out) (hr0 := ?hr0) (hc0 := ?hc0)).mono ?_; (case hr0 => exact Kd.C_below HR0.out (by repeat (first | (with_reducible first | exact HB.out | apply below_alloc | apply pw_below_drewN | apply below_drew1) | exact HB.out))); (case hc0 => exact HC0.out); rintro e w1 ⟨rfl, hb⟩; have HSZ1 : Aside0 (w.heap.size ≤ w1.heap.size) := ⟨hb.size⟩; have nB_ := Aside0.mk (below_step (by repeat (first | (with_reducible first | exact HB.out | apply below_alloc | apply pw_below_drewN | apply below_drew1) | exact HB.out)) hb); clear HB; have HB := nB_; clear nB_; clear hb; have TK1 : Aside0 True := ⟨trivial⟩) | (have tok_ := TK1; clear TK1 tok_; go_at_call 6; refine (laws_toTeamS.calls (k := k) (A0 := A0) (c0 := c0) (l0 := l0) (r := x2) (h := hx2.out) (hr0 := ?hr0) (hc0 := ?hc0)).mono ?_; (case hr0 => exact Kd.C_below HR0.out (by repeat (first | (with_reducible first | exact HB.out | apply below_alloc | apply pw_below_drewN | apply below_drew1) | exact HB.out))); (case hc0 => exact HC0.out); rintro e w2 ⟨v_, rfl, ho_, hb⟩; have hOI_ : Kd.R k38 38 w2 w1.heap.size (fun k => w1.heap.size ≤ k ∧ k < w2.heap.size) _ _ := M.own_interval (Kd.S_R ho_); have HO2 := Aside0.mk (Kd.R_lower hOI_ (below_size (by repeat (first | (with_reducible first | exact HB.out | apply below_alloc | apply pw_below_drewN | apply below_drew1) | exact HB.out)))); have HSZ2 : Aside0 (w1.heap.size ≤ w2.heap.size) := ⟨hb.size⟩; have nB_ := Aside0.mk (below_step (by repeat (first | (with_reducible first | exact HB.out | apply below_alloc | apply pw_below_drewN | apply below_drew1) | exact HB.out)) hb); clear HB; have HB := nB_; clear nB_; clear hOI_ ho_ hb; obtain ⟨B2, d2, ev_⟩ := Kd.R_slice HO2.out; subst ev_; have TK2 : Aside0 True := ⟨trivial⟩) | (have tok_ := TK2; clear TK2 tok_; go_at_call 5; refine (spec_Standing.calls (k := k) (A0 := B2) (c0 := d2) (l0 := x2) (r := x3) (h := hx3.out) (hr0 := ?hr0) (hc0 := ?hc0)).mono ?_; (case hr0 => (with_reducible repeat (first | apply Kd.C_alloc | apply Kd.C_drewN | apply Kd.C_drew)); exact (Kd.R_reads' HO2.out).2.2); (case hc0 => exact (Kd.R_reads' HO2.out).2.1); rintro e w3 ⟨v_, rfl, ho_, hb⟩; have hOI_ : Kd.R (Kd.int .i64) 3 w3 w2.heap.size (fun k => w2.heap.size ≤ k ∧ k < w3.heap.size) _ _ := M.own_interval ho_; have HO3 := Aside0.mk (Kd.R_lower hOI_ (below_size (by repeat (first | (with_reducible first | exact HB.out | apply below_alloc | apply pw_below_drewN | apply below_drew1) | exact HB.out)))); have HSZ3 : Aside0 (w2.heap.size ≤ w3.heap.size) := ⟨hb.size⟩; have n_ := Aside0.mk (Kd.R_below (by (with_reducible repeat (first | apply Kd.R_alloc | apply Kd.R_drewN | apply Kd.R_drew)); exact HO2.out) hb); clear HO2; have HO2 := n_; clear n_; have nB_ := Aside0.mk (below_step (by repeat (first | (with_reducible first | exact HB.out | apply below_alloc | apply pw_below_drewN | apply below_drew1) | exact HB.out)) hb); clear HB; have HB := nB_; clear nB_; clear hOI_ ho_ hb; obtain ⟨B3, d3, ev_⟩ := Kd.R_slice HO3.out; subst ev_; clear HO2; have TK3 : Aside0 True := ⟨trivial⟩) | (have tok_ := TK3; clear TK3 tok_; go_at_call 6; refine (laws_toTeamS.calls (k := k) (A0 := A0) (c0 := c0) (l0 := l0) (r := x4) (h := hx4.out) (hr0 := ?hr0) (hc0 := ?hc0)).mono ?_; (case hr0 => exact Kd.C_below HR0.out (by repeat (first | (with_reducible first | exact HB.out | apply below_alloc | apply pw_below_drewN | apply below_drew1) | exact HB.out))); (case hc0 => exact HC0.out); rintro e w4 ⟨v_, rfl, ho_, hb⟩; have hOI_ : Kd.R k38 38 w4 w3.heap.size (fun k => w3.heap.size ≤ k ∧ k < w4.heap.size) _ _ := M.own_interval (Kd.S_R ho_); have HO4 := Aside0.mk (Kd.R_lower hOI_ (below_size (by repeat (first | (with_reducible first | exact HB.out | apply below_alloc | apply pw_below_drewN | apply below_drew1) | exact HB.out)))); have HSZ4 : Aside0 (w3.heap.size ≤ w4.heap.size) := ⟨hb.size⟩; have n_ := Aside0.mk (Kd.R_below (by (with_reducible repeat (first | apply Kd.R_alloc | apply Kd.R_drewN | apply Kd.R_drew)); exact HO3.out) hb); clear HO3; have HO3 := n_; clear n_; have nB_ := Aside0.mk (below_step (by repeat (first | (with_reducible first | exact HB.out | apply below_alloc | apply pw_below_drewN | apply below_drew1) | exact HB.out)) hb); clear HB; have HB := nB_; clear nB_; clear hOI_ ho_ hb; obtain ⟨B4, d4, ev_⟩ := Kd.R_slice HO4.out; subst ev_; have TK4 : Aside0 True := ⟨trivial⟩) | (have tok_ := TK4; clear TK4 tok_; go_at_call 7; refine (impl_Standing.calls (k := k) (A0 := B4) (c0 := d4) (l0 := x4) (r := x5) (h := hx5.out) (hr0 := ?hr0) (hc0 := ?hc0)).mono ?_; (case hr0 => (with_reducible repeat (first | apply Kd.C_alloc | apply Kd.C_drewN | apply Kd.C_drew)); exact (Kd.R_reads' HO4.out).2.2); (case hc0 => exact (Kd.R_reads' HO4.out).2.1); rintro e w5 ⟨v_, rfl, ho_, hb⟩; have hOI_ : Kd.R (Kd.int .i64) 3 w5 w4.heap.size (fun k => w4.heap.size ≤ k ∧ k < w5.heap.size) _ _ := M.own_interval ho_; have HO5 := Aside0.mk (Kd.R_lower hOI_ (below_size (by repeat (first | (with_reducible first | exact HB.out | apply below_alloc | apply pw_below_drewN | apply below_drew1) | exact HB.out)))); have HSZ5 : Aside0 (w4.heap.size ≤ w5.heap.size) := ⟨hb.size⟩; have n_ := Aside0.mk (Kd.R_below (by (with_reducible repeat (first | apply Kd.R_alloc | apply Kd.R_drewN | apply Kd.R_drew)); exact HO3.out) hb); clear HO3; have HO3 := n_; clear n_; have n_ := Aside0.mk (Kd.R_below (by (with_reducible repeat (first | apply Kd.R_alloc | apply Kd.R_drewN | apply Kd.R_drew)); exact HO4.out) hb); clear HO4; have HO4 := n_; clear n_; have nB_ := Aside0.mk (below_step (by repeat (first | (with_reducible first | exact HB.out | apply below_alloc | apply pw_below_drewN | apply below_drew1) | exact HB.out)) hb); clear HB; have HB := nB_; clear nB_; clear hOI_ ho_ hb; obtain ⟨B5, d5, ev_⟩ := Kd.R_slice HO5.out; subst ev_; have TK5 : Aside0 True := ⟨trivial⟩) | (have tok_ := TK5; clear TK5 tok_; go_at_call 8; refine (laws_eqIntS.calls (k := k) (A0 := B5) (c0 := d5) (l0 := x5) (A1 := B3) (c1 := d3) (l1 := x3) (r := true) (h := hx6.out) (hr0 := ?hr0) (hc0 := ?hc0) (hr1 := ?hr1) (hc1 := ?hc1)).mono ?_; (case hr0 => (with_reducible repeat (first | apply Kd.C_alloc | apply Kd.C_drewN | apply Kd.C_drew)); exact (Kd.R_reads' HO5.out).2.2); (case hc0 => exact (Kd.R_reads' HO5.out).2.1); (case hr1 => (with_reducible repeat (first | apply Kd.C_alloc | apply Kd.C_drewN | apply Kd.C_drew)); exact (Kd.R_reads' HO3.out).2.2); (case hc1 => exact (Kd.R_reads' HO3.out).2.1); rintro e w6 ⟨rfl, hd_⟩; have hb := M.drawn_below hd_; clear hd_; have HSZ6 : Aside0 (w5.heap.size ≤ w6.heap.size) := ⟨hb.size⟩; have n_ := Aside0.mk (Kd.R_below (by (with_reducible repeat (first | apply Kd.R_alloc | apply Kd.R_drewN | apply Kd.R_drew)); exact HO3.out) hb); clear HO3; have HO3 := n_; clear n_; have n_ := Aside0.mk (Kd.R_below (by (with_reducible repeat (first | apply Kd.R_alloc | apply Kd.R_drewN | apply Kd.R_drew)); exact HO4.out) hb); clear HO4; have HO4 := n_; clear n_; have n_ := Aside0.mk (Kd.R_below (by (with_reducible repeat (first | apply Kd.R_alloc | apply Kd.R_drewN | apply Kd.R_drew)); exact HO5.out) hb); clear HO5; have HO5 := n_; clear n_; have nB_ := Aside0.mk (below_step (by repeat (first | (with_reducible first | exact HB.out | apply below_alloc | apply pw_below_drewN | apply below_drew1) | exact HB.out)) hb); clear HB; have HB := nB_; clear nB_; clear hb; have TK6 : Aside0 True := ⟨trivial⟩) | (have tok_ := TK6; clear TK6 tok_; go_at_call 6; refine (laws_toTeamS.calls (k := k) (A0 := A0) (c0 := c0) (l0 := l0) (r := x7) (h := hx7.out) (hr0 := ?hr0) (hc0 := ?hc0)).mono ?_; (case hr0 => exact Kd.C_below HR0.out (by repeat (first | (with_reducible first | exact HB.out | apply below_alloc | apply pw_below_drewN | apply below_drew1) | exact HB.out))); (case hc0 => exact HC0.out); rintro e w7 ⟨v_, rfl, ho_, hb⟩; have hOI_ : Kd.R k38 38 w7 w6.heap.size (fun k => w6.heap.size ≤ k ∧ k < w7.heap.size) _ _ := M.own_interval (Kd.S_R ho_); have HO7 := Aside0.mk (Kd.R_lower hOI_ (below_size (by repeat (first | (with_reducible first | exact HB.out | apply below_alloc | apply pw_below_drewN | apply below_drew1) | exact HB.out)))); have HSZ7 : Aside0 (w6.heap.size ≤ w7.heap.size) := ⟨hb.size⟩; have n_ := Aside0.mk (Kd.R_below (by (with_reducible repeat (first | apply Kd.R_alloc | apply Kd.R_drewN | apply Kd.R_drew)); exact HO3.out) hb); clear HO3; have HO3 := n_; clear n_; have n_ := Aside0.mk (Kd.R_below (by (with_reducible repeat (first | apply Kd.R_alloc | apply Kd.R_drewN | apply Kd.R_drew)); exact HO4.out) hb); clear HO4; have HO4 := n_; clear n_; have n_ := Aside0.mk (Kd.R_below (by (with_reducible repeat (first | apply Kd.R_alloc | apply Kd.R_drewN | apply Kd.R_drew)); exact HO5.out) hb); clear HO5; have HO5 := n_; clear n_; have nB_ := Aside0.mk (below_step (by repeat (first | (with_reducible first | exact HB.out | apply below_alloc | apply pw_below_drewN | apply below_drew1) | exact HB.out)) hb); clear HB; have HB := nB_; clear nB_; clear hOI_ ho_ hb; obtain ⟨B7, d7, ev_⟩ := Kd.R_slice HO7.out; subst ev_; have TK7 : Aside0 True := ⟨trivial⟩) | (have tok_ := TK7; clear TK7 tok_; go_at_call 9; refine (laws_eqTeamS.calls (k := k) (A0 := B4) (c0 := d4) (l0 := x4) (A1 := B7) (c1 := d7) (l1 := x7) (r := true) (h := hx8.out) (hr0 := ?hr0) (hc0 := ?hc0) (hr1 := ?hr1) (hc1 := ?hc1)).mono ?_; (case hr0 => (with_reducible repeat (first | apply Kd.C_alloc | apply Kd.C_drewN | apply Kd.C_drew)); exact (Kd.R_reads' HO4.out).2.2); (case hc0 => exact (Kd.R_reads' HO4.out).2.1); (case hr1 => (with_reducible repeat (first | apply Kd.C_alloc | apply Kd.C_drewN | apply Kd.C_drew)); exact (Kd.R_reads' HO7.out).2.2); (case hc1 => exact (Kd.R_reads' HO7.out).2.1); rintro e w8 ⟨rfl, hb⟩; have HSZ8 : Aside0 (w7.heap.size ≤ w8.heap.size) := ⟨hb.size⟩; have n_ := Aside0.mk (Kd.R_below (by (with_reducible repeat (first | apply Kd.R_alloc | apply Kd.R_drewN | apply Kd.R_drew)); exact HO3.out) hb); clear HO3; have HO3 := n_; clear n_; have n_ := Aside0.mk (Kd.R_below (by (with_reducible repeat (first | apply Kd.R_alloc | apply Kd.R_drewN | apply Kd.R_drew)); exact HO4.out) hb); clear HO4; have HO4 := n_; clear n_; have n_ := Aside0.mk (Kd.R_below (by (with_reducible repeat (first | apply Kd.R_alloc | apply Kd.R_drewN | apply Kd.R_drew)); exact HO5.out) hb); clear HO5; have HO5 := n_; clear n_; have n_ := Aside0.mk (Kd.R_below (by (with_reducible repeat (first | apply Kd.R_alloc | apply Kd.R_drewN | apply Kd.R_drew)); exact HO7.out) hb); clear HO7; have HO7 := n_; clear n_; have nB_ := Aside0.mk (below_step (by repeat (first | (with_reducible first | exact HB.out | apply below_alloc | apply pw_below_drewN | apply below_drew1) | exact HB.out)) hb); clear HB; have HB := nB_; clear nB_; clear hb; clear HO7; have TK8 : Aside0 True := ⟨trivial⟩) | (have tok_ := TK8; clear TK8 tok_; go_at_call 10; refine (M.markTeams (e := 38) (base := w.heap.size) (fun k => w3.heap.size ≤ k ∧ k < w4.heap.size) B4 d4 x4 1 _ ?q1 ?q1b ?q1c ?q2 ?q3).mono ?_; (case q1 => exact (by (with_reducible repeat (first | apply Kd.R_alloc | apply Kd.R_drewN | apply Kd.R_drew)); exact HO4.out)); (case q1b => exact HTK9.out.1.1); (case q1c => exact HTK9.out.1.2); (case q2 => omega); (case q3 => have := HTK9.out.2; omega); rintro e w9 ⟨he_, hm_⟩; rw [← HKK9.out] at he_; subst he_; have n_ := Aside0.mk (Kd.R_kept (by (with_reducible repeat (first | apply Kd.R_alloc | apply Kd.R_drewN | apply Kd.R_drew)); exact HO3.out) hm_.kept (fun k h1 h2 => by obtain ⟨h1a, h1b⟩ := h1; obtain ⟨h2a, h2b⟩ := h2; have := HSZ1.out; have := HSZ2.out; have := HSZ3.out; have := HSZ4.out; have := HSZ5.out; have := HSZ6.out; have := HSZ7.out; have := HSZ8.out; omega)); clear HO3; have HO3 := n_; clear n_; have n_ := Aside0.mk (Kd.R_kept (by (with_reducible repeat (first | apply Kd.R_alloc | apply Kd.R_drewN | apply Kd.R_drew)); exact HO5.out) hm_.kept (fun k h1 h2 => by obtain ⟨h1a, h1b⟩ := h1; obtain ⟨h2a, h2b⟩ := h2; have := HSZ1.out; have := HSZ2.out; have := HSZ3.out; have := HSZ4.out; have := HSZ5.out; have := HSZ6.out; have := HSZ7.out; have := HSZ8.out; omega)); clear HO5; have HO5 := n_; clear n_; have nB_ := Aside0.mk (M.MI.below hm_ (by repeat (first | (with_reducible first | exact HB.out | apply below_alloc | apply pw_below_drewN | apply below_drew1) | exact HB.out)) (fun k hk => by have := hk.1; have := HSZ1.out; have := HSZ2.out; have := HSZ3.out; have := HSZ4.out; have := HSZ5.out; have := HSZ6.out; have := HSZ7.out; have := HSZ8.out; omega)); clear HB; have HB := nB_; clear nB_ HO4; have HSZ9 : Aside0 (w8.heap.size ≤ w9.heap.size) := ⟨hm_.size⟩; clear hm_; have TK9 : Aside0 True := ⟨trivial⟩) | (have tok_ := TK9; clear TK9 tok_; go_at_call 8; refine (laws_eqIntS.calls (k := k) (A0 := B5) (c0 := d5) (l0 := x5) (A1 := B3) (c1 := d3) (l1 := x3) (r := true) (h := hx10.out) (hr0 := ?hr0) (hc0 := ?hc0) (hr1 := ?hr1) (hc1 := ?hc1)).mono ?_; (case hr0 => (with_reducible repeat (first | apply Kd.C_alloc | apply Kd.C_drewN | apply Kd.C_drew)); exact (Kd.R_reads' HO5.out).2.2); (case hc0 => exact (Kd.R_reads' HO5.out).2.1); (case hr1 => (with_reducible repeat (first | apply Kd.C_alloc | apply Kd.C_drewN | apply Kd.C_drew)); exact (Kd.R_reads' HO3.out).2.2); (case hc1 => exact (Kd.R_reads' HO3.out).2.1); rintro e w10 ⟨rfl, hd_⟩; have hb := M.drawn_below hd_; clear hd_; have HSZ10 : Aside0 (w9.heap.size ≤ w10.heap.size) := ⟨hb.size⟩; have n_ := Aside0.mk (Kd.R_below (by (with_reducible repeat (first | apply Kd.R_alloc | apply Kd.R_drewN | apply Kd.R_drew)); exact HO3.out) hb); clear HO3; have HO3 := n_; clear n_; have n_ := Aside0.mk (Kd.R_below (by (with_reducible repeat (first | apply Kd.R_alloc | apply Kd.R_drewN | apply Kd.R_drew)); exact HO5.out) hb); clear HO5; have HO5 := n_; clear n_; have nB_ := Aside0.mk (below_step (by repeat (first | (with_reducible first | exact HB.out | apply below_alloc | apply pw_below_drewN | apply below_drew1) | exact HB.out)) hb); clear HB; have HB := nB_; clear nB_; clear hb; have TK10 : Aside0 True := ⟨trivial⟩) | (have tok_ := TK10; clear TK10 tok_; go_at_call 11; refine (laws_markIntS.calls (k := k) (P0_ := fun k => w4.heap.size ≤ k ∧ k < w5.heap.size) (u9000_ := .slice B5 x5.length d5) (l0 := x5) (a1 := 1) (r1 := m11) (r2 := y11) (w0 := w) (h := hx11.out) (hB := ?q1) (ho0 := ?q2)).mono ?_; (case q1 => exact (by repeat (first | (with_reducible first | exact HB.out | apply below_alloc | apply pw_below_drewN | apply below_drew1) | exact HB.out))); (case q2 => (with_reducible repeat (first | apply Kd.R_alloc | apply Kd.R_drewN | apply Kd.R_drew)); exact HO5.out); rintro e w11 ⟨rfl, ho_, hb_, hk_⟩; have n_ := Aside0.mk (Kd.R_kept (by (with_reducible repeat (first | apply Kd.R_alloc | apply Kd.R_drewN | apply Kd.R_drew)); exact HO3.out) hk_ (fun k h1 h2 => by obtain ⟨h1a, h1b⟩ := h1; obtain ⟨h2a, h2b⟩ := h2; have := HSZ1.out; have := HSZ2.out; have := HSZ3.out; have := HSZ4.out; have := HSZ5.out; have := HSZ6.out; have := HSZ7.out; have := HSZ8.out; have := HSZ9.out; have := HSZ10.out; omega)); clear HO3; have HO3 := n_; clear n_; clear HO5; have HO5 := Aside0.mk ho_; have el_ : x5.length = y11.length := (Kd.R_reads' ho_).1; clear HB; have HB := Aside0.mk hb_; have HSZ11 : Aside0 (w10.heap.size ≤ w11.heap.size) := ⟨hk_.1⟩; clear ho_ hb_ hk_; rw [el_]; rw [el_] at HO5; clear el_; have TK11 : Aside0 True := ⟨trivial⟩) | (have tok_ := TK11; clear TK11 tok_; go_at_call 12; refine (laws_heldIntS.calls (k := k) (A0 := B5) (c0 := d5) (l0 := y11) (a1 := 1) (r := m11) (h := hx12.out) (hr0 := ?hr0) (hc0 := ?hc0)).mono ?_; (case hr0 => (with_reducible repeat (first | apply Kd.C_alloc | apply Kd.C_drewN | apply Kd.C_drew)); exact (Kd.R_reads' HO5.out).2.2); (case hc0 => exact (Kd.R_reads' HO5.out).2.1); rintro e w12 ⟨rfl, hd_⟩; have hb := M.drawn_below hd_; clear hd_; have HSZ12 : Aside0 (w11.heap.size ≤ w12.heap.size) := ⟨hb.size⟩; have n_ := Aside0.mk (Kd.R_below (by (with_reducible repeat (first | apply Kd.R_alloc | apply Kd.R_drewN | apply Kd.R_drew)); exact HO3.out) hb); clear HO3; have HO3 := n_; clear n_; have n_ := Aside0.mk (Kd.R_below (by (with_reducible repeat (first | apply Kd.R_alloc | apply Kd.R_drewN | apply Kd.R_drew)); exact HO5.out) hb); clear HO5; have HO5 := n_; clear n_; have nB_ := Aside0.mk (below_step (by repeat (first | (with_reducible first | exact HB.out | apply below_alloc | apply pw_below_drewN | apply below_drew1) | exact HB.out)) hb); clear HB; have HB := nB_; clear nB_; clear hb; have TK12 : Aside0 True := ⟨trivial⟩) | (have tok_ := TK12; clear TK12 tok_; go_at_call 6; refine (laws_toTeamS.calls (k := k) (A0 := A0) (c0 := c0) (l0 := l0) (r := x13) (h := hx13.out) (hr0 := ?hr0) (hc0 := ?hc0)).mono ?_; (case hr0 => exact Kd.C_below HR0.out (by repeat (first | (with_reducible first | exact HB.out | apply below_alloc | apply pw_below_drewN | apply below_drew1) | exact HB.out))); (case hc0 => exact HC0.out); rintro e w13 ⟨v_, rfl, ho_, hb⟩; have hOI_ : Kd.R k38 38 w13 w12.heap.size (fun k => w12.heap.size ≤ k ∧ k < w13.heap.size) _ _ := M.own_interval (Kd.S_R ho_); have HO13 := Aside0.mk (Kd.R_lower hOI_ (below_size (by repeat (first | (with_reducible first | exact HB.out | apply below_alloc | apply pw_below_drewN | apply below_drew1) | exact HB.out)))); have HSZ13 : Aside0 (w12.heap.size ≤ w13.heap.size) := ⟨hb.size⟩; have n_ := Aside0.mk (Kd.R_below (by (with_reducible repeat (first | apply Kd.R_alloc | apply Kd.R_drewN | apply Kd.R_drew)); exact HO3.out) hb); clear HO3; have HO3 := n_; clear n_; have n_ := Aside0.mk (Kd.R_below (by (with_reducible repeat (first | apply Kd.R_alloc | apply Kd.R_drewN | apply Kd.R_drew)); exact HO5.out) hb); clear HO5; have HO5 := n_; clear n_; have nB_ := Aside0.mk (below_step (by repeat (first | (with_reducible first | exact HB.out | apply below_alloc | apply pw_below_drewN | apply below_drew1) | exact HB.out)) hb); clear HB; have HB := nB_; clear nB_; clear hOI_ ho_ hb; obtain ⟨B13, d13, ev_⟩ := Kd.R_slice HO13.out; subst ev_; have TK13 : Aside0 True := ⟨trivial⟩) | (have tok_ := TK13; clear TK13 tok_; go_at_call 7; refine (impl_Standing.calls (k := k) (A0 := B13) (c0 := d13) (l0 := x13) (r := x14) (h := hx14.out) (hr0 := ?hr0) (hc0 := ?hc0)).mono ?_; (case hr0 => (with_reducible repeat (first | apply Kd.C_alloc | apply Kd.C_drewN | apply Kd.C_drew)); exact (Kd.R_reads' HO13.out).2.2); (case hc0 => exact (Kd.R_reads' HO13.out).2.1); rintro e w14 ⟨v_, rfl, ho_, hb⟩; have hOI_ : Kd.R (Kd.int .i64) 3 w14 w13.heap.size (fun k => w13.heap.size ≤ k ∧ k < w14.heap.size) _ _ := M.own_interval ho_; have HO14 := Aside0.mk (Kd.R_lower hOI_ (below_size (by repeat (first | (with_reducible first | exact HB.out | apply below_alloc | apply pw_below_drewN | apply below_drew1) | exact HB.out)))); have HSZ14 : Aside0 (w13.heap.size ≤ w14.heap.size) := ⟨hb.size⟩; have n_ := Aside0.mk (Kd.R_below (by (with_reducible repeat (first | apply Kd.R_alloc | apply Kd.R_drewN | apply Kd.R_drew)); exact HO3.out) hb); clear HO3; have HO3 := n_; clear n_; have n_ := Aside0.mk (Kd.R_below (by (with_reducible repeat (first | apply Kd.R_alloc | apply Kd.R_drewN | apply Kd.R_drew)); exact HO5.out) hb); clear HO5; have HO5 := n_; clear n_; have n_ := Aside0.mk (Kd.R_below (by (with_reducible repeat (first | apply Kd.R_alloc | apply Kd.R_drewN | apply Kd.R_drew)); exact HO13.out) hb); clear HO13; have HO13 := n_; clear n_; have nB_ := Aside0.mk (below_step (by repeat (first | (with_reducible first | exact HB.out | apply below_alloc | apply pw_below_drewN | apply below_drew1) | exact HB.out)) hb); clear HB; have HB := nB_; clear nB_; clear hOI_ ho_ hb; obtain ⟨B14, d14, ev_⟩ := Kd.R_slice HO14.out; subst ev_; clear HO13; have TK14 : Aside0 True := ⟨trivial⟩) | (have tok_ := TK14; clear TK14 tok_; go_at_call 8; refine (laws_eqIntS.calls (k := k) (A0 := B14) (c0 := d14) (l0 := x14) (A1 := B3) (c1 := d3) (l1 := x3) (r := true) (h := hx15.out) (hr0 := ?hr0) (hc0 := ?hc0) (hr1 := ?hr1) (hc1 := ?hc1)).mono ?_; (case hr0 => (with_reducible repeat (first | apply Kd.C_alloc | apply Kd.C_drewN | apply Kd.C_drew)); exact (Kd.R_reads' HO14.out).2.2); (case hc0 => exact (Kd.R_reads' HO14.out).2.1); (case hr1 => (with_reducible repeat (first | apply Kd.C_alloc | apply Kd.C_drewN | apply Kd.C_drew)); exact (Kd.R_reads' HO3.out).2.2); (case hc1 => exact (Kd.R_reads' HO3.out).2.1); rintro e w15 ⟨rfl, hd_⟩; have hb := M.drawn_below hd_; clear hd_; have HSZ15 : Aside0 (w14.heap.size ≤ w15.heap.size) := ⟨hb.size⟩; have n_ := Aside0.mk (Kd.R_below (by (with_reducible repeat (first | apply Kd.R_alloc | apply Kd.R_drewN | apply Kd.R_drew)); exact HO3.out) hb); clear HO3; have HO3 := n_; clear n_; have n_ := Aside0.mk (Kd.R_below (by (with_reducible repeat (first | apply Kd.R_alloc | apply Kd.R_drewN | apply Kd.R_drew)); exact HO5.out) hb); clear HO5; have HO5 := n_; clear n_; have n_ := Aside0.mk (Kd.R_below (by (with_reducible repeat (first | apply Kd.R_alloc | apply Kd.R_drewN | apply Kd.R_drew)); exact HO14.out) hb); clear HO14; have HO14 := n_; clear n_; have nB_ := Aside0.mk (below_step (by repeat (first | (with_reducible first | exact HB.out | apply below_alloc | apply pw_below_drewN | apply below_drew1) | exact HB.out)) hb); clear HB; have HB := nB_; clear nB_; clear hb; clear HO3 HO14; have TK15 : Aside0 True := ⟨trivial⟩) | (have tok_ := TK15; clear TK15 tok_; go_at_call 12; refine (laws_heldIntS.calls (k := k) (A0 := B5) (c0 := d5) (l0 := y11) (a1 := 1) (r := m11) (h := hx16.out) (hr0 := ?hr0) (hc0 := ?hc0)).mono ?_; (case hr0 => (with_reducible repeat (first | apply Kd.C_alloc | apply Kd.C_drewN | apply Kd.C_drew)); exact (Kd.R_reads' HO5.out).2.2); (case hc0 => exact (Kd.R_reads' HO5.out).2.1); rintro e w16 ⟨rfl, hd_⟩; have hb := M.drawn_below hd_; clear hd_; have HSZ16 : Aside0 (w15.heap.size ≤ w16.heap.size) := ⟨hb.size⟩; have n_ := Aside0.mk (Kd.R_below (by (with_reducible repeat (first | apply Kd.R_alloc | apply Kd.R_drewN | apply Kd.R_drew)); exact HO5.out) hb); clear HO5; have HO5 := n_; clear n_; have nB_ := Aside0.mk (below_step (by repeat (first | (with_reducible first | exact HB.out | apply below_alloc | apply pw_below_drewN | apply below_drew1) | exact HB.out)) hb); clear HB; have HB := nB_; clear nB_; clear hb; clear HO5; have TK16 : Aside0 True := ⟨trivial⟩))
  go_ret
  exact ⟨rfl, (by repeat (first | (with_reducible first | exact HB.out | apply below_alloc | apply pw_below_drewN | apply below_drew1) | exact HB.out))⟩
end Go.Proofs.Ytieglenodannmaa.A
end

section
set_option linter.unusedVariables false
namespace Go.Proofs.Ytieglenodannmaa.Open
open Go.ChangeShapes Go.WideShapes Go.Deep Go.RowKit Go.Proofs.YtieglenodannmaaW.PrintWords
def Opn (P : Program) (t : TypeId) {α : Type} (d : Kd α) : Prop :=
  ∀ (H : Type) (enc : TypeId × Value → H) (w : World) (base : Nat) (spare : Nat → Bool) (held : Bool) (fuel : Nat) (cs : List Value) (y : DataW H × List MemPlace),
    DataW.trod enc P w base spare held fuel t cs = some y → ∃ x : α, d.K w x cs
def OpnL (P : Program) (fs : List Field) {α : Type} (d : Kd α) : Prop :=
  ∀ (H : Type) (enc : TypeId × Value → H) (w : World) (base : Nat) (spare : Nat → Bool) (held : Bool) (cs : List Value), cs.length = fs.length →
    (∀ (j : Nat) (f : Field) (c : Value), fs[j]? = some f → cs[j]? = some c → ∃ (n : Nat) (y : DataW H × List MemPlace), DataW.trod enc P w base spare held n f.type [c] = some y) → ∃ x : α, d.K w x cs
theorem opn_int {P : Program} {t : TypeId} {k : IntKind} (ht : P.underlying t = some (.int k)) : Opn P t (Kd.int k) := by
  intro H enc w base spare held fuel cs y h
  obtain ⟨n, rfl, _⟩ := DataW.trod_int ht h
  exact ⟨n, rfl⟩
theorem opnL_one {P : Program} {f : Field} {α : Type} {d : Kd α} (h : Opn P f.type d) : OpnL P [f] d := by
  intro H enc w base spare held cs hl hf
  match cs, hl with
  | [c], _ =>
    obtain ⟨n, y, hy⟩ := hf 0 f c rfl rfl
    exact h H enc w base spare held n [c] y hy
theorem opnL_cons {P : Program} {f : Field} {fs : List Field} {α β : Type} {a : Kd α} {b : Kd β} (h : Opn P f.type a) (hs : OpnL P fs b) : OpnL P (f :: fs) (Kd.pair a b) := by
  intro H enc w base spare held cs hl hf
  match cs, hl with
  | c :: cs, hl =>
    obtain ⟨n, y, hy⟩ := hf 0 f c rfl rfl
    obtain ⟨x, hx⟩ := h H enc w base spare held n [c] y hy
    obtain ⟨z, hz⟩ := hs H enc w base spare held cs (by simpa using hl) (fun j f' c' h1 h2 => hf (j + 1) f' c' (by simpa using h1) (by simpa using h2))
    exact ⟨(x, z), [c], cs, rfl, hx, hz⟩
theorem opn_struct {P : Program} {t : TypeId} {fs : Array Field} (ht : P.underlying t = some (.struct fs)) (hone : oneCellFields P fs = true) (hC : P.cellsOf t = fs.size)
    {α : Type} {d : Kd α} (hL : OpnL P fs.toList d) : Opn P t d := by
  intro H enc w base spare held fuel cs y h
  obtain ⟨xs, n, _, _, hlen, hxl, hf⟩ := DataW.trod_struct ht h
  refine hL H enc w base spare held cs (by rw [hlen, hC, Array.length_toList]) (fun j f c hj hc => ?_)
  have hj' : fs[j]? = some f := by simpa using hj
  obtain ⟨ho, hk⟩ := hone_of hone j f hj'
  have h1 := hf j f hj'
  rw [ho, hk] at h1
  have hjl : j < fs.size := (Array.getElem?_eq_some_iff.1 hj').1
  have hcl : j < cs.length := (List.getElem?_eq_some_iff.1 hc).1
  have e1 : (cs.drop j).take 1 = [c] := by
    rw [List.drop_eq_getElem_cons hcl]
    have : cs[j] = c := (List.getElem?_eq_some_iff.1 hc).2
    rw [this]; rfl
  rw [e1] at h1
  exact ⟨n, xs[j]'(by omega), h1.trans (List.getElem?_eq_getElem (by omega))⟩
theorem opn_iso {P : Program} {t : TypeId} {α β : Type} {d : Kd α} {f : β → α} (h : Opn P t d) (hs : ∀ a, ∃ b, f b = a) : Opn P t (Kd.iso d f) := by
  intro H enc w base spare held fuel cs y hy
  obtain ⟨x, hx⟩ := h H enc w base spare held fuel cs y hy
  obtain ⟨z, rfl⟩ := hs x
  exact ⟨z, hx⟩
theorem list_of {α : Type} {p : Nat → α → Prop} : ∀ n, (∀ i, i < n → ∃ x, p i x) → ∃ l : List α, l.length = n ∧ ∀ i x, l[i]? = some x → p i x
  | 0, _ => ⟨[], rfl, fun i x h => by simp at h⟩
  | n + 1, h => by
    obtain ⟨l, hl, hp⟩ := list_of n (fun i hi => h i (by omega))
    obtain ⟨x, hx⟩ := h n (by omega)
    refine ⟨l ++ [x], by simp [hl], fun i y hy => ?_⟩
    rcases Nat.lt_or_ge i l.length with hi | hi
    · rw [List.getElem?_append_left hi] at hy
      exact hp i y hy
    · have hi' : i = l.length := by
        have := (List.getElem?_eq_some_iff.1 hy).1
        rw [List.length_append, List.length_singleton] at this
        omega
      subst hi'
      have : x = y := by simpa using hy
      subst this
      rw [hl]
      exact hx
theorem opn_slice {P : Program} {t e : TypeId} {α : Type} {d : Kd α} (ht : P.underlying t = some (.slice e)) (hC : P.cellsOf e = d.sz) (he : Opn P e d) : Opn P t (Kd.slice e d) := by
  intro H enc w base spare held fuel cs y h
  rcases open_slice ht h with ⟨rfl, _⟩ | ⟨a, len, cap, m, n, D, Pl, rfl, hb, hl, hm, hmm, hx, hi⟩
  · exact ⟨[], none, 0, rfl, Nat.le_refl _, rfl, by simp, fun h => absurd h (by simp)⟩
  · have hlm : len ≤ m := by rw [hmm]; split <;> omega
    obtain ⟨xs, hxl, hp⟩ := list_of (p := fun i x => ∃ cs', w.cells? base (a.add (i * P.cellsOf e)) (P.cellsOf e) = some cs' ∧ d.K w x cs') len (fun i hil => by
      obtain ⟨cs', h1, h2⟩ := hi i (by omega)
      obtain ⟨x, hx⟩ := he H enc w base spare held n cs' _ h2
      exact ⟨x, cs', h1, hx⟩)
    refine ⟨xs, some a, cap, by rw [hxl], by omega, rfl, by unfold maxLen at hm; omega, fun _ => ⟨a, rfl, fun j p hj => ?_⟩⟩
    obtain ⟨cs', hc, hk⟩ := hp j p hj
    obtain ⟨_, hcl, hat⟩ := World.cells?_some hc
    refine ⟨cs', d.K_len hk, hk, fun i u hu => ?_⟩
    have hil : i < cs'.length := (List.getElem?_eq_some_iff.1 hu).1
    have := hat i (by omega)
    rw [Go.Deep.add_add, hC] at this
    rw [this]
    exact hu
theorem opened {H : Type} {enc : TypeId × Value → H} {P : Program} {W : World} {base : Nat} {spare : Nat → Bool} {held : Bool} {t e : TypeId} {α : Type} {d : Kd α} (h : Opn P t (Kd.slice e d)) {a : Option Addr} {len cap : Nat} {dd : DataW H} {ps : List MemPlace}
    (ht : DataW.Trod enc P W base spare held t (.slice a len cap) dd ps) : ∃ l : List α, l.length = len ∧ l.length ≤ cap ∧ d.C W a l.length l := by
  obtain ⟨fuel, hf⟩ := ht
  obtain ⟨l, A, c, he, hl, hc⟩ := h H enc W base spare held fuel _ _ hf
  simp [Value.cells] at he
  obtain ⟨rfl, rfl, rfl⟩ := he
  exact ⟨l, rfl, hl, hc⟩
theorem C_mem {α : Type} {d : Kd α} {w : World} {A : Option Addr} {n : Nat} {xs : List α} (h : d.C w A n xs) (x : α) (hx : x ∈ xs) : ∃ c, d.K w x c := by
  obtain ⟨j, hj, rfl⟩ := List.mem_iff_getElem.1 hx
  have h0 : 0 < n := by have := h.1; omega
  obtain ⟨ad, _, hc⟩ := h.2.2 h0
  obtain ⟨c, _, hk, _⟩ := hc j _ (List.getElem?_eq_getElem hj)
  exact ⟨c, hk⟩
end Go.Proofs.Ytieglenodannmaa.Open
end

section
set_option linter.unusedVariables false
set_option linter.unusedSimpArgs false
namespace Go.Proofs.Ytieglenodannmaa.L
open Go Go.RowKit Go.Proofs.Ytieglenodannmaa.A Go.Proofs.YtieglenodannmaaW.PrintWords
theorem sAreTeams_ev (l : List Tm) (hs : Small l) : Ev (fun k => spec_AreTeams.f k l) (areT l) := by
  unfold spec_AreTeams.f
  exact Ev.pos (of_small hs) (Ev.now _)
theorem iAreTeams_ev (l : List Tm) (hs : Small l) : Ev (fun k => impl_AreTeams.f k l) (areT l) := by
  unfold impl_AreTeams.f
  exact Ev.pos (of_small hs) (Ev.now _)
end Go.Proofs.Ytieglenodannmaa.L
end

section
set_option linter.unusedVariables false
set_option linter.unusedSimpArgs false
namespace Go.Proofs.Ytieglenodannmaa.L
open Go Go.RowKit Go.Proofs.Ytieglenodannmaa.A Go.Proofs.YtieglenodannmaaW.PrintWords
theorem bef_neg {x y u : K3} (h1 : befK x y = false) (h2 : befK y u = false) : befK x u = false := by
  rw [Bool.eq_false_iff, Ne, befK_iff] at *
  omega
theorem bef_asym {x y : K3} (h : befK x y = true) : befK y x = false := by
  rw [befK_iff] at h
  rw [Bool.eq_false_iff, Ne, befK_iff]
  omega
theorem insKP_le (x : K3) (ys : List K3) : ∀ k, insKP x ys k ≤ k
  | 0 => Nat.le_refl _
  | k + 1 => by
    rw [insKP]
    split
    · have := insKP_le x ys k; omega
    · exact Nat.le_refl _
theorem insKP_above (x : K3) (ys : List K3) : ∀ k j : Nat, insKP x ys k ≤ j → j < k → befK x (ys.getD j default) = true
  | 0, j, _, h => by omega
  | k + 1, j, h1, h2 => by
    rw [insKP] at h1
    by_cases hb : befK x (ys.getD k default) = true
    · rw [if_pos hb] at h1
      by_cases e : j = k
      · subst e
        exact hb
      · exact insKP_above x ys k j h1 (by omega)
    · rw [if_neg hb] at h1
      omega
theorem insKP_below (x : K3) (ys : List K3) : ∀ k : Nat, 0 < insKP x ys k → befK x (ys.getD (insKP x ys k - 1) default) = false
  | 0, h => by simp [insKP] at h
  | k + 1, h => by
    rw [insKP] at h ⊢
    by_cases hb : befK x (ys.getD k default) = true
    · rw [if_pos hb] at h ⊢
      exact insKP_below x ys k h
    · rw [if_neg hb] at h ⊢
      rw [Nat.add_sub_cancel]
      exact Bool.eq_false_iff.mpr hb
theorem getD_at {ys : List K3} {j : Nat} (h : j < ys.length) : ys.getD j default = ys[j] := by
  rw [List.getD_eq_getElem?_getD, List.getElem?_eq_getElem h]
  rfl
abbrev SrtK (ys : List K3) : Prop := ys.Pairwise (fun u v => befK v u = false)
theorem insKK_sorted {ys : List K3} {x : K3} (h : SrtK ys) : SrtK (insKK ys x) := by
  have hp := insKP_le x ys ys.length
  have habove := fun j => insKP_above x ys ys.length j
  have hbelow := insKP_below x ys ys.length
  unfold insKK
  generalize insKP x ys ys.length = p at hp habove hbelow ⊢
  have hg := List.pairwise_iff_getElem.1 h
  unfold SrtK
  rw [List.append_assoc, List.pairwise_append]
  refine ⟨h.sublist (List.take_sublist _ _), ?_, ?_⟩
  · rw [List.singleton_append, List.pairwise_cons]
    refine ⟨fun v hv => ?_, h.sublist (List.drop_sublist _ _)⟩
    obtain ⟨j, hj, rfl⟩ := List.mem_iff_getElem.1 hv
    have hj2 : p + j < ys.length := by rw [List.length_drop] at hj; omega
    rw [List.getElem_drop]
    have := habove (p + j) (by omega) hj2
    rw [getD_at hj2] at this
    exact bef_asym this
  · intro u hu v hv
    obtain ⟨j, hj, rfl⟩ := List.mem_iff_getElem.1 hu
    have hj1 : j < p := by rw [List.length_take] at hj; omega
    have hj2 : j < ys.length := by omega
    rw [List.getElem_take]
    rcases List.mem_append.1 hv with hv | hv
    · rw [List.mem_singleton] at hv
      subst hv
      have hb := hbelow (by omega)
      have hp1 : p - 1 < ys.length := by omega
      rw [getD_at hp1] at hb
      by_cases e : j = p - 1
      · subst e
        exact hb
      · exact bef_neg hb (hg j (p - 1) hj2 hp1 (by omega))
    · obtain ⟨i, hi, rfl⟩ := List.mem_iff_getElem.1 hv
      rw [List.length_drop] at hi
      rw [List.getElem_drop]
      exact hg j (p + i) hj2 (by omega) (by omega)
theorem insKK_perm (ys : List K3) (x : K3) : (insKK ys x).Perm (x :: ys) := by
  unfold insKK
  rw [List.append_assoc, List.singleton_append]
  refine List.perm_middle.trans ?_
  rw [List.take_append_drop]
theorem fold_sorted : ∀ (ks ys : List K3), SrtK ys → SrtK (ks.foldl insKK ys)
  | [], ys, h => h
  | k :: ks, ys, h => fold_sorted ks (insKK ys k) (insKK_sorted h)
theorem fold_perm : ∀ (ks ys : List K3), (ks.foldl insKK ys).Perm (ks ++ ys)
  | [], ys => List.Perm.refl _
  | k :: ks, ys => by
    rw [List.foldl_cons]
    refine (fold_perm ks (insKK ys k)).trans ?_
    refine ((insKK_perm ys k).append_left ks).trans ?_
    exact List.perm_middle
theorem areT_ten {l : List Tm} (h : areT l = true) : l.length ≤ 10 := by
  by_cases h10 : l.length ≤ 10
  · exact h10
  · rw [areT_big h10] at h
    cases h
def standT (l : List Tm) : List Int := if areT l = true then (ordT l).map (fun t => t.f0) else []
theorem standT_len (l : List Tm) : (standT l).length ≤ 10 := by
  unfold standT
  split
  · rename_i h
    have := areT_ten h
    rw [List.length_map, show (ordT l).length = l.length from List.length_mergeSort _]
    exact this
  · simp
theorem iStanding_ev (l : List Tm) (hs : Small l) : Ev (fun k => impl_Standing.f k l) (standT l) := by
  unfold impl_Standing.f standT
  refine Ev.bind (iAreTeams_ev l hs) ?_
  by_cases h : areT l = true
  · exact Ev.cast (Ev.pos h (Ev.pos (by have := areT_ten h; omega) (Ev.now _))) (if_pos h).symm
  · exact Ev.cast (Ev.neg h (Ev.now _)) (if_neg h).symm
theorem sStanding_ev (l : List Tm) (hs : Small l) : Ev (fun k => spec_Standing.f k l) (standT l) := by
  unfold spec_Standing.f standT
  refine Ev.bind (sAreTeams_ev l hs) ?_
  by_cases h : areT l = true
  · refine Ev.cast (Ev.pos h (Ev.pos (by have := areT_ten h; omega) (Ev.now _))) ?_
    rw [if_pos h]
    have hp : ((l.map keyS).foldl insKK []).Perm ((ordT l).map keyS) := by
      refine (fold_perm (l.map keyS) []).trans ?_
      rw [List.append_nil]
      exact ((List.mergeSort_perm _ _).symm).map _
    rw [sorted_one hp (fold_sorted _ [] List.Pairwise.nil) (ordT_sortedK l), List.map_map]
    rfl
  · exact Ev.cast (Ev.neg h (Ev.now _)) (if_neg h).symm
end Go.Proofs.Ytieglenodannmaa.L
end

section
set_option linter.unusedVariables false
set_option linter.unusedSimpArgs false
namespace Go.Proofs.Ytieglenodannmaa.L
open Go Go.RowKit Go.Proofs.Ytieglenodannmaa.A Go.Proofs.YtieglenodannmaaW.PrintWords
def ups : Nat → Int → List Int
  | 0, _ => []
  | n + 1, k => k :: ups n (k + 1)
theorem ups_length : ∀ (n : Nat) (k : Int), (ups n k).length = n
  | 0, _ => rfl
  | n + 1, k => by simp [ups, ups_length n]
theorem ups_get : ∀ (n : Nat) (k : Int) (i : Nat) (h : i < n), (ups n k)[i]'(by rw [ups_length]; exact h) = k + i
  | n + 1, k, 0, _ => by simp [ups]
  | n + 1, k, i + 1, h => by
    simp only [ups, List.getElem_cons_succ]
    rw [ups_get n (k + 1) i (by omega)]
    omega
theorem markIntS_l0 (k0 : Int) (N : Nat) (h0 : 0 ≤ k0) (h1 : k0 ≤ 1099511627776) (hN : N ≤ 1099511627776) : ∀ (d n : Nat) (xs : List Int), n + d = N → xs.length = N → xs.take n = (ups N k0).take n → Ev (fun k => laws_markIntS.l0 k xs (k0 + n) (n : Int)) (k0 + N, ups N k0) := by
  intro d
  induction d with
  | zero =>
    intro n xs hd hx ht
    refine Ev.step (fun k => laws_markIntS.l0.eq_2 ..) ?_
    refine Ev.neg (by omega) (Ev.some_ ?_)
    rw [List.take_of_length_le (by omega), List.take_of_length_le (by rw [ups_length]; omega)] at ht
    rw [ht, show n = N by omega]
  | succ d ih =>
    intro n xs hd hx ht
    refine Ev.step (fun k => laws_markIntS.l0.eq_2 ..) ?_
    refine Ev.pos (by omega) (Ev.pos (by omega) ?_)
    have e : wrap64 (k0 + (n : Int) + 1) = k0 + ((n + 1 : Nat) : Int) := by rw [w64 (by omega) (by omega)]; omega
    simp only [w64s (show n < 4611686018427387904 by omega), e, Int.toNat_natCast]
    refine ih (n + 1) _ (by omega) (by simp [hx]) ?_
    rw [List.take_succ_eq_append_getElem (by simp; omega), List.take_succ_eq_append_getElem (by rw [ups_length]; omega), List.take_set_of_le (by omega), ht, ups_get N k0 n (by omega)]
    simp
theorem markIntS_ev (l : List Int) (k0 : Int) (h0 : 0 ≤ k0) (h1 : k0 ≤ 1099511627776) (hN : l.length ≤ 1099511627776) : Ev (fun k => laws_markIntS.f k l k0) (k0 + l.length, ups l.length k0) := by
  unfold laws_markIntS.f
  have := markIntS_l0 k0 l.length h0 h1 hN l.length 0 l (by omega) rfl (by simp)
  simpa using this
theorem heldIntS_l0 (k0 : Int) (N : Nat) (h0 : 0 ≤ k0) (h1 : k0 ≤ 1099511627776) (hN : N ≤ 1099511627776) : ∀ (d n : Nat), n + d = N → Ev (fun k => laws_heldIntS.l0 k (ups N k0) (k0 + n) (n : Int)) (k0 + N) := by
  intro d
  induction d with
  | zero =>
    intro n hd
    refine Ev.step (fun k => laws_heldIntS.l0.eq_2 ..) ?_
    refine Ev.neg (by rw [ups_length]; omega) (Ev.some_ ?_)
    rw [show n = N by omega]
  | succ d ih =>
    intro n hd
    refine Ev.step (fun k => laws_heldIntS.l0.eq_2 ..) ?_
    refine Ev.pos (by rw [ups_length]; omega) (Ev.pos (by omega) ?_)
    have e : wrap64 (k0 + (n : Int) + 1) = k0 + ((n + 1 : Nat) : Int) := by rw [w64 (by omega) (by omega)]; omega
    simp only [w64s (show n < 4611686018427387904 by omega), e, rd_at (show n < (ups N k0).length by rw [ups_length]; omega), ups_get N k0 n (show n < N by omega)]
    exact Ev.pos trivial (ih (n + 1) (by omega))
theorem heldIntS_ev (N : Nat) (k0 : Int) (h0 : 0 ≤ k0) (h1 : k0 ≤ 1099511627776) (hN : N ≤ 1099511627776) : Ev (fun k => laws_heldIntS.f k (ups N k0) k0) (k0 + N) := by
  unfold laws_heldIntS.f
  have := heldIntS_l0 k0 N h0 h1 hN N 0 (by omega)
  simpa using this
end Go.Proofs.Ytieglenodannmaa.L
end

section
set_option linter.unusedVariables false
namespace Go.Proofs.Ytieglenodannmaa.M
theorem tot_le (m B : Nat) : ∀ ns : List Nat, (∀ n ∈ ns, n ≤ B) → tot m ns ≤ ns.length * (m + B)
  | [], _ => by simp [tot]
  | n :: r, h => by
    have h1 := tot_le m B r (fun x hx => h x (List.mem_cons_of_mem _ hx))
    have h2 := h n List.mem_cons_self
    simp only [tot, List.length_cons, Nat.succ_mul]
    omega
theorem tot_small {α : Type} (m : Nat) (hm : m ≤ 5) (f : α → Nat) (l : List α) (hl : l.length ≤ 1048576) (hf : ∀ x ∈ l, f x ≤ 1048576) : tot m (l.map f) ≤ 1099516870656 := by
  have h := tot_le m 1048576 (l.map f) (by simpa using hf)
  rw [List.length_map] at h
  refine Nat.le_trans h ?_
  refine Nat.le_trans (Nat.mul_le_mul hl (Nat.add_le_add_right hm 1048576)) ?_
  omega
end Go.Proofs.Ytieglenodannmaa.M
end

section
set_option linter.unusedVariables false
set_option linter.unusedSimpArgs false
namespace Go.Proofs.Ytieglenodannmaa.L
open Go Go.RowKit Go.Proofs.Ytieglenodannmaa.A Go.Proofs.YtieglenodannmaaW.PrintWords
theorem FnExactStanding_pure (l0 : List S35) (b0 : l0.length ≤ 9223372036854775807) (b1 : ∀ x ∈ l0, x.f5.length ≤ 9223372036854775807) : ∃ k, laws_FnExactStanding.f k l0 = some true := by
  refine Ev.rounds (g := fun k => laws_FnExactStanding.f k l0) ?_
  unfold laws_FnExactStanding.f
  obtain ⟨v, hv, _, hv2⟩ := szTeamS_ev l0 b0 b1
  refine Ev.bind hv (Ev.ite (fun _ => Ev.now _) (fun hs => ?_))
  obtain ⟨hl, hi⟩ := hv2 hs
  have hi' : ∀ x ∈ l0, x.f5.length ≤ 1099511627776 := fun x hx => by have := hi x hx; omega
  have hS := small_map l0 (by omega) hi'
  have hT := M.tot_small 5 (by omega) (fun x : Tm => x.f5.length) (l0.map cvTm) (by simpa using hl) (by
    intro x hx
    obtain ⟨y, hy, rfl⟩ := List.mem_map.1 hx
    exact hi y hy)
  have hfl := standT_len (l0.map cvTm)
  have hT1 := toTeamS_ev l0 (by omega) hi'
  have hE : Ev (fun k => laws_eqIntS.f k (standT (l0.map cvTm)) (standT (l0.map cvTm))) true := Ev.cast (eqIntS_ev _ _ (by omega)) (by simp)
  refine Ev.bind hT1 (Ev.bind (sStanding_ev _ hS) (Ev.bind hT1 (Ev.bind (iStanding_ev _ hS) (Ev.bind hE (Ev.pos rfl ?_)))))
  refine Ev.bind hT1 (Ev.bind (eqTeamS_ev _ hS) (Ev.pos rfl ?_))
  refine Ev.pos ⟨⟨by simp; omega, fun x hx => by have := hS.2 x hx; omega⟩, Int.le_trans (Int.ofNat_le.2 hT) (by omega)⟩ ?_
  refine Ev.bind hE (Ev.pos rfl (Ev.bind (markIntS_ev _ 1 (by omega) (by omega) (by omega)) ?_))
  dsimp only
  have hH := heldIntS_ev (standT (l0.map cvTm)).length 1 (by omega) (by omega) (by omega)
  refine Ev.bind hH (Ev.pos (by omega) (Ev.pos rfl ?_))
  refine Ev.bind hT1 (Ev.bind (iStanding_ev _ hS) (Ev.bind hE (Ev.pos rfl ?_)))
  exact Ev.bind hH (Ev.pos (by omega) (Ev.pos rfl (Ev.now _)))
end Go.Proofs.Ytieglenodannmaa.L
end
