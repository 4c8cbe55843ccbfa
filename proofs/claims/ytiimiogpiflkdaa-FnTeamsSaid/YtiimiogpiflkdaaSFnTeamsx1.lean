/- What the row FnTeams rests on, put together: LHCloT, LHStand, LSqz, LWMark, LHTwo, A23, A24, A25, A60, A61, A62, A72, A73, A74, A75. No condition. -/
import Derived.Test.YtiimiogpiflkdaaSFnTeamsx0
import Derived.Shelf.SlSortCmp.NoneTotal
section
set_option linter.unusedVariables false
set_option linter.unusedSimpArgs false
namespace Go.Proofs.Ytiimiogpiflkdaa.A
open Go.RowKit Go.Proofs.YtiimiogpiflkdaaW.PrintWords Go.Proofs.YtiimiogpiflkdaaW.PrintLast Go.Proofs.YtiimiogpiflkdaaW.PrintMore Go.Shelf Go.Sort
theorem hkT_nil {w : World} {a : Option Addr} {n c n' c' : Nat} : (binOp .eql 25 (.slice a n c) (.slice none n' c')).run Try.prog w = .ok (.bool a.isNone) w := by
  have e : ∀ d, (Op.equalIn (d + 1) 25 (.slice a n c) (.slice none n' c')).run Try.prog w = .ok a.isNone w := by
    intro d
    cases a <;> simp [Op.equalIn, run_underlying Try.underlying25]
  simp only [binOp]
  simp [Op.equal, Op.maxDepth, e 9999]
theorem hkT_alloc {W : World} {a : Addr} {v : Value} (o : Obj) (h : W.cell? a = some v) : (W.alloc o).cell? a = some v := by
  have hlt : a.block < W.heap.size := World.block_lt_of_cell? W a h
  rw [← h]
  simp only [World.cell?, World.alloc, Array.getElem?_push, Nat.ne_of_lt hlt, if_false]
theorem cellsT {w : World} {ad : Addr} {l0 : List S61} (h : Kd.C k61 w (some ad) l0.length l0) : ∃ d : List TmA, d.length = l0.length ∧ d.map keyA = l0.map keyS ∧ ∀ (i : Nat) (hi : i < d.length) (j : Nat) (u : Value), (d[i].cells)[j]? = some u → w.cell? (ad.add (i * 6 + j)) = some u := by
  obtain ⟨d, hd, hP⟩ := listOf l0.length (fun i (x : TmA) => (∀ hi : i < l0.length, keyA x = keyS l0[i]) ∧ ∀ j u, x.cells[j]? = some u → w.cell? (ad.add (i * 6 + j)) = some u) (fun i hi => by
    obtain ⟨ad', A5, c5, e0, x0, x1, x2, x3, x4, x5, _⟩ := at_T61 h (i : Int) (by omega) (by omega)
    cases e0
    refine ⟨⟨(rd_T61 l0 (i : Int)).f0, (rd_T61 l0 (i : Int)).f1, (rd_T61 l0 (i : Int)).f2, (rd_T61 l0 (i : Int)).f3, (rd_T61 l0 (i : Int)).f4, A5, (rd_T61 l0 (i : Int)).f5.length, c5⟩, fun hi => ?_, fun j u hu => ?_⟩
    · simp [keyA, keyS, rd_T61, hi]
    · simp only [Int.toNat_natCast] at x0 x1 x2 x3 x4 x5
      have ha : ∀ j, 0 < j → ad.add (i * 6 + j) = ⟨(ad.add (i * 6)).block, (ad.add (i * 6)).off + j, none⟩ := fun j hj => add_field ad (i * 6) j hj
      rcases j with _ | _ | _ | _ | _ | _ | j
      · cases hu; exact x0
      · cases hu; rw [ha 1 (by omega)]; exact x1
      · cases hu; rw [ha 2 (by omega)]; exact x2
      · cases hu; rw [ha 3 (by omega)]; exact x3
      · cases hu; rw [ha 4 (by omega)]; exact x4
      · cases hu; rw [ha 5 (by omega)]; exact x5
      · cases hu)
  refine ⟨d, hd, ?_, fun i hi j u hu => (hP i hi).2 j u hu⟩
  refine List.ext_getElem (by simp [hd]) (fun i h1 h2 => ?_)
  simp only [List.length_map] at h1 h2
  simpa using (hP i h1).1 h2
set_option maxHeartbeats 2000000 in
set_option maxRecDepth 100000 in
theorem CloneT_calls (ad : Addr) (c0 : Nat) (l0 : List S61) (w : World) (hr0 : Kd.C k61 w (some ad) l0.length l0) (hlen : l0.length ≤ 12) :
    Calls Try.prog 68 #[.slice (some ad) l0.length c0] w fun e w' => ∃ (g cap : Nat) (d : Array TmA), e = .returned (.slice (some ⟨g, 0, none⟩) d.size cap) ∧ d.size = l0.length ∧ d.toList.map keyA = l0.map keyS ∧ HoldsK TmA.cells 6 w' g 0 d ∧ w.heap.size ≤ g ∧ g < w'.heap.size ∧ Below w.heap.size w w' := by
  obtain ⟨d, hd, hk, hcell⟩ := cellsT hr0
  have HD := Aside0.mk hcell
  have HK := Aside0.mk hk
  clear hcell hk hr0
  obtain ⟨D, hD⟩ : ∃ D : Array TmA, D = d.toArray := ⟨_, rfl⟩
  have hDs : D.size = l0.length := by rw [hD]; simpa using hd
  have HDD := Aside0.mk hD
  clear hD
  have q41 : ∀ (w : World) (a : Option Addr) (n c n' c' : Nat), (binOp .eql 25 (.slice a n c) (.slice none n' c')).run Try.prog w = .ok (.bool a.isNone) w := fun w a n c n' c' => hkT_nil
  have u41 : ∀ w, Sem.run Try.prog (underlying 25) w = .ok (TypeDesc.slice 61) w := run_underlying Try.underlying25
  obtain ⟨i0, hi, hzz⟩ := Option.map_eq_some_iff.1 (show (Try.prog.info? 61).map (fun i => (i.zero, i.size, i.bytes)) = some (some (.agg #[.int .i64 0, .int .i64 0, .int .i64 0, .int .i64 0, .int .i64 0, .slice none 0 0]), 6, 64) by kernel_rfl)
  simp only [Prod.mk.injEq] at hzz
  obtain ⟨hz0, hz1, hz2⟩ := hzz
  have HL := Aside0.mk hlen
  have HS := Aside0.mk hDs
  clear hlen hd
  go_enter Try.func68, Try.ntmps68
  go_wp2_with (at_builtin; refine wpList_append_own _ rfl _ _ 25 rfl w.heap.size 61 i0 (.agg #[.int .i64 0, .int .i64 0, .int .i64 0, .int .i64 0, .int .i64 0, .slice none 0 0]) 6 64 Try.underlying25 hi hz0 hz1 hz2 rfl (by decide) _ _ _ rfl (World.ownsRow_made w #[] 0 (Nat.le_refl _) (Nat.zero_le _) rfl) ad l0.length c0 (flatK TmA.cells 6 D).toList rfl ?qc1 ?qc2 ?qc3 ?qc4 ?qc5 ?qc6 ?_)
  case qc1 => have := HS.out; simp [this]
  case qc2 =>
    intro j u hj
    refine hkT_alloc _ ?_
    have hjl : j < D.size * 6 := by
      have := (List.getElem?_eq_some_iff.1 hj).1
      simpa using this
    have h6 : j / 6 < D.size := by omega
    have e1 : (flatK TmA.cells 6 D)[j]! = u := by
      have h2 := (List.getElem?_eq_some_iff.1 hj)
      obtain ⟨h3, h4⟩ := h2
      rw [getElem!_pos _ j (by simpa using hjl)]
      simpa using h4
    rw [get_flatK TmA.cells 6 D j hjl] at e1
    have hD2 := HDD.out
    subst hD2
    simp only [List.size_toArray] at h6
    have e2 : (d.toArray)[j / 6]! = d[j / 6] := by rw [getElem!_pos _ _ (by simpa using h6)]; simp
    rw [e2] at e1
    have e3 := HD.out (j / 6) h6 (j % 6) u (by
      have hl : (d[j / 6].cells).length = 6 := rfl
      rw [getElem!_pos _ _ (by rw [hl]; omega)] at e1
      rw [List.getElem?_eq_getElem (by rw [hl]; omega), e1])
    rw [show j / 6 * 6 + j % 6 = j by omega] at e3
    exact e3
  case qc3 =>
    intro u hu
    obtain ⟨j, hj, rfl⟩ := List.mem_iff_getElem.1 hu
    have hjl : j < D.size * 6 := by simpa using hj
    have e1 := get_flatK TmA.cells 6 D j hjl
    rw [getElem!_pos _ j (by simpa using hjl)] at e1
    simp only [Array.getElem_toList]
    rw [e1]
    have hl : ∀ x : TmA, x.cells.length = 6 := fun _ => rfl
    rw [getElem!_pos _ _ (by rw [hl]; omega)]
    have hm := List.getElem_mem (l := (D[j / 6]!).cells) (n := j % 6) (by rw [hl]; omega)
    generalize (D[j / 6]!).cells[j % 6]'(by rw [hl]; omega) = u at hm
    simp only [TmA.cells, List.mem_cons, List.not_mem_nil, or_false] at hm
    rcases hm with rfl | rfl | rfl | rfl | rfl | rfl <;> rfl
  case qc4 => have := HL.out; unfold maxLen; omega
  case qc5 => have := HL.out; omega
  case qc6 => simp
  intro v' w1 hown hgrow hnil
  have HO := Aside0.mk hown
  have HG := Aside0.mk hgrow
  have HN := Aside0.mk hnil
  clear hown hgrow hnil
  go_wp2
  go_ret
  have hb : Below w.heap.size w w1 := ((Below.refl _ w).alloc (Nat.le_refl _) _).grown HG.out (by simp) (by intro k hk; simp [Value.ownBlock] at hk; omega)
  have ho := HO.out
  try simp only [Nat.zero_add, List.nil_append] at ho
  rcases ho.2 with ⟨e, _⟩ | ⟨g, cap, cur, e, hge, hh, _, _, hcs, htk⟩
  · exact absurd e HN.out
  · subst e
    have hS := HS.out
    refine ⟨g, cap, D, by rw [hS]; rfl, hS, ?_, fun j hj => ⟨?_, ?_⟩, by simpa using hge, (Array.getElem?_eq_some_iff.1 hh).1, hb⟩
    · rw [HDD.out]; simpa using HK.out
    · have hj' : j < D.size * 6 := by simpa using hj
      have := ho.cells (g := g) rfl j ((flatK TmA.cells 6 D)[j]!) (by
        rw [List.getElem?_eq_getElem (by simpa using hj')]
        rw [getElem!_pos _ j (by simpa using hj')]
        simp)
      rw [Addr.add_lit] at this
      exact this
    · simp [World.frozen?, hh]
end Go.Proofs.Ytiimiogpiflkdaa.A
end

section
set_option linter.unusedVariables false
set_option linter.unusedSimpArgs false
namespace Go.Proofs.Ytiimiogpiflkdaa.A
open Go.RowKit Go.Proofs.YtiimiogpiflkdaaW.PrintWords Go.Proofs.YtiimiogpiflkdaaW.PrintLast Go.Proofs.YtiimiogpiflkdaaW.PrintMore Go.Shelf Go.Sort
theorem CloneT_none (n c : Nat) (w : World) : Calls Try.prog 68 #[.slice none n c] w fun e w' => e = .returned (.slice none 0 0) ∧ w' = w := by
  have q41 : ∀ (w : World) (a : Option Addr) (n c n' c' : Nat), (binOp .eql 25 (.slice a n c) (.slice none n' c')).run Try.prog w = .ok (.bool a.isNone) w := fun w a n c n' c' => hkT_nil
  go_enter Try.func68, Try.ntmps68
  go_wp2
  go_ret
  exact ⟨rfl, rfl⟩
theorem SortFunc_none (w : World) : Calls Try.prog 69 #[.slice none 0 0, .func (.func 70) #[] #[]] w fun e w' => e = .returned (.tuple #[]) ∧ w' = w :=
  AnyF.slices_SortFunc_none { Try.sortT with } none 0 (.func (.func 70) #[] #[]) w
def RowT (W : World) (g : Nat) (d : Array TmA) : Prop := g < W.heap.size ∧ ∀ (i : Nat) (hi : i < d.size) (j : Nat) (u : Value), (d[i].cells)[j]? = some u → W.cell? ⟨g, i * 6 + j, none⟩ = some u
theorem RowT.step {W W' : World} {g : Nat} {d : Array TmA} (h : RowT W g d) (hs : W.heap.size ≤ W'.heap.size) (he : W'.heap[g]? = W.heap[g]?) : RowT W' g d :=
  ⟨Nat.lt_of_lt_of_le h.1 hs, fun i hi j u hu => by
    have := h.2 i hi j u hu
    simpa [World.cell?, he] using this⟩
def impl_Standing.f (k : Nat) (l0 : List S61) : Option (List Int) := (impl_AreTeams.f k l0).bind fun b => if b = true then (if l0.length ≤ 12 then some ((ordT l0).map (fun t => t.f0)) else none) else some []
set_option maxHeartbeats 4000000 in
set_option maxRecDepth 100000 in
theorem impl_Standing.calls (k : Nat) (A0 : Option Addr) (c0 : Nat) (l0 : List S61) (r : List Int) (w : World) (hr0 : Kd.C k61 w A0 l0.length l0) (hc0 : l0.length ≤ c0) (h : impl_Standing.f k l0 = some r) :
    Calls Try.prog 34 #[.slice A0 l0.length c0] w fun e w' => ∃ v0_, e = .returned v0_ ∧ Kd.R (Kd.int .i64) 3 w' w.heap.size (fun _ => True) v0_ r ∧ Below w.heap.size w w' := by
  unfold impl_Standing.f at h
  replace h := Option.bind_eq_some_iff.mp h
  obtain ⟨b, hb, h⟩ := h
  have hA := fun W hW => impl_AreTeams.calls k A0 c0 l0 b W (Kd.C_below hr0 hW) hc0 hb
  have HA := Aside0.mk hA
  have HR0 := Aside0.mk hr0
  clear hA hr0 hb
  cases b with
  | false =>
    rw [if_neg (by simp)] at h
    obtain rfl := Option.some.inj h
    clear h
    go_enter Try.func34, Try.ntmps34
    go_wp2_with (go_at_call 21; refine (HA.out _ ?hb1).mono ?_; (case hb1 => exact below_alloc (Below.refl _ _) _); rintro e w' ⟨rfl, hb'⟩)
    go_ret
    refine ⟨_, rfl, ?_, (below_alloc (Below.refl _ w) _).trans (hb'.mono (by simp))⟩
    exact Kd.R_below (Kd.R_of_own (World.ownsRow_made w #[] 0 (Nat.le_refl _) (Nat.zero_le _) rfl) (fun _ _ => trivial)) hb'
  | true =>
    rw [if_pos rfl] at h
    by_cases hl : l0.length ≤ 12
    rotate_left
    · rw [if_neg hl] at h
      cases h
    rw [if_pos hl] at h
    obtain rfl := Option.some.inj h
    clear h
    have HL := Aside0.mk hl
    clear hl
    cases A0 with
    | none =>
      have hl0 : l0 = [] := by
        rcases Nat.eq_zero_or_pos l0.length with h0 | h0
        · exact List.eq_nil_of_length_eq_zero h0
        · obtain ⟨ad, e, _⟩ := HR0.out.2.2 h0
          cases e
      subst hl0
      have hC := CloneT_none
      have hS := SortFunc_none
      go_enter Try.func34, Try.ntmps34
      go_wp2_with (first | (go_at_call 21; refine (HA.out _ ?hb1).mono ?_; (case hb1 => exact below_alloc (Below.refl _ _) _); rintro e w' ⟨rfl, hb'⟩; have HB := Aside0.mk hb'; clear hb') | (go_at_call 68; refine (hC _ _ _).mono ?_; rintro e w2 ⟨rfl, rfl⟩) | (go_at_call 69; refine (hS _).mono ?_; rintro e w3 ⟨rfl, rfl⟩))
      refine wp_loop_rounds 1 ?_
      rw [rounds_succ]
      go_wp2
      go_ret
      have e0 : (ordT ([] : List S61)).map (fun t => t.f0) = [] := by simp [ordT]
      rw [e0]
      refine ⟨_, rfl, ?_, (below_alloc (Below.refl _ w) _).trans (HB.out.mono (by simp))⟩
      exact Kd.R_below (Kd.R_of_own (World.ownsRow_made w #[] 0 (Nat.le_refl _) (Nat.zero_le _) rfl) (fun _ _ => trivial)) HB.out
    | some ad =>
      have hC := fun W hW => CloneT_calls ad c0 l0 W (Kd.C_below HR0.out hW) HL.out
      have hS := SortFunc_calls
      go_enter Try.func34, Try.ntmps34
      go_wp2_with (first | (go_at_call 21; refine (HA.out _ ?hb1).mono ?_; (case hb1 => exact below_alloc (Below.refl _ _) _); rintro e w1 ⟨rfl, hb'⟩; have HB := Aside0.mk ((below_alloc (Below.refl _ w) _).trans (hb'.mono (by simp)) : Below w.heap.size w w1); have HO := Aside0.mk (Kd.R_below (Kd.R_of_own (ok := fun _ => True) (e := 3) (enc := Value.int .i64) (h1 := fun _ => rfl) (xs := []) (World.ownsRow_made w #[] 0 (Nat.le_refl _) (Nat.zero_le _) rfl) (fun _ _ => trivial)) hb'); have HW1 := Aside0.mk (Nat.lt_of_lt_of_le (by simp : w.heap.size < (w.alloc (.cells #[] 3)).heap.size) hb'.size); clear hb') | (go_at_call 68; refine (hC _ HB.out).mono ?_; rintro e w2 ⟨g, cap, d, rfl, hds, hdk, hH, hg1, hg2, hb2⟩; have H2 := Aside0.mk hb2; have HK := Aside0.mk hdk; have HD := Aside0.mk hds; have HG := Aside0.mk hg1; have HH := Aside0.mk hH; have HG2 := Aside0.mk hg2; clear hb2 hdk hds hg1 hH hg2) | (go_at_call 69; refine (hS _ _ _ _ HH.out HG2.out (by rw [HD.out]; exact HL.out)).mono ?_; rintro e w3 ⟨rfl, d', n, os, hp, hs, hw3⟩; have HP := Aside0.mk hp; have HS := Aside0.mk hs; have HW3 := Aside0.mk hw3; clear hp hs hw3))
      have HR := Aside0.mk (sorted_ids HK.out HP.out HS.out)
      have hsz : d'.size = d.size := HP.out.1
      have HSZ := Aside0.mk (hsz.trans HD.out)
      have hb3 : Below w1.heap.size w1 w3 := by
        rw [HW3.out]
        exact sortW_below H2.out HG.out
      have HB3 := Aside0.mk (HB.out.trans (hb3.mono HB.out.size))
      have HO3 := Aside0.mk (Kd.R_below HO.out hb3)
      have HT3 : Aside0 (RowT w3 g d') := by
        refine ⟨?_, fun i hi j u hu => ?_⟩
        · rw [HW3.out]
          exact Nat.lt_of_lt_of_le HG2.out sortW_size
        · rw [HW3.out]
          have hj : j < 6 := (List.getElem?_eq_some_iff.1 hu).1
          have := (holdsK_sortWorldK_c TmA.cells 6 w2 g 0 d d' n os HH.out HG2.out hsz).cell hi hj
          rw [Nat.zero_add] at this
          have e1 : (TmA.cells d'[i]!)[j]! = u := by
            rw [getElem!_pos d' i hi, getElem!_pos _ j hj]
            exact (List.getElem?_eq_some_iff.1 hu).2
          rw [e1] at this
          exact this.1
      have hne : (Value.slice (some ⟨w.heap.size, 0, none⟩) 0 0).ownBlock ≠ some g := by
        simp only [Value.ownBlock, ne_eq, Option.some.injEq]
        have := HW1.out
        have := HG.out
        omega
      have HE := Aside0.mk hne
      clear hb3 hsz hne HW3 HH HO HB H2 HP HS HK hS hC
      go_loopg [3, 6, 18] d.size (fun gg v3 _ v18 wr => ∃ (kk : Nat), v18 = .int .i64 kk ∧ Aside0 (kk ≤ d.size ∧ d.size - kk ≤ gg) ∧ Aside0 (Kd.R (Kd.int .i64) 3 wr w.heap.size (fun _ => True) v3 ((d'.toList.map (fun x => x.f0)).take kk)) ∧ Aside0 (v3.ownBlock ≠ some g) ∧ Aside0 (RowT wr g d') ∧ Aside0 (Below w.heap.size w wr))
      case atStart => exact ⟨0, rfl, ⟨by omega⟩, HO3, HE, HT3, HB3⟩
      case round =>
        obtain ⟨kk, rfl, HI, HO, HE, HT, HB⟩ := hrel
        by_cases hlt : kk < d.size
        · have hltb : ((kk : Int) < (d.size : Int)) = True := eq_true (by omega)
          have hlt' : kk < d'.size := by rw [HSZ.out, ← HD.out]; exact hlt
          have HLT := Aside0.mk hlt
          have HLT' := Aside0.mk hlt'
          obtain ⟨x, hx⟩ : ∃ x, d'[kk] = x := ⟨_, rfl⟩
          have HX : Aside0 (d'[kk]? = some x) := ⟨by rw [← hx]; exact Array.getElem?_eq_getElem hlt'⟩
          have hc := HT.out.2 kk hlt'
          rw [hx] at hc
          have x0 : wr.cell? ⟨g, kk * 6, none⟩ = some (.int .i64 x.f0) := hc 0 _ rfl
          have x1 : wr.cell? ⟨g, kk * 6 + 1, none⟩ = some (.int .i64 x.f1) := hc 1 _ rfl
          have x2 : wr.cell? ⟨g, kk * 6 + 2, none⟩ = some (.int .i64 x.f2) := hc 2 _ rfl
          have x3 : wr.cell? ⟨g, kk * 6 + 3, none⟩ = some (.int .i64 x.f3) := hc 3 _ rfl
          have x4 : wr.cell? ⟨g, kk * 6 + 4, none⟩ = some (.int .i64 x.f4) := hc 4 _ rfl
          have x5 : wr.cell? ⟨g, kk * 6 + 5, none⟩ = some (.slice x.A x.n x.c) := hc 5 _ rfl
          clear hc hx hlt hlt'
          obtain ⟨ys, hys⟩ : ∃ ys, ys = (d'.toList.map (fun x => x.f0)).take kk := ⟨_, rfl⟩
          have HY := Aside0.mk hys
          have HO2 := HO.out
          rw [← hys] at HO2
          have HYL : Aside0 (ys.length ≤ 12) := ⟨by have := HLT.out; have := HD.out; have := HL.out; rw [hys]; simp; omega⟩
          clear hys HO
          have HO := Aside0.mk HO2
          clear HO2
          obtain ⟨A3, c3, e3⟩ := Kd.R_slice HO.out
          subst e3
          have hu61 := Try.underlying61
          have HW : Aside0 (wrap64 ((kk : Int) + 1) = ((kk + 1 : Nat) : Int)) := ⟨by have := HLT.out; have := HD.out; have := HL.out; unfold wrap64; omega⟩
          go_wp2_with (at_builtin; refine Kd.R_append (Kd.int .i64) (w0 := w) w.heap.size rfl (.tmp 22) (.tmp 25) 41 3 (.int .i64 0) 8 rfl Try.underlying41 (by kernel_rfl) rfl (by decide) (by omega) (.slice A3 ys.length c3) ys x.f0 [.int .i64 x.f0] (fun _ => True) (fun _ => False) rfl ?hx ?aP (fun _ h => h.elim) ?aF ?hO ?hB ?hs ?hl ?_; (case hx => exact congrArg (fun m => Value.slice (some ⟨m, 0, none⟩) 1 1) (by simp : wr.heap.size + 1 = (World.alloc _ _).heap.size)); (case aP => exact rfl); (case aF => exact fun _ _ => trivial); (case hO => exact Kd.R_alloc HO.out _); (case hB => exact below_alloc HB.out _); (case hs => exact Nat.le_trans HB.out.size (by simp)); (case hl => have := HYL.out; omega); intro v1 w4 hr hb hg hat; have H4 := Aside0.mk hr; have HB4 := Aside0.mk hb; have HG4 := Aside0.mk hg; have HAT := Aside0.mk hat; clear hr hb hg hat)
          go_roundg (d.size - (kk + 1))
          case measure => have := HI.out; have := HLT.out; omega
          case rel =>
            have hg := HT.out.1
            refine ⟨kk + 1, by rw [HW.out], ⟨by have := HLT.out; omega⟩, ⟨?_⟩, ⟨?_⟩, ⟨HT.out.step ?_ ?_⟩, HB4⟩
            · have e : (d'.toList.map (fun x => x.f0)).take (kk + 1) = (d'.toList.map (fun x => x.f0)).take kk ++ [x.f0] := by
                have hk : kk < (d'.toList.map (fun x => x.f0)).length := by simpa using HLT'.out
                rw [List.take_succ_eq_append_getElem hk]
                have := HX.out
                obtain ⟨_, hx⟩ := Array.getElem?_eq_some_iff.1 this
                simp [hx]
              rw [e, ← HY.out]
              exact H4.out
            · rcases HAT.out with e | ⟨b, e, hb⟩
              · rw [e]; exact HE.out
              · rw [e]
                simp only [ne_eq, Option.some.injEq]
                simp at hb
                omega
            · have := HG4.out.size
              simp at this
              omega
            · refine (HG4.out.block g (by simp; omega) (Ne.symm HE.out)).trans ?_
              exact heap_alloc_old _ _ hg
        · have hltb : ((kk : Int) < (d.size : Int)) = False := eq_false (by omega)
          have HLT := Aside0.mk hlt
          clear hlt
          go_wp2
          go_ret
          refine ⟨_, rfl, ?_, HB.out⟩
          have e : (d'.toList.map (fun x => x.f0)).take kk = (ordT l0).map (fun t => t.f0) := by
            rw [List.take_of_length_le (by have := HSZ.out; have := HD.out; have := HLT.out; simp; omega)]
            have := congrArg (List.map (fun k : K3 => k.2.2)) HR.out
            simpa [keyA, keyS, List.map_map, Function.comp_def] using this
          rw [← e]
          exact HO.out
end Go.Proofs.Ytiimiogpiflkdaa.A
end

section
namespace Go.Proofs.Ytiimiogpiflkdaa.A
open Go.RowKit Go.Proofs.YtiimiogpiflkdaaW.PrintWords Go.Proofs.YtiimiogpiflkdaaW.PrintLast Go.Proofs.YtiimiogpiflkdaaW.PrintMore
def bvL : Nat → Nat → List Bool
  | 0, _ => []
  | n + 1, m => (m % 2 == 1) :: bvL n (m / 2)
def bv (n m : Nat) : Array Bool := (bvL n m).toArray
theorem Z1 {α : Type} {l : List α} {i : Nat} {a : α} : l.toArray.setIfInBounds i a = (l.set i a).toArray := List.setIfInBounds_toArray ..
theorem Z2 {α : Type} {x : α} {l : List α} {a : α} : (x :: l).set 0 a = a :: l := rfl
theorem Z3 {α : Type} {x : α} {l : List α} {i : Nat} {a : α} : (x :: l).set (i + 1) a = x :: l.set i a := rfl
section
variable {P : Program} {ops : Array Oper} {Q : Exit → Act → World → Prop} {S : World → Prop} {ds : List Nat} {T : Bool × List (List Nat × List Nat)} {B : List Nat}
theorem pu_ (n i : Nat) (N : Tmp) (m : Nat) {oi : Oper} {fuel : Nat} {l : Array Bool} {a a' : Act} {w : World} (hi : ops[i]? = some oi) (hN : oi.dst = some N) (hT : Aside0 (rtab .any ops = T))
    (h : wpAnyLast P .any ops Q S ds fuel (bv n m) a' w)
    (hc : anyT T l.toList (bv n m).toList i = true := by kernel_rfl)
    (hQ : ∀ c a w, Q (.panic c) (a.put oi.dst undef) w → Q (.panic c) a w := by exact fun _ _ _ h => h)
    (hu : Region.wanted oi (yielded ops a.tmps) = false := by rfl)
    (ha : a.put (some N) undef = a' := by simp only [Act.put, Z1, Z2, Z3, i64_w, i32_w]; rfl) : wpAnyLast P .any ops Q S ds (fuel + 1) l a w :=
  pure_ (bv n m) hi hN (any_of hT.out hc) hQ (.inr ⟨hu, rfl⟩) ha h
theorem pv_ (n i : Nat) (N : Tmp) (m : Nat) {oi : Oper} {v : Value} {fuel : Nat} {l : Array Bool} {a a' : Act} {w : World} (hi : ops[i]? = some oi) (hN : oi.dst = some N) (hT : Aside0 (rtab .any ops = T))
    (h : wpAnyLast P .any ops Q S ds fuel (bv n m) a' w)
    (hc : anyT T l.toList (bv n m).toList i = true := by kernel_rfl)
    (hu : Region.wanted oi (yielded ops a.tmps) = true := by rfl)
    (hy : ∀ w, (execOp a.eval oi).run P w = .ok (.value v) w := by intro w'; go_simp; with_reducible rfl)
    (hQ : ∀ c a w, Q (.panic c) (a.put oi.dst v) w → Q (.panic c) a w := by exact fun _ _ _ h => h)
    (ha : a.put (some N) v = a' := by simp only [Act.put, Z1, Z2, Z3, i64_w, i32_w]; rfl) : wpAnyLast P .any ops Q S ds (fuel + 1) l a w :=
  pure_ (bv n m) hi hN (any_of hT.out hc) hQ (.inl ⟨hu, hy⟩) ha h
theorem tv_ (n i : Nat) (N : Tmp) (m : Nat) {oi : Oper} {v : Value} {fuel : Nat} {l : Array Bool} {a a' : Act} {w : World} (hi : ops[i]? = some oi) (hN : oi.dst = some N) (hT : Aside0 (rtab .any ops = T)) (hW : Aside0 (waitsOk T.2 B = true)) (hS : S w)
    (hy : ∀ w, S w → (execOp a.eval oi).run P w = .ok (.value v) w)
    (h : wpAnyLast P .any ops Q S ds fuel (bv n m) a' w)
    (hc : takeW T B ds l.toList (bv n m).toList i = true := by kernel_rfl)
    (hu : Region.wanted oi (yielded ops a.tmps) = true := by rfl)
    (hQ : ∀ c a w, Q (.panic c) (a.put oi.dst v) w → Q (.panic c) a w := by exact fun _ _ _ h => h)
    (ha : a.put (some N) v = a' := by simp only [Act.put, Z1, Z2, Z3, i64_w, i32_w]; rfl) : wpAnyLast P .any ops Q S ds (fuel + 1) l a w :=
  take_ (bv n m) hi hN (take_ofW hT.out hW.out hc) hQ (.inl ⟨hu, hy⟩) hS ha h
theorem nm_ (N : Tmp) {v : Value} {fuel : Nat} {l : Array Bool} {a a' : Act} {w : World} (h : wpAnyLast P .any ops Q S ds fuel l a' w)
    (ha : Act.put a (some N) v = a' := by simp only [Act.put, Z1, Z2, Z3, i64_w, i32_w]; rfl) : wpAnyLast P .any ops Q S ds fuel l (a.put (some N) v) w := norm_ ha h
end
end Go.Proofs.Ytiimiogpiflkdaa.A
end

section
set_option linter.unusedVariables false
set_option linter.unusedSimpArgs false
namespace Go.Proofs.Ytiimiogpiflkdaa.M
open Go Go.RowKit Go.Proofs.YtiimiogpiflkdaaW.PrintWords
structure MI (P : Nat → Prop) (w w' : World) : Prop where
  os : w'.os = w.os
  tape : w'.tape = w.tape
  output : w'.output = w.output
  size : w.heap.size ≤ w'.heap.size
  keep : ∀ k, k < w.heap.size → ¬ P k → w'.heap[k]? = w.heap[k]?
  int : ∀ p x, w.cell? p = some (.int .i64 x) → ∃ x', w'.cell? p = some (.int .i64 x')
  oth : ∀ p v, w.cell? p = some v → (∀ x, v ≠ .int .i64 x) → w'.cell? p = some v
  froz : ∀ p, p.block < w.heap.size → w'.frozen? p = w.frozen? p
theorem MI.refl (P : Nat → Prop) (w : World) : MI P w w := ⟨rfl, rfl, rfl, Nat.le_refl _, fun _ _ _ => rfl, fun _ x h => ⟨x, h⟩, fun _ _ h _ => h, fun _ _ => rfl⟩
theorem MI.trans {P : Nat → Prop} {a b c : World} (h : MI P a b) (k : MI P b c) : MI P a c where
  os := k.os.trans h.os
  tape := k.tape.trans h.tape
  output := k.output.trans h.output
  size := Nat.le_trans h.size k.size
  keep := fun i hi hn => (k.keep i (Nat.lt_of_lt_of_le hi h.size) hn).trans (h.keep i hi hn)
  int := fun p x hx => by
    obtain ⟨y, hy⟩ := h.int p x hx
    exact k.int p y hy
  oth := fun p v hv hn => k.oth p v (h.oth p v hv hn) hn
  froz := fun p hp => (k.froz p (Nat.lt_of_lt_of_le hp h.size)).trans (h.froz p hp)
theorem MI.drewN {P : Nat → Prop} {a b : World} (h : MI P a b) (n : Nat) : MI P a (b.drewN n) := ⟨h.os, h.tape, h.output, h.size, h.keep, h.int, h.oth, h.froz⟩
theorem MI.drew {P : Nat → Prop} {a b : World} (h : MI P a b) : MI P a b.drew := ⟨h.os, h.tape, h.output, h.size, h.keep, h.int, h.oth, h.froz⟩
theorem heap_set_ne {w : World} {g o k : Nat} {u : Value} (h : k ≠ g) : (w.setCell ⟨g, o, none⟩ u).heap[k]? = w.heap[k]? := by
  simp [World.setCell, Array.getElem?_modify, Ne.symm h]
theorem heap_set_size (w : World) (p : Addr) (u : Value) : (w.setCell p u).heap.size = w.heap.size := by simp [World.setCell]
theorem cell_set_ne {w : World} {g o : Nat} {q : Addr} {u : Value} (h : q.block = g → q.off ≠ o) : (w.setCell ⟨g, o, none⟩ u).cell? q = w.cell? q := by
  unfold World.cell? World.setCell
  simp only [Array.getElem?_modify]
  by_cases e : g = q.block
  · subst e
    simp only [if_true]
    cases w.heap[q.block]? with
    | none => rfl
    | some ob =>
      cases ob with
      | cells c t f =>
        simp only [Option.map_some]
        simp [Array.getElem?_setIfInBounds_ne (h rfl).symm]
      | _ => rfl
  · simp [e]
theorem frozen_set {w : World} {p q : Addr} {u : Value} : (w.setCell p u).frozen? q = w.frozen? q := by
  unfold World.frozen? World.setCell
  simp only [Array.getElem?_modify]
  by_cases e : p.block = q.block
  · simp only [e, if_true]
    cases w.heap[q.block]? with
    | none => rfl
    | some ob => cases ob <;> rfl
  · simp [e]
theorem cell_set_same {w : World} {g o : Nat} {v u : Value} (h : w.cell? ⟨g, o, none⟩ = some v) : (w.setCell ⟨g, o, none⟩ u).cell? ⟨g, o, none⟩ = some u := by
  unfold World.cell? World.setCell at *
  simp only [Array.getElem?_modify, if_true]
  cases e : w.heap[g]? with
  | none => simp [e] at h
  | some ob =>
    cases ob with
    | cells c t f =>
      simp [e] at h
      have := (Array.getElem?_eq_some_iff.1 h).1
      simp [this]
    | _ => simp [e] at h
theorem cell_spot {w : World} {p : Addr} {v : Value} (h : w.cell? p = some v) : p.spot = none := by
  unfold World.cell? at h
  split at h
  · split at h
    · cases h
    · rename_i hs
      simpa using hs
  · cases h
theorem MI.set {P : Nat → Prop} {a b : World} (h : MI P a b) {g o : Nat} {x : Int} (hg : P g) (hc : b.cell? ⟨g, o, none⟩ = some (.int .i64 x)) (y : Int) : MI P a (b.setCell ⟨g, o, none⟩ (.int .i64 y)) := by
  refine h.trans ⟨rfl, rfl, rfl, Nat.le_of_eq (heap_set_size _ _ _).symm, fun k _ hn => heap_set_ne (fun e => hn (e ▸ hg)), fun p x' hx => ?_, fun p v hv hn => ?_, fun p _ => frozen_set⟩
  · by_cases e : p.block = g ∧ p.off = o
    · have hs := cell_spot hx
      obtain ⟨pb, po, ps⟩ := p
      obtain ⟨rfl, rfl⟩ := e
      cases hs
      exact ⟨y, cell_set_same hx⟩
    · exact ⟨x', by rw [cell_set_ne (fun h1 h2 => e ⟨h1, h2⟩)]; exact hx⟩
  · refine (cell_set_ne (fun h1 h2 => ?_)).trans hv
    have hs := cell_spot hv
    obtain ⟨pb, po, ps⟩ := p
    cases h1
    cases h2
    cases hs
    rw [hv] at hc
    exact hn x (Option.some.inj hc)
theorem MI.kept {P : Nat → Prop} {a b : World} (h : MI P a b) : Kept a b P := ⟨h.size, h.keep⟩
theorem MI.below {P : Nat → Prop} {a b : World} (h : MI P a b) {w0 : World} (hb : Below w0.heap.size w0 a) (hp : ∀ k, P k → w0.heap.size ≤ k) : Below w0.heap.size w0 b :=
  hb.trans ⟨h.os, h.tape, h.output, h.size, fun k hk => h.keep k (Nat.lt_of_lt_of_le hk hb.size) (fun hq => by have := hp k hq; omega)⟩
def RowI (P : Nat → Prop) (w : World) (A : Option Addr) (n : Nat) : Prop := n ≤ 4611686018427387904 ∧ (0 < n → ∃ g, A = some ⟨g, 0, none⟩ ∧ P g ∧ g < w.heap.size ∧ ∀ j, j < n → (∃ x, w.cell? ⟨g, j, none⟩ = some (.int .i64 x)) ∧ w.frozen? ⟨g, j, none⟩ = false)
def RowS (m : Nat) (P : Nat → Prop) (w : World) (A : Option Addr) (ns : List Nat) : Prop :=
  ns.length ≤ 4611686018427387904 ∧ (0 < ns.length → ∃ g, A = some ⟨g, 0, none⟩ ∧ P g ∧ g < w.heap.size ∧ ∀ (i : Nat) (hi : i < ns.length), (∀ j, j < m → (∃ x, w.cell? ⟨g, i * (m + 1) + j, none⟩ = some (.int .i64 x)) ∧ w.frozen? ⟨g, i * (m + 1) + j, none⟩ = false) ∧ ∃ B c, w.cell? ⟨g, i * (m + 1) + m, none⟩ = some (.slice B ns[i] c) ∧ RowI P w B ns[i])
def tot (m : Nat) : List Nat → Nat
  | [] => 0
  | k :: r => m + k + tot m r
end Go.Proofs.Ytiimiogpiflkdaa.M
end

section
set_option linter.unusedVariables false
set_option linter.unusedSimpArgs false
namespace Go.Proofs.Ytiimiogpiflkdaa.A
open Go Go.RowKit Go.Proofs.YtiimiogpiflkdaaW.PrintWords Go.Proofs.YtiimiogpiflkdaaW.PrintLast Go.Proofs.YtiimiogpiflkdaaW.PrintMore
def loose {α : Type} (f : Nat → Nat) (d : Kd α) : Kd (α × Nat × Option (List Value)) where
  sz := d.sz
  E := d.E
  K := fun w y cs => (∀ c, y.2.2 = some c → cs = c ∧ cs.length = d.sz ∧ ∀ u ∈ cs, u.oneCell' = true) ∧ (y.2.2 = none → d.K w y.1 cs)
  M := fun w base ok y cs => (∀ c, y.2.2 = some c → cs = c ∧ cs.length = d.sz ∧ ∀ u ∈ cs, u.oneCell' = true) ∧ (y.2.2 = none → d.M w base (fun k => ok k ∧ f k = y.2.1) y.1 cs)
  K_len := fun {w y cs} h => by
    cases e : y.2.2 with
    | some c => exact (h.1 c e).2.1
    | none => exact d.K_len (h.2 e)
  K_one := fun {w y cs} h => by
    cases e : y.2.2 with
    | some c => exact (h.1 c e).2.2
    | none => exact d.K_one (h.2 e)
  K_below := fun hb h => ⟨h.1, fun e => d.K_below hb (h.2 e)⟩
  K_of_M := fun h => ⟨h.1, fun e => d.K_of_M (h.2 e)⟩
  M_mono := fun hok h => ⟨h.1, fun e => d.M_mono (fun k hk => ⟨hok k hk.1, hk.2⟩) (h.2 e)⟩
  M_bound := fun h => ⟨h.1, fun e => d.M_mono (fun _ hk => ⟨⟨hk.1.1, hk.2⟩, hk.1.2⟩) (d.M_bound (h.2 e))⟩
  M_move := fun hm h => ⟨h.1, fun e => d.M_move (fun k hk => hm k hk.1) (h.2 e)⟩
  M_lower := fun hb h => ⟨h.1, fun e => d.M_lower hb (h.2 e)⟩
section
variable {α : Type} {d : Kd α} {e base g n cap : Nat} {W : World} {ok ok' : Nat → Prop} {xs : List α}
theorem loosen (h : Kd.S d e W base ok (.slice (some ⟨g, 0, none⟩) n cap) xs) : ∃ (f : Nat → Nat) (c : Nat → List Value),
    (∀ q x, xs[q]? = some x → d.M W base (fun k => (ok k ∧ k ≠ g) ∧ f k = q) x (c q) ∧ ∀ j u, (c q)[j]? = some u → W.cell? ⟨g, q * d.sz + j, none⟩ = some u) ∧
    ∀ P : Nat → Bool, (loose f d).R e W base (fun k => ok k ∧ (k = g ∨ P (f k) = false)) (.slice (some ⟨g, 0, none⟩) n cap) (xs.zipIdx.map (fun p => (p.1, p.2, if P p.2 = true then some (c p.2) else none))) := by
  obtain ⟨f, h0, inner, ho, hr⟩ := h
  have hg : some g = (Value.slice (some ⟨g, 0, none⟩) n cap).ownBlock := by simp [Value.ownBlock]
  have hng : ∀ k, some k ≠ (Value.slice (some ⟨g, 0, none⟩) n cap).ownBlock ↔ k ≠ g := fun k => by rw [← hg]; simp
  have hM : ∀ q x, xs[q]? = some x → d.M W base (fun k => (ok k ∧ k ≠ g) ∧ f k = q) x ((inner.drop (q * d.sz)).take d.sz) := fun q x hq =>
    d.M_mono (fun k hk => ⟨⟨hk.1.1, (hng k).1 hk.1.2⟩, hk.2⟩) (hr.2 q (x, q) (Kd.zip_at hq))
  refine ⟨f, fun q => (inner.drop (q * d.sz)).take d.sz, fun q x hq => ⟨hM q x hq, fun j u hu => ?_⟩, fun P => ⟨fun k hk => ⟨h0 k hk, .inl ?_⟩, inner, ?_, ?_, fun q y hy => ?_⟩⟩
  · rw [List.getElem?_take] at hu
    split at hu
    · rw [List.getElem?_drop] at hu
      have := ho.cells (g := g) hg.symm _ u hu
      rwa [add_plain] at this
    · cases hu
  · rw [← hg] at hk
    injection hk with hk
    exact hk.symm
  · rw [List.length_map]
    exact ho
  · rw [List.length_map]
    exact hr.1
  · rw [List.getElem?_map, List.getElem?_zipIdx, Nat.zero_add] at hy
    obtain ⟨p, hp, rfl⟩ := Option.map_eq_some_iff.1 hy
    obtain ⟨x, hx, rfl⟩ := Option.map_eq_some_iff.1 hp
    have hm := hM q x hx
    refine ⟨fun c hc => ?_, fun hc => ?_⟩
    · simp only at hc
      split at hc
      · injection hc with hc
        exact ⟨hc, d.K_len (d.K_of_M hm), d.K_one (d.K_of_M hm)⟩
      · cases hc
    · simp only at hc
      split at hc
      · cases hc
      · rename_i hP
        refine d.M_mono (fun k hk => ⟨⟨⟨hk.1.1, .inr ?_⟩, (hng k).2 hk.1.2⟩, hk.2⟩) hm
        rw [hk.2]
        simpa using hP
open Classical in
theorem tighten {f : Nat → Nat} {okL : Nat → Prop} {ys : List (α × Nat × Option (List Value))} (h : (loose f d).R e W base okL (.slice (some ⟨g, 0, none⟩) n cap) ys) (hidx : ∀ (q : Nat) (y : α × Nat × Option (List Value)), ys[q]? = some y → y.2.1 = q) (okx : Nat → Nat → Prop)
    (hM : ∀ (q : Nat) (y : α × Nat × Option (List Value)) (c : List Value), ys[q]? = some y → y.2.2 = some c → d.M W base (okx q) y.1 c) (hdis : ∀ q r k, okx q k → okx r k → q = r) (hno : ∀ q k, okx q k → k ≠ g ∧ ¬ okL k) : Kd.S d e W base (fun _ => True) (.slice (some ⟨g, 0, none⟩) n cap) (ys.map (fun y => y.1)) := by
  obtain ⟨h0, inner, ho, hr⟩ := h
  have hg : some g = (Value.slice (some ⟨g, 0, none⟩) n cap).ownBlock := by simp [Value.ownBlock]
  have hng : ∀ k, some k ≠ (Value.slice (some ⟨g, 0, none⟩) n cap).ownBlock ↔ k ≠ g := fun k => by rw [← hg]; simp
  refine ⟨fun k => if hk : ∃ q, okx q k then hk.choose else f k, fun _ _ => trivial, inner, ?_, ?_, fun q p hp => ?_⟩
  · rw [List.length_zipIdx, List.length_map]
    exact ho
  · rw [List.length_zipIdx, List.length_map]
    exact hr.1
  · rw [List.getElem?_zipIdx, Nat.zero_add, List.getElem?_map] at hp
    obtain ⟨x, hx, rfl⟩ := Option.map_eq_some_iff.1 hp
    obtain ⟨y, hy, rfl⟩ := Option.map_eq_some_iff.1 hx
    have hm := hr.2 q y hy
    have hq := hidx q y hy
    show d.M W base _ y.1 ((inner.drop (q * d.sz)).take d.sz)
    cases ey : y.2.2 with
    | some c =>
      have hc := (hm.1 c ey).1
      rw [show (inner.drop (q * d.sz)).take d.sz = c from hc]
      refine d.M_mono (fun k hk => ⟨⟨trivial, (hng k).2 (hno q k hk).1⟩, ?_⟩) (hM q y c hy ey)
      have hk2 : ∃ q, okx q k := ⟨q, hk⟩
      exact (dif_pos hk2).trans (hdis _ _ k hk2.choose_spec hk)
    | none =>
      refine d.M_mono (fun k hk => ⟨⟨trivial, hk.1.2⟩, ?_⟩) (hm.2 ey)
      have hk2 : ¬ ∃ q, okx q k := fun ⟨r, hr⟩ => (hno r k hr).2 hk.1.1
      exact ((dif_neg hk2).trans hk.2).trans hq
end
def withMet (x : S61) (y : List Int) : S61 := ⟨x.f0, x.f1, x.f2, x.f3, x.f4, y⟩
theorem two_met {base g n cap : Nat} {W W2 : World} {xs : List S61} {i j : Int} {A1 B1 A2 B2 : Option Addr} {m1 m2 c1 c2 d1 d2 : Nat} {y1 y2 : List Int}
    (hS : Kd.S k61 61 W base (fun _ => True) (.slice (some ⟨g, 0, none⟩) n cap) xs) (hi : 0 ≤ i) (hi' : i < n) (hj : 0 ≤ j) (hj' : j < n) (hne : i ≠ j)
    (hci : W.cell? ⟨g, i.toNat * 6 + 5, none⟩ = some (.slice A1 m1 c1)) (hcj : W.cell? ⟨g, j.toNat * 6 + 5, none⟩ = some (.slice A2 m2 c2))
    (hk : ∀ k, k < W.heap.size → some k ≠ (Value.slice A1 m1 c1).ownBlock → some k ≠ (Value.slice A2 m2 c2).ownBlock → W2.heap[k]? = W.heap[k]?)
    (hR1 : Kd.R (Kd.int .i64) 3 W2 base (fun _ => True) (.slice B1 y1.length d1) y1) (hR2 : Kd.R (Kd.int .i64) 3 W2 base (fun _ => True) (.slice B2 y2.length d2) y2)
    (h1 : (Value.slice B1 y1.length d1).ownBlock = (Value.slice A1 m1 c1).ownBlock ∨ ∃ b, (Value.slice B1 y1.length d1).ownBlock = some b ∧ W.heap.size ≤ b)
    (h2 : (Value.slice B2 y2.length d2).ownBlock = (Value.slice A2 m2 c2).ownBlock ∨ ∃ b, (Value.slice B2 y2.length d2).ownBlock = some b ∧ W.heap.size ≤ b ∧ (Value.slice B1 y1.length d1).ownBlock ≠ some b) :
    W2.cell? ⟨g, i.toNat * 6 + 5, none⟩ = some (.slice A1 m1 c1) ∧ W2.frozen? ⟨g, i.toNat * 6 + 5, none⟩ = false ∧
    (W2.setCell ⟨g, i.toNat * 6 + 5, none⟩ (.slice B1 y1.length d1)).cell? ⟨g, j.toNat * 6 + 5, none⟩ = some (.slice A2 m2 c2) ∧
    (W2.setCell ⟨g, i.toNat * 6 + 5, none⟩ (.slice B1 y1.length d1)).frozen? ⟨g, j.toNat * 6 + 5, none⟩ = false ∧
    Kd.S k61 61 ((W2.setCell ⟨g, i.toNat * 6 + 5, none⟩ (.slice B1 y1.length d1)).setCell ⟨g, j.toNat * 6 + 5, none⟩ (.slice B2 y2.length d2)) base (fun _ => True) (.slice (some ⟨g, 0, none⟩) n cap)
      ((xs.set i.toNat (withMet (rd_T61 xs i) y1)).set j.toNat (withMet (rd_T61 (xs.set i.toNat (withMet (rd_T61 xs i) y1)) j) y2)) := by
  have hn := (Kd.S_reads' hS).1
  have hgl : g < W.heap.size := Kd.S_lt hS g rfl
  obtain ⟨f, c, hc, hL⟩ := loosen (Kd.S_mono (Kd.S_bound hS) (fun k hk => hk.2.2.1) : Kd.S k61 61 W base (fun k => k < W.heap.size) (.slice (some ⟨g, 0, none⟩) n cap) xs)
  obtain ⟨a, ha⟩ : ∃ a, i.toNat = a := ⟨_, rfl⟩
  obtain ⟨b, hb⟩ := (⟨j.toNat, rfl⟩ : ∃ b, j.toNat = b)
  have hal : a < xs.length := by omega
  have hbl : b < xs.length := by omega
  have hab : a ≠ b := by omega
  have hxa : rd_T61 xs i = xs[a] := by simp [rd_T61, ha, hal]
  have hxb : rd_T61 (xs.set i.toNat (withMet (rd_T61 xs i) y1)) j = xs[b] := by
    show (xs.set i.toNat _).getD j.toNat z61 = xs[b]
    rw [ha, hb, List.getD_eq_getElem?_getD, List.getElem?_set_ne hab, List.getElem?_eq_getElem hbl]
    rfl
  rw [hxb, hxa]
  simp only [ha, hb] at hci hcj ⊢
  obtain ⟨M1, C1⟩ := hc a _ (List.getElem?_eq_getElem hal)
  obtain ⟨M2, C2⟩ := hc b _ (List.getElem?_eq_getElem hbl)
  obtain ⟨v1, ev1, R1⟩ := k61_openM M1
  obtain ⟨v2, ev2, R2⟩ := k61_openM M2
  have e1 : v1 = .slice A1 m1 c1 := by
    have := C1 5 v1 (by rw [ev1]; rfl)
    rw [show (k61).sz = 6 from rfl, hci] at this
    injection this with this
    exact this.symm
  have e2 : v2 = .slice A2 m2 c2 := by
    have := C2 5 v2 (by rw [ev2]; rfl)
    rw [show (k61).sz = 6 from rfl, hcj] at this
    injection this with this
    exact this.symm
  subst e1 e2
  have hLP := hL (fun q => decide (q = a ∨ q = b))
  have hW2 : ∀ k, (k < W.heap.size ∧ (k = g ∨ decide (f k = a ∨ f k = b) = false)) → k < W.heap.size → W2.heap[k]? = W.heap[k]? := by
    rintro k ⟨_, hf⟩ hlt
    refine hk k hlt (fun e => ?_) (fun e => ?_)
    · have := R1.1 k e.symm
      rcases hf with hf | hf
      · exact this.1.2 hf
      · simp [this.2] at hf
    · have := R2.1 k e.symm
      rcases hf with hf | hf
      · exact this.1.2 hf
      · simp [this.2] at hf
  have hL2 := Kd.R_step hLP hW2
  have hgW : W2.heap[g]? = W.heap[g]? := hW2 g ⟨hgl, .inl rfl⟩ hgl
  have hcell : ∀ o, W2.cell? ⟨g, o, none⟩ = W.cell? ⟨g, o, none⟩ := fun o => World.cell?_of_block (a := ⟨g, o, none⟩) hgW
  obtain ⟨cells, hcs⟩ := Kd.S_typed hS g rfl
  have hfz : ∀ o, W2.frozen? ⟨g, o, none⟩ = false := fun o => by
    rw [World.frozen?_of_block (a := ⟨g, o, none⟩) hgW]
    exact blk_frozen hcs _
  have hcj2 : (W2.setCell ⟨g, a * 6 + 5, none⟩ (.slice B1 y1.length d1)).cell? ⟨g, b * 6 + 5, none⟩ = some (.slice A2 m2 c2) := (M.cell_set_ne (fun _ => by show b * 6 + 5 ≠ a * 6 + 5; omega)).trans ((hcell _).trans hcj)
  refine ⟨(hcell _).trans hci, hfz _, hcj2, M.frozen_set.trans (hfz _), ?_⟩
  -- the two stores, on the loose row
  have hzs : ∀ q x, xs[q]? = some x → (xs.zipIdx.map (fun p => (p.1, p.2, if (decide (p.2 = a ∨ p.2 = b)) = true then some (c p.2) else none)))[q]? = some (x, q, if q = a ∨ q = b then some (c q) else none) := fun q x hq => by
    rw [List.getElem?_map, Kd.zip_at hq]
    simp
  have hcc1 : ∀ j u, (c a)[j]? = some u → W2.cell? ⟨g, ((a : Nat) : Int).toNat * (loose f k61).sz + j, none⟩ = some u := fun j u hu => (hcell _).trans (C1 j u hu)
  obtain ⟨s1, g1⟩ := Kd.R_seg (d := loose f k61) hL2 ((a : Nat) : Int) (by omega) (by omega) (c := c a) (seg := [.slice B1 y1.length d1]) (j := 5) (by rw [ev1]; rfl) hcc1 (show 6 ≤ 6 from by decide)
    (x' := (withMet xs[a] y1, a, some [.int .i64 xs[a].f0, .int .i64 xs[a].f1, .int .i64 xs[a].f2, .int .i64 xs[a].f3, .int .i64 xs[a].f4, .slice B1 y1.length d1])) (okp := fun _ => False)
    ⟨fun z hz => by
      injection hz with hz
      subst hz
      rw [ev1]
      refine ⟨rfl, rfl, fun u hu => ?_⟩
      simp only [List.take_succ_cons, List.take_zero, List.cons_append, List.nil_append, List.length_cons, List.length_nil, List.drop_succ_cons, List.drop_zero, List.mem_cons, List.not_mem_nil, or_false, List.drop_nil, List.append_nil] at hu
      rcases hu with rfl | rfl | rfl | rfl | rfl | rfl <;> rfl, fun h => by cases h⟩ (fun _ h => h.elim)
  have hcc2 : ∀ j u, (c b)[j]? = some u → (W2.setCells g (((a : Nat) : Int).toNat * (loose f k61).sz + 5) [.slice B1 y1.length d1]).cell? ⟨g, ((b : Nat) : Int).toNat * (loose f k61).sz + j, none⟩ = some u := fun j u hu => by
    have hj6 : j < 6 := by
      have := (List.getElem?_eq_some_iff.1 hu).1
      rw [ev2] at this
      exact this
    refine (M.cell_set_ne (g := g) (o := a * 6 + 5) (fun _ => ?_)).trans ((hcell _).trans (C2 j u hu))
    show b * 6 + j ≠ a * 6 + 5
    omega
  obtain ⟨s2, g2⟩ := Kd.R_seg (d := loose f k61) s1 ((b : Nat) : Int) (by omega) (by omega) (c := c b) (seg := [.slice B2 y2.length d2]) (j := 5) (by rw [ev2]; rfl) hcc2 (show 6 ≤ 6 from by decide)
    (x' := (withMet xs[b] y2, b, some [.int .i64 xs[b].f0, .int .i64 xs[b].f1, .int .i64 xs[b].f2, .int .i64 xs[b].f3, .int .i64 xs[b].f4, .slice B2 y2.length d2])) (okp := fun _ => False)
    ⟨fun z hz => by
      injection hz with hz
      subst hz
      rw [ev2]
      refine ⟨rfl, rfl, fun u hu => ?_⟩
      simp only [List.take_succ_cons, List.take_zero, List.cons_append, List.nil_append, List.length_cons, List.length_nil, List.drop_succ_cons, List.drop_zero, List.mem_cons, List.not_mem_nil, or_false, List.drop_nil, List.append_nil] at hu
      rcases hu with rfl | rfl | rfl | rfl | rfl | rfl <;> rfl, fun h => by cases h⟩ (fun _ h => h.elim)
  -- the new rows' blocks
  have hB1 : ∀ k, (Value.slice B1 y1.length d1).ownBlock = some k → (k < W.heap.size ∧ k ≠ g ∧ f k = a) ∨ W.heap.size ≤ k := fun k hk => by
    rcases h1 with h1 | ⟨q, h1, hq⟩
    · have := R1.1 k (h1 ▸ hk)
      exact .inl ⟨this.1.1, this.1.2, this.2⟩
    · rw [h1] at hk
      injection hk with hk
      exact .inr (hk ▸ hq)
  have hB2 : ∀ k, (Value.slice B2 y2.length d2).ownBlock = some k → (k < W.heap.size ∧ k ≠ g ∧ f k = b) ∨ (W.heap.size ≤ k ∧ (Value.slice B1 y1.length d1).ownBlock ≠ some k) := fun k hk => by
    rcases h2 with h2 | ⟨q, h2, hq, hne⟩
    · have := R2.1 k (h2 ▸ hk)
      exact .inl ⟨this.1.1, this.1.2, this.2⟩
    · rw [h2] at hk
      injection hk with hk
      subst hk
      exact .inr ⟨hq, hne⟩
  have hn1 : ∀ k, (Value.slice B1 y1.length d1).ownBlock = some k → k ≠ g := fun k hk => by
    rcases hB1 k hk with h | h
    · exact h.2.1
    · omega
  have hn2 : ∀ k, (Value.slice B2 y2.length d2).ownBlock = some k → k ≠ g := fun k hk => by
    rcases hB2 k hk with h | h
    · exact h.2.1
    · omega
  have T1 : Kd.R (Kd.int .i64) 3 ((W2.setCells g (((a : Nat) : Int).toNat * (loose f k61).sz + 5) [.slice B1 y1.length d1]).setCells g (((b : Nat) : Int).toNat * (loose f k61).sz + 5) [.slice B2 y2.length d2]) base (fun k => some k = (Value.slice B1 y1.length d1).ownBlock) (.slice B1 y1.length d1) y1 :=
    Kd.R_step (Kd.R_step (Kd.R_tight rfl hR1) (fun k hk hlt => g1.block k hlt (fun e => hn1 k hk.symm (by injection e)))) (fun k hk hlt => g2.block k hlt (fun e => hn1 k hk.symm (by injection e)))
  have T2 : Kd.R (Kd.int .i64) 3 ((W2.setCells g (((a : Nat) : Int).toNat * (loose f k61).sz + 5) [.slice B1 y1.length d1]).setCells g (((b : Nat) : Int).toNat * (loose f k61).sz + 5) [.slice B2 y2.length d2]) base (fun k => some k = (Value.slice B2 y2.length d2).ownBlock) (.slice B2 y2.length d2) y2 :=
    Kd.R_step (Kd.R_step (Kd.R_tight rfl hR2) (fun k hk hlt => g1.block k hlt (fun e => hn2 k hk.symm (by injection e)))) (fun k hk hlt => g2.block k hlt (fun e => hn2 k hk.symm (by injection e)))
  have hys : ∀ q y, (((xs.zipIdx.map (fun p => (p.1, p.2, if (decide (p.2 = a ∨ p.2 = b)) = true then some (c p.2) else none))).set ((a : Nat) : Int).toNat (withMet xs[a] y1, a, some [.int .i64 xs[a].f0, .int .i64 xs[a].f1, .int .i64 xs[a].f2, .int .i64 xs[a].f3, .int .i64 xs[a].f4, .slice B1 y1.length d1])).set ((b : Nat) : Int).toNat (withMet xs[b] y2, b, some [.int .i64 xs[b].f0, .int .i64 xs[b].f1, .int .i64 xs[b].f2, .int .i64 xs[b].f3, .int .i64 xs[b].f4, .slice B2 y2.length d2]))[q]? = some y →
      (q = b ∧ y = (withMet xs[b] y2, b, some [.int .i64 xs[b].f0, .int .i64 xs[b].f1, .int .i64 xs[b].f2, .int .i64 xs[b].f3, .int .i64 xs[b].f4, .slice B2 y2.length d2])) ∨ (q = a ∧ y = (withMet xs[a] y1, a, some [.int .i64 xs[a].f0, .int .i64 xs[a].f1, .int .i64 xs[a].f2, .int .i64 xs[a].f3, .int .i64 xs[a].f4, .slice B1 y1.length d1])) ∨ (q ≠ a ∧ q ≠ b ∧ ∃ x, xs[q]? = some x ∧ y = (x, q, none)) := by
    intro q y hy
    rw [Int.toNat_natCast, Int.toNat_natCast] at hy
    by_cases eb : b = q
    · subst eb
      rw [List.getElem?_set_self (by simpa using hbl)] at hy
      exact .inl ⟨rfl, (Option.some.inj hy).symm⟩
    · rw [List.getElem?_set_ne eb] at hy
      by_cases ea : a = q
      · subst ea
        rw [List.getElem?_set_self (by simpa using hal)] at hy
        exact .inr (.inl ⟨rfl, (Option.some.inj hy).symm⟩)
      · rw [List.getElem?_set_ne ea] at hy
        have hl := (List.getElem?_eq_some_iff.1 hy).1
        rw [List.length_map, List.length_zipIdx] at hl
        have h3 := hzs q xs[q] (List.getElem?_eq_getElem hl)
        rw [h3] at hy
        rw [if_neg (by omega)] at hy
        exact .inr (.inr ⟨Ne.symm ea, Ne.symm eb, xs[q], List.getElem?_eq_getElem hl, (Option.some.inj hy).symm⟩)
  have hfin := tighten s2 (fun q y hy => by
      rcases hys q y hy with ⟨rfl, rfl⟩ | ⟨rfl, rfl⟩ | ⟨_, _, x, _, rfl⟩ <;> rfl)
    (fun q k => (q = a ∧ some k = (Value.slice B1 y1.length d1).ownBlock) ∨ (q = b ∧ some k = (Value.slice B2 y2.length d2).ownBlock))
    (fun q y z hy hz => by
      rcases hys q y hy with ⟨rfl, rfl⟩ | ⟨rfl, rfl⟩ | ⟨_, _, x, _, rfl⟩
      · injection hz with hz
        subst hz
        exact Kd.M_mono _ (fun k hk => .inr ⟨rfl, hk⟩) (k61_mkM _ _ _ (withMet xs[q] y2) T2)
      · injection hz with hz
        subst hz
        exact Kd.M_mono _ (fun k hk => .inl ⟨rfl, hk⟩) (k61_mkM _ _ _ (withMet xs[q] y1) T1)
      · cases hz)
    (fun q r k hq hr => by
      have hx : ∀ k, some k = (Value.slice B1 y1.length d1).ownBlock → some k = (Value.slice B2 y2.length d2).ownBlock → False := fun k h3 h4 => by
        rcases hB2 k h4.symm with h5 | h5
        · rcases hB1 k h3.symm with h6 | h6
          · exact hab (h6.2.2.symm.trans h5.2.2)
          · omega
        · exact h5.2 h3.symm
      rcases hq with ⟨rfl, hq⟩ | ⟨rfl, hq⟩ <;> rcases hr with ⟨rfl, hr⟩ | ⟨rfl, hr⟩
      · rfl
      · exact (hx k hq hr).elim
      · exact (hx k hr hq).elim
      · rfl)
    (fun q k hq => by
      rcases hq with ⟨rfl, hq⟩ | ⟨rfl, hq⟩
      · refine ⟨hn1 k hq.symm, fun h => ?_⟩
        rcases hB1 k hq.symm with h6 | h6
        · rcases h.2 with h7 | h7
          · exact h6.2.1 h7
          · simp [h6.2.2] at h7
        · omega
      · refine ⟨hn2 k hq.symm, fun h => ?_⟩
        rcases hB2 k hq.symm with h6 | h6
        · rcases h.2 with h7 | h7
          · exact h6.2.1 h7
          · simp [h6.2.2] at h7
        · omega)
  have hmap : ((xs.zipIdx.map (fun p => (p.1, p.2, if (decide (p.2 = a ∨ p.2 = b)) = true then some (c p.2) else none))).map (fun y : S61 × Nat × Option (List Value) => y.1)) = xs := by
    rw [List.map_map]
    exact List.zipIdx_map_fst 0 xs
  rw [List.map_set, List.map_set, hmap, Int.toNat_natCast, Int.toNat_natCast] at hfin
  exact hfin
theorem two_rows {base g n cap : Nat} {W : World} {xs : List S61} {i j : Int} {A1 A2 : Option Addr} {m1 m2 c1 c2 : Nat}
    (hS : Kd.S k61 61 W base (fun _ => True) (.slice (some ⟨g, 0, none⟩) n cap) xs) (hi : 0 ≤ i) (hi' : i < n) (hj : 0 ≤ j) (hj' : j < n) (hne : i ≠ j)
    (hci : W.cell? ⟨g, i.toNat * 6 + 5, none⟩ = some (.slice A1 m1 c1)) (hcj : W.cell? ⟨g, j.toNat * 6 + 5, none⟩ = some (.slice A2 m2 c2)) :
    Kd.R (Kd.int .i64) 3 W base (fun _ => True) (.slice A1 m1 c1) (rd_T61 xs i).f5 ∧ Kd.R (Kd.int .i64) 3 W base (fun _ => True) (.slice A2 m2 c2) (rd_T61 xs j).f5 ∧
      (∀ k, (Value.slice A1 m1 c1).ownBlock = some k → (Value.slice A2 m2 c2).ownBlock ≠ some k) ∧ (∀ k, (Value.slice A1 m1 c1).ownBlock = some k → k ≠ g) ∧ (∀ k, (Value.slice A2 m2 c2).ownBlock = some k → k ≠ g) := by
  have hn := (Kd.S_reads' hS).1
  obtain ⟨f, c, hc, _⟩ := loosen hS
  obtain ⟨a, ha⟩ : ∃ a, i.toNat = a := ⟨_, rfl⟩
  obtain ⟨b, hb⟩ := (⟨j.toNat, rfl⟩ : ∃ b, j.toNat = b)
  have hal : a < xs.length := by omega
  have hbl : b < xs.length := by omega
  have hab : a ≠ b := by omega
  have hxa : rd_T61 xs i = xs[a] := by simp [rd_T61, ha, hal]
  have hxb : rd_T61 xs j = xs[b] := by simp [rd_T61, hb, hbl]
  rw [hxb, hxa]
  simp only [ha, hb] at hci hcj
  obtain ⟨M1, C1⟩ := hc a _ (List.getElem?_eq_getElem hal)
  obtain ⟨M2, C2⟩ := hc b _ (List.getElem?_eq_getElem hbl)
  obtain ⟨v1, ev1, R1⟩ := k61_openM M1
  obtain ⟨v2, ev2, R2⟩ := k61_openM M2
  have e1 : v1 = .slice A1 m1 c1 := by
    have := C1 5 v1 (by rw [ev1]; rfl)
    rw [show (k61).sz = 6 from rfl, hci] at this
    injection this with this
    exact this.symm
  have e2 : v2 = .slice A2 m2 c2 := by
    have := C2 5 v2 (by rw [ev2]; rfl)
    rw [show (k61).sz = 6 from rfl, hcj] at this
    injection this with this
    exact this.symm
  subst e1 e2
  exact ⟨Kd.R_mono R1 (fun _ _ => trivial), Kd.R_mono R2 (fun _ _ => trivial), fun k h1 h2 => hab ((R1.1 k h1).2.symm.trans (R2.1 k h2).2), fun k h1 => (R1.1 k h1).1.2, fun k h2 => (R2.1 k h2).1.2⟩
theorem rd_other {xs : List S61} {i j : Int} {x : S61} (hi : 0 ≤ i) (hj : 0 ≤ j) (hne : i ≠ j) : rd_T61 (xs.set i.toNat x) j = rd_T61 xs j := by
  have : i.toNat ≠ j.toNat := by omega
  simp [rd_T61, List.getElem?_set_ne this]
theorem store_step {P : Program} {ops : Array Oper} {o : Oper} {a : Act} {Q : Exit → Act → World → Prop} {Kc : Act → World → Prop} {W w1 : World} (hw : Region.wanted o (yielded ops a.tmps) = true) (hN : o.dst = none) (hrun : (execOp a.eval o).run P W = .ok .skip w1) (h : Kc a w1) :
    if Region.wanted o (yielded ops a.tmps) = true then Oper.wp P o a W Kc Q else Kc (a.put o.dst undef) W := by
  rw [if_pos hw]
  unfold Oper.wp
  rw [hrun]
  show Kc (a.put o.dst undef) w1
  rw [hN]
  exact h
structure TwoF (w wd w' : World) (v1 v2 vi vj : Value) (y1 y2 : List Int) : Prop where
  below : Below w.heap.size w w'
  size : wd.heap.size ≤ w'.heap.size
  keep : ∀ k, k < wd.heap.size → some k ≠ vi.ownBlock → some k ≠ vj.ownBlock → w'.heap[k]? = wd.heap[k]?
  r1 : Kd.R (Kd.int .i64) 3 w' w.heap.size (fun _ => True) v1 y1
  r2 : Kd.R (Kd.int .i64) 3 w' w.heap.size (fun _ => True) v2 y2
  h1 : v1.ownBlock = vi.ownBlock ∨ ∃ b, v1.ownBlock = some b ∧ wd.heap.size ≤ b
  h2 : v2.ownBlock = vj.ownBlock ∨ ∃ b, v2.ownBlock = some b ∧ wd.heap.size ≤ b ∧ v1.ownBlock ≠ some b
structure TwoA (w wd W : World) (vi vj : Value) (xi xj : List Int) : Prop where
  below : Below w.heap.size w W
  new : Below wd.heap.size wd W
  r1 : Kd.R (Kd.int .i64) 3 W w.heap.size (fun _ => True) vi xi
  r2 : Kd.R (Kd.int .i64) 3 W w.heap.size (fun _ => True) vj xj
theorem TwoA.box {w wd W W1 : World} {vi vj : Value} {xi xj : List Int} (h : TwoA w wd W vi vj xi xj) (hb : Below W.heap.size W W1) : TwoA w wd W1 vi vj xi xj :=
  ⟨below_step h.below hb, below_step h.new hb, Kd.R_below h.r1 hb, Kd.R_below h.r2 hb⟩
structure TwoB (w wd W : World) (v1 vi vj : Value) (y1 xj : List Int) : Prop where
  below : Below w.heap.size w W
  size : wd.heap.size ≤ W.heap.size
  keep : ∀ k, k < wd.heap.size → some k ≠ vi.ownBlock → some k ≠ vj.ownBlock → W.heap[k]? = wd.heap[k]?
  r1 : Kd.R (Kd.int .i64) 3 W w.heap.size (fun _ => True) v1 y1
  r2 : Kd.R (Kd.int .i64) 3 W w.heap.size (fun _ => True) vj xj
  ap : ∀ k, v1.ownBlock = some k → vj.ownBlock ≠ some k
  h1 : v1.ownBlock = vi.ownBlock ∨ ∃ b, v1.ownBlock = some b ∧ wd.heap.size ≤ b
theorem TwoA.append {w wd W W1 : World} {v1 vi vj : Value} {y1 xi xj : List Int} (h : TwoA w wd W vi vj xi xj) (hap : ∀ k, vi.ownBlock = some k → vj.ownBlock ≠ some k)
    (ho : Kd.R (Kd.int .i64) 3 W1 w.heap.size (fun _ => True) v1 y1) (hb : Below w.heap.size w W1) (hg : W.grownBy W1 vi.ownBlock) (hat : v1.ownBlock = vi.ownBlock ∨ ∃ b, v1.ownBlock = some b ∧ W.heap.size ≤ b) : TwoB w wd W1 v1 vi vj y1 xj where
  below := hb
  size := Nat.le_trans h.new.size hg.size
  keep := fun k hk h1 _ => (hg.block k (Nat.lt_of_lt_of_le hk h.new.size) h1).trans (h.new.block k hk)
  r1 := ho
  r2 := Kd.R_mono (Kd.R_step (Kd.R_tight rfl h.r2) (fun k hk hlt => hg.block k hlt (fun e => hap k e.symm hk.symm))) (fun _ _ => trivial)
  ap := fun k h1 h2 => by
    rcases hat with e | ⟨b, e, hb⟩
    · exact hap k (e ▸ h1) h2
    · rw [e] at h1
      injection h1 with h1
      have := Kd.R_lt h.r2 k h2
      omega
  h1 := hat.imp id (fun ⟨b, e, hb⟩ => ⟨b, e, Nat.le_trans h.new.size hb⟩)
theorem TwoB.box {w wd W W1 : World} {v1 vi vj : Value} {y1 xj : List Int} (h : TwoB w wd W v1 vi vj y1 xj) (hb : Below W.heap.size W W1) : TwoB w wd W1 v1 vi vj y1 xj :=
  ⟨below_step h.below hb, Nat.le_trans h.size hb.size, fun k hk h1 h2 => (hb.block k (Nat.lt_of_lt_of_le hk h.size)).trans (h.keep k hk h1 h2), Kd.R_below h.r1 hb, Kd.R_below h.r2 hb, h.ap, h.h1⟩
theorem TwoB.append {w wd W W1 : World} {v1 v2 vi vj : Value} {y1 y2 xj : List Int} (h : TwoB w wd W v1 vi vj y1 xj)
    (ho : Kd.R (Kd.int .i64) 3 W1 w.heap.size (fun _ => True) v2 y2) (hb : Below w.heap.size w W1) (hg : W.grownBy W1 vj.ownBlock) (hat : v2.ownBlock = vj.ownBlock ∨ ∃ b, v2.ownBlock = some b ∧ W.heap.size ≤ b) : TwoF w wd W1 v1 v2 vi vj y1 y2 where
  below := hb
  size := Nat.le_trans h.size hg.size
  keep := fun k hk h1 h2 => (hg.block k (Nat.lt_of_lt_of_le hk h.size) h2).trans (h.keep k hk h1 h2)
  r1 := Kd.R_mono (Kd.R_step (Kd.R_tight rfl h.r1) (fun k hk hlt => hg.block k hlt (fun e => h.ap k hk.symm e.symm))) (fun _ _ => trivial)
  r2 := ho
  h1 := h.h1
  h2 := hat.imp id (fun ⟨b, e, hb⟩ => ⟨b, e, Nat.le_trans h.size hb, fun e2 => by have := Kd.R_lt h.r1 b e2; omega⟩)
end Go.Proofs.Ytiimiogpiflkdaa.A
end

section
namespace Go.Proofs.Ytiimiogpiflkdaa.A
open Go.RowKit Go.Proofs.YtiimiogpiflkdaaW.PrintWords Go.Proofs.YtiimiogpiflkdaaW.PrintLast Go.Proofs.YtiimiogpiflkdaaW.PrintMore
attribute [local go_sem] max2_int min2_int max_two min_two max_three min_three max_four min_four   -- for this text's walks alone
set_option linter.unusedVariables false
set_option linter.unusedSimpArgs false

theorem slices_Clone_int_int_nil {w : World} {a : Option Addr} {n c n' c' : Nat} : (binOp .eql 41 (.slice a n c) (.slice none n' c')).run Try.prog w = .ok (.bool a.isNone) w := by
  have e : ∀ d, (Op.equalIn (d + 1) 41 (.slice a n c) (.slice none n' c')).run Try.prog w = .ok a.isNone w := by
    intro d
    cases a <;> simp [Op.equalIn, run_underlying Try.underlying41]
  simp only [binOp]
  simp [Op.equal, Op.maxDepth, e 9999]
theorem slices_Clone_int_int_alloc {W : World} {a : Addr} {v : Value} (o : Obj) (h : W.cell? a = some v) : (W.alloc o).cell? a = some v := by
  have hlt : a.block < W.heap.size := World.block_lt_of_cell? W a h
  rw [← h]
  simp only [World.cell?, World.alloc, Array.getElem?_push, Nat.ne_of_lt hlt, if_false]
def slices_Clone_int_int.f (l0 : List Int) : Option (List Int) := if l0.length < 17592186044416 then some l0 else none
set_option maxHeartbeats 2000000 in
set_option maxRecDepth 100000 in
theorem slices_Clone_int_int.calls (A0 : Option Addr) (c0 : Nat) (l0 : List Int) (r : List Int) (w : World) (hr0 : Kd.C (Kd.int .i64) w A0 l0.length l0) (hc0 : l0.length ≤ c0) (h : slices_Clone_int_int.f l0 = some r) :
  Calls Try.prog 88 #[.slice A0 l0.length c0] w fun e w' => ∃ v0_, e = .returned v0_ ∧ Kd.R (Kd.int .i64) 3 w' w.heap.size (fun _ => True) v0_ r ∧ Below w.heap.size w w' := by
 have hf : l0.length < 17592186044416 ∧ l0 = r := by
  unfold slices_Clone_int_int.f at h
  split at h
  ·
   exact ⟨by assumption, Option.some.inj h⟩
  ·
   cases h
 obtain ⟨hlen, rfl⟩ := hf
 clear h
 have q41 : ∀ (w : World) (a : Option Addr) (n c n' c' : Nat), (binOp .eql 41 (.slice a n c) (.slice none n' c')).run Try.prog w = .ok (.bool a.isNone) w := fun w a n c n' c' => slices_Clone_int_int_nil
 have u41 : ∀ w, Sem.run Try.prog (underlying 41) w = .ok (TypeDesc.slice 3) w := run_underlying Try.underlying41
 obtain ⟨i0, hi, hzz⟩ := Option.map_eq_some_iff.1 (show (Try.prog.info? 3).map (fun i => (i.zero, i.size, i.bytes)) = some (some (.int .i64 0), 1, 8) by kernel_rfl)
 simp only [Prod.mk.injEq] at hzz
 obtain ⟨hz0, hz1, hz2⟩ := hzz
 cases A0 with
 | none =>
  have hl0 : l0 = [] := by
   rcases Nat.eq_zero_or_pos l0.length with h0 | h0
   ·
    exact List.eq_nil_of_length_eq_zero h0
   ·
    obtain ⟨ad, e, _⟩ := hr0.2.2 h0
    cases e
  subst hl0
  clear hr0 hc0
  go_enter Try.func88, Try.ntmps88
  go_wp2
  go_ret
  exact ⟨_, rfl, Kd.R_nil _ _ _ _ _, Below.refl _ _⟩
 | some ad =>
  have HC := Aside0.mk hr0
  have HL := Aside0.mk hlen
  clear hr0 hc0 hlen
  go_enter Try.func88, Try.ntmps88
  go_wp2_with (at_builtin; refine wpList_append_own _ rfl _ _ 41 rfl w.heap.size 3 i0 (.int .i64 0) 1 8 Try.underlying41 hi hz0 hz1 hz2 rfl (by decide) _ _ _ rfl (World.ownsRow_made w #[] 0 (Nat.le_refl _) (Nat.zero_le _) rfl) ad l0.length c0 (l0.map (Value.int .i64)) rfl ?qc1 ?qc2 ?qc3 ?qc4 ?qc5 ?qc6 ?_)
  case qc1 => simp
  case qc2 =>
   intro j u hj
   refine slices_Clone_int_int_alloc _ ?_
   rw [List.getElem?_map] at hj
   obtain ⟨x, hx, rfl⟩ := Option.map_eq_some_iff.1 hj
   have hjl : j < l0.length := (List.getElem?_eq_some_iff.1 hx).1
   obtain ⟨ad', e, hc⟩ := HC.out.2.2 (by omega)
   cases e
   obtain ⟨c, hc1, hc2, hc3⟩ := hc j x hx
   have hc2' : c = [Value.int .i64 x] := hc2
   subst hc2'
   have := hc3 0 (.int .i64 x) rfl
   have e1 : (Kd.int .i64).sz = 1 := rfl
   simpa [e1] using this
  case qc3 => intro u hu; obtain ⟨x, _, rfl⟩ := List.mem_map.1 hu; rfl
  case qc4 => have := HL.out; unfold maxLen; omega
  case qc5 => have := HL.out; omega
  case qc6 => simp
  intro v' w1 hown hgrow hnil
  have HO := Aside0.mk hown
  have HG := Aside0.mk hgrow
  clear hown hgrow hnil
  go_wp2
  go_ret
  refine ⟨v', rfl, Kd.R_of_own (by simpa [encs] using HO.out) (fun _ _ => trivial), ?_⟩
  exact ((Below.refl _ w).alloc (Nat.le_refl _) _).grown HG.out (by simp) (by intro k hk; simp [Value.ownBlock] at hk; omega)
end Go.Proofs.Ytiimiogpiflkdaa.A
end

section
namespace Go.Proofs.Ytiimiogpiflkdaa.A
open Go.RowKit Go.Proofs.YtiimiogpiflkdaaW.PrintWords Go.Proofs.YtiimiogpiflkdaaW.PrintLast Go.Proofs.YtiimiogpiflkdaaW.PrintMore
attribute [local go_sem] max2_int min2_int max_two min_two max_three min_three max_four min_four   -- for this text's walks alone
set_option linter.unusedVariables false
set_option linter.unusedSimpArgs false
def impl_cloneTeams.l0 : Nat → List (S61) → List (S61) → Int → Int → Option ((List (S61)))
  | 0, _, _, _, _ => none
  | k + 1, x3, x7, x8, x9 => if x9 < x8 then (if 0 ≤ x9 then (if x9 < (x7.length : Int) then ((slices_Clone_int_int.f ((rd_T61 x7 x9).f5)).bind fun t193 => (if x3.length < 2199023255552 then (impl_cloneTeams.l0 k (x3 ++ [(⟨(rd_T61 x7 x9).f0, (rd_T61 x7 x9).f1, (rd_T61 x7 x9).f2, (rd_T61 x7 x9).f3, (rd_T61 x7 x9).f4, t193⟩ : S61)]) x7 x8 (wrap64 (x9 + 1))) else (none))) else (none)) else (none)) else (some x3)
def impl_cloneTeams.f (k : Nat) (l0 : List (S61)) : Option ((List (S61))) := impl_cloneTeams.l0 k (([] : List (S61))) l0 (l0.length : Int) 0
set_option maxHeartbeats 8000000 in
set_option maxRecDepth 100000 in
theorem impl_cloneTeams.calls (k : Nat) (A0 : Option Addr) (c0 : Nat) (l0 : List (S61)) (r : List (S61)) (w : World) (hr0 : Kd.C k61 w A0 l0.length l0) (hc0 : l0.length ≤ c0) (h : impl_cloneTeams.f k l0 = some r) :
  Calls Try.prog 75 #[.slice A0 l0.length c0] w fun e w' => ∃ v0_ : Value, e = .returned (v0_) ∧ Kd.S k61 61 w' w.heap.size (fun _ => True) v0_ r ∧ Below w.heap.size w w' := by
 have hu61 := Try.underlying61
 have HR0 := Aside0.mk hr0
 have HC0 := Aside0.mk hc0
 clear hr0 hc0
 have HB := Aside0.mk (Below.refl w.heap.size w)
 have H : (impl_cloneTeams.l0 k (([] : List (S61))) l0 (l0.length : Int) 0) = some r := h
 clear h
 obtain ⟨y188, hy188⟩ : ∃ y_ : List (S61), y_ = (([] : List (S61))) := ⟨_, rfl⟩
 replace H : (impl_cloneTeams.l0 k y188 l0 (l0.length : Int) 0) = some r := by first | (rw [hy188]; with_reducible exact H) | (have H2_ := (Option.bind_some _ _).symm.trans H; rw [hy188]; with_reducible exact H2_) | (have H2_ := (Option.bind_some _ _).symm.trans H; with_reducible exact H2_) | with_reducible exact H | (rw [hy188]; exact H) | exact H
 have Ny188 := Aside0.mk hy188
 clear hy188
 have H' := Aside0.mk H
 clear H
 go_enter Try.func75, Try.ntmps75
 go_wp2_with (first | ((with_reducible refine gate_dst (N := 6) rfl ?_); refine Kd.S_lit k61 _ 61 ?hg (N := 6) ?hd (xs := ([] : List (S61))) (inner := []) (ok := fun _ => True) (okp := fun _ => True) ?hr ?hp (fun _ hk => hk) trivial (Below.refl _ _) (Nat.le_refl _) (by simp) ?_; (case hd => rfl); (case hg => rfl); (case hr => first | (go_simp; done) | (go_simp; rfl)); (case hp => exact (Reps.none _ _)); intro v189 w2 ho3 hb hg_ hnew_; clear hg_ hnew_; (first | rw [← Ny188.out] at ho3 | (simp only [Int.reduceToNat] at ho3; rw [← Ny188.out] at ho3)); have n0_ := Aside0.mk (Kd.S_lower ho3 (below_size (by repeat (first | (with_reducible first | exact HB.out | apply below_alloc | apply pw_below_drewN | apply below_drew1) | exact HB.out)))); have n1_ := Aside0.mk (below_step (by repeat (first | (with_reducible first | exact HB.out | apply below_alloc | apply pw_below_drewN | apply below_drew1) | exact HB.out)) hb); clear HB; have HO190 := n0_; have HB := n1_; clear n0_ n1_; clear hb ho3))
 go_loopg [3, 9] k (fun kq v3 v9 w' => ∃ (x3_1 : List (S61)) (x9_1 : Int), v9 = .int .i64 x9_1 ∧ Aside0 (impl_cloneTeams.l0 kq x3_1 l0 (l0.length : Int) x9_1 = some r) ∧ Aside0 (kq ≤ k) ∧ Aside0 (Kd.S k61 61 w' w.heap.size (fun _ => True) v3 x3_1) ∧ Aside0 (Below w.heap.size w w'))
 case atStart => exact ⟨(y188), (0), (by first | rfl | (simp; done) | (simp [*]; done)), H', ⟨Nat.le_refl _⟩, ⟨by (with_reducible repeat (first | apply Kd.S_alloc | apply Kd.S_drewN | apply Kd.S_drew)); exact HO190.out⟩, ⟨by repeat (first | (with_reducible first | exact HB.out | apply below_alloc | apply pw_below_drewN | apply below_drew1) | exact HB.out)⟩⟩
 case round =>
  clear H'
  try clear p2
  obtain ⟨x3_1, x9_1, rfl, HA, HK1, HO_3, HB⟩ := hrel
  cases gk with
  | zero => exact absurd HA.out (by simp [impl_cloneTeams.l0])
  | succ k1 =>
   have H := HA.out
   clear HA
   simp only [impl_cloneTeams.l0] at H
   by_cases c4 : x9_1 < (l0.length : Int)
   ·
    rw [if_pos c4] at H
    have c4b0 : decide (x9_1 < (l0.length : Int)) = true := decide_eq_true c4
    clear c4
    by_cases c5 : 0 ≤ x9_1
    ·
     rw [if_pos c5] at H
     have c5b0 : decide (0 ≤ x9_1) = true := decide_eq_true c5
     clear c5
     by_cases c6 : x9_1 < (l0.length : Int)
     ·
      rw [if_pos c6] at H
      have c6b0 : decide (x9_1 < (l0.length : Int)) = true := decide_eq_true c6
      clear c6
      replace H := Option.bind_eq_some_iff.mp H
      obtain ⟨t193, A70, H⟩ := H
      replace H : (if x3_1.length < 2199023255552 then (impl_cloneTeams.l0 k1 (x3_1 ++ [(⟨(rd_T61 l0 x9_1).f0, (rd_T61 l0 x9_1).f1, (rd_T61 l0 x9_1).f2, (rd_T61 l0 x9_1).f3, (rd_T61 l0 x9_1).f4, t193⟩ : S61)]) l0 (l0.length : Int) (wrap64 (x9_1 + 1))) else (none)) = some r := H
      have A7 := Aside0.mk A70
      clear A70
      by_cases c8 : x3_1.length < 2199023255552
      ·
       rw [if_pos c8] at H
       have LMc8 := Aside0.mk c8
       clear c8
       obtain ⟨y196, hy196⟩ : ∃ y_ : List (S61), y_ = (x3_1 ++ [(⟨(rd_T61 l0 x9_1).f0, (rd_T61 l0 x9_1).f1, (rd_T61 l0 x9_1).f2, (rd_T61 l0 x9_1).f3, (rd_T61 l0 x9_1).f4, t193⟩ : S61)]) := ⟨_, rfl⟩
       replace H : (impl_cloneTeams.l0 k1 y196 l0 (l0.length : Int) (wrap64 (x9_1 + 1))) = some r := by first | (rw [hy196]; with_reducible exact H) | (have H2_ := (Option.bind_some _ _).symm.trans H; rw [hy196]; with_reducible exact H2_) | (have H2_ := (Option.bind_some _ _).symm.trans H; with_reducible exact H2_) | with_reducible exact H | (rw [hy196]; exact H) | exact H
       have Ny196 := Aside0.mk hy196
       clear hy196
       have H' := Aside0.mk H
       clear H
       have p191 : 0 ≤ (x9_1 : Int) := of_decide_eq_true (by first | (with_reducible assumption) | assumption)
       have q191 : x9_1 < (l0.length : Int) := of_decide_eq_true (by first | (with_reducible assumption) | assumption)
       obtain ⟨ad191, A191_5, c191_5, e191, hx191_0, hx191_1, hx191_2, hx191_3, hx191_4, hx191_5, hl191_5, hi191_5⟩ := at_T61 HR0.out x9_1 p191 q191
       cases e191
       replace hx191_0 := (HB.out.cell (World.block_lt_of_cell? w _ hx191_0)).trans hx191_0
       replace hx191_1 := (HB.out.cell (World.block_lt_of_cell? w _ hx191_1)).trans hx191_1
       replace hx191_2 := (HB.out.cell (World.block_lt_of_cell? w _ hx191_2)).trans hx191_2
       replace hx191_3 := (HB.out.cell (World.block_lt_of_cell? w _ hx191_3)).trans hx191_3
       replace hx191_4 := (HB.out.cell (World.block_lt_of_cell? w _ hx191_4)).trans hx191_4
       replace hx191_5 := (HB.out.cell (World.block_lt_of_cell? w _ hx191_5)).trans hx191_5
       have HR191_5 := Aside0.mk hi191_5
       have HC191_5 := Aside0.mk hl191_5
       clear hi191_5 hl191_5
       replace p191 := eq_true p191
       replace q191 := eq_true q191
       go_wp2_with (first | ((with_reducible refine gate_dst (N := 5) rfl ?_); refine box_event ?hg (N := 5) ?hd (cs := #[.int .i64 0, .int .i64 0, .int .i64 0, .int .i64 0, .int .i64 0, .slice none 0 0]) (t := 61) ?hr ?_; (case hd => rfl); (case hg => rfl); (case hr => first | (go_simp; done) | (go_simp; rfl)); intro gb192 hg w9 hbox hb; have n0_ := Aside0.mk (Kd.S_below (Kd.S_elderB (by (with_reducible repeat (first | apply Kd.S_alloc | apply Kd.S_drewN | apply Kd.S_drew)); exact HO_3.out) gb192 (Nat.le_of_eq hg.symm)) hb); have n1_ := Aside0.mk (below_step (by repeat (first | (with_reducible first | exact HB.out | apply below_alloc | apply pw_below_drewN | apply below_drew1) | exact HB.out)) hb); have n2_ := Aside0.mk (hbox); have n3_ := Aside0.mk ((by rw [hg]; exact (below_size (by repeat (first | (with_reducible first | exact HB.out | apply below_alloc | apply pw_below_drewN | apply below_drew1) | exact HB.out))) : w.heap.size ≤ gb192)); have n4_ := Aside0.mk ((by rw [hg]; exact (below_size (by repeat (first | (with_reducible first | exact HB.out | apply below_alloc | apply pw_below_drewN | apply below_drew1) | exact HB.out))) : w.heap.size ≤ gb192)); clear HO_3; clear HB; have HO_3 := n0_; have HB := n1_; have BK192 := n2_; have GW192 := n3_; have GE192 := n4_; clear n0_ n1_ n2_ n3_ n4_; clear hb hbox hg; have hcz10_0 : w9.cell? ⟨gb192, 0, none⟩ = some (.int .i64 0) := (blk_cell BK192.out 0).trans rfl; have hcz10_1 : w9.cell? ⟨gb192, 1, none⟩ = some (.int .i64 0) := (blk_cell BK192.out 1).trans rfl; have hcz10_2 : w9.cell? ⟨gb192, 2, none⟩ = some (.int .i64 0) := (blk_cell BK192.out 2).trans rfl; have hcz10_3 : w9.cell? ⟨gb192, 3, none⟩ = some (.int .i64 0) := (blk_cell BK192.out 3).trans rfl; have hcz10_4 : w9.cell? ⟨gb192, 4, none⟩ = some (.int .i64 0) := (blk_cell BK192.out 4).trans rfl; have hcz10_5 : w9.cell? ⟨gb192, 5, none⟩ = some (.slice none 0 0) := (blk_cell BK192.out 5).trans rfl; have hfz10_0 := blk_frozen BK192.out 0; have hfz10_1 := blk_frozen BK192.out 1; have hfz10_2 := blk_frozen BK192.out 2; have hfz10_3 := blk_frozen BK192.out 3; have hfz10_4 := blk_frozen BK192.out 4; have hfz10_5 := blk_frozen BK192.out 5) | ((with_reducible refine gate_callee (f := 88) rfl ?_); refine goesL_ (some 15) rfl rfl Try.func88 (by kernel_rfl) rfl #[.slice A191_5 ((rd_T61 l0 x9_1).f5).length c191_5] rfl (by (try simp only [List.map_toArray, List.map_cons, List.map_nil]); first | done | rfl | (simp only [List.length_drop, List.length_take]; rfl)) ?_; (with_reducible refine (slices_Clone_int_int.calls _ _ ((rd_T61 l0 x9_1).f5) t193 _ ?side1 ?side2 A7.out).mono ?_); (case side1 => exact Kd.C_below HR191_5.out (by repeat (first | (with_reducible first | exact HB.out | apply below_alloc | apply pw_below_drewN | apply below_drew1 | refine below_set ?_ GE192.out) | exact HB.out))); (case side2 => exact HC191_5.out); rintro e w11 ⟨v194, rfl, ho0, hb⟩; refine ⟨_, rfl, ?_⟩; have n0_ := Aside0.mk (Kd.S_elder' (by (with_reducible repeat (first | apply Kd.S_alloc | apply Kd.S_drewN | apply Kd.S_drew)); exact (Kd.S_mono (Kd.S_far (p := ⟨gb192, 5, none⟩) (Kd.S_far (p := ⟨gb192, 4, none⟩) (Kd.S_far (p := ⟨gb192, 3, none⟩) (Kd.S_far (p := ⟨gb192, 2, none⟩) (Kd.S_far (p := ⟨gb192, 1, none⟩) (Kd.S_far (p := ⟨gb192, 0, none⟩) (Kd.S_mono HO_3.out (fun k_ hk => (⟨hk, hk.2⟩ : _ ∧ k_ ≠ gb192))) (fun _ hk => hk.2) (.int .i64 ((rd_T61 l0 x9_1).f0))) (fun _ hk => hk.2) (.int .i64 ((rd_T61 l0 x9_1).f1))) (fun _ hk => hk.2) (.int .i64 ((rd_T61 l0 x9_1).f2))) (fun _ hk => hk.2) (.int .i64 ((rd_T61 l0 x9_1).f3))) (fun _ hk => hk.2) (.int .i64 ((rd_T61 l0 x9_1).f4))) (fun _ hk => hk.2) (.slice A191_5 ((rd_T61 l0 x9_1).f5).length c191_5)) (fun _ h_ => h_.1))) (Kd.R_base ho0) hb); have n1_ := Aside0.mk (Kd.R_lower ho0 (below_size (by repeat (first | (with_reducible first | exact HB.out | apply below_alloc | apply pw_below_drewN | apply below_drew1 | refine below_set ?_ GE192.out) | exact HB.out)))); have n2_ := Aside0.mk (blk_below (g := gb192) (o := .cells #[.int .i64 ((rd_T61 l0 x9_1).f0), .int .i64 ((rd_T61 l0 x9_1).f1), .int .i64 ((rd_T61 l0 x9_1).f2), .int .i64 ((rd_T61 l0 x9_1).f3), .int .i64 ((rd_T61 l0 x9_1).f4), .slice A191_5 ((rd_T61 l0 x9_1).f5).length c191_5] 61 (0, 0)) (by (with_reducible repeat (first | refine blk_drewN ?_ _ | refine blk_drew ?_ | refine blk_alloc ?_ _)); refine blk_put (cs := #[.int .i64 ((rd_T61 l0 x9_1).f0), .int .i64 ((rd_T61 l0 x9_1).f1), .int .i64 ((rd_T61 l0 x9_1).f2), .int .i64 ((rd_T61 l0 x9_1).f3), .int .i64 ((rd_T61 l0 x9_1).f4), .slice none 0 0]) ?_ 5 _ rfl; (with_reducible repeat (first | refine blk_drewN ?_ _ | refine blk_drew ?_ | refine blk_alloc ?_ _)); refine blk_put (cs := #[.int .i64 ((rd_T61 l0 x9_1).f0), .int .i64 ((rd_T61 l0 x9_1).f1), .int .i64 ((rd_T61 l0 x9_1).f2), .int .i64 ((rd_T61 l0 x9_1).f3), .int .i64 0, .slice none 0 0]) ?_ 4 _ rfl; (with_reducible repeat (first | refine blk_drewN ?_ _ | refine blk_drew ?_ | refine blk_alloc ?_ _)); refine blk_put (cs := #[.int .i64 ((rd_T61 l0 x9_1).f0), .int .i64 ((rd_T61 l0 x9_1).f1), .int .i64 ((rd_T61 l0 x9_1).f2), .int .i64 0, .int .i64 0, .slice none 0 0]) ?_ 3 _ rfl; (with_reducible repeat (first | refine blk_drewN ?_ _ | refine blk_drew ?_ | refine blk_alloc ?_ _)); refine blk_put (cs := #[.int .i64 ((rd_T61 l0 x9_1).f0), .int .i64 ((rd_T61 l0 x9_1).f1), .int .i64 0, .int .i64 0, .int .i64 0, .slice none 0 0]) ?_ 2 _ rfl; (with_reducible repeat (first | refine blk_drewN ?_ _ | refine blk_drew ?_ | refine blk_alloc ?_ _)); refine blk_put (cs := #[.int .i64 ((rd_T61 l0 x9_1).f0), .int .i64 0, .int .i64 0, .int .i64 0, .int .i64 0, .slice none 0 0]) ?_ 1 _ rfl; (with_reducible repeat (first | refine blk_drewN ?_ _ | refine blk_drew ?_ | refine blk_alloc ?_ _)); refine blk_put (cs := #[.int .i64 0, .int .i64 0, .int .i64 0, .int .i64 0, .int .i64 0, .slice none 0 0]) ?_ 0 _ rfl; (with_reducible repeat (first | refine blk_drewN ?_ _ | refine blk_drew ?_ | refine blk_alloc ?_ _)); exact BK192.out) hb); have n3_ := Aside0.mk (below_step (by repeat (first | (with_reducible first | exact HB.out | apply below_alloc | apply pw_below_drewN | apply below_drew1 | refine below_set ?_ GE192.out) | exact HB.out)) hb); clear HO_3; clear BK192; clear HB; have HO_3 := n0_; have HO195 := n1_; have BK192 := n2_; have HB := n3_; clear n0_ n1_ n2_ n3_; (try clear hb); (try clear hb2); (try clear hk); (try clear hi); (try clear ho0); obtain ⟨Ao12, co12, eo12⟩ := Kd.R_slice HO195.out; subst eo12; have hcz13_0 : w11.cell? ⟨gb192, 0, none⟩ = some (.int .i64 ((rd_T61 l0 x9_1).f0)) := (blk_cell BK192.out 0).trans rfl; have hcz13_1 : w11.cell? ⟨gb192, 1, none⟩ = some (.int .i64 ((rd_T61 l0 x9_1).f1)) := (blk_cell BK192.out 1).trans rfl; have hcz13_2 : w11.cell? ⟨gb192, 2, none⟩ = some (.int .i64 ((rd_T61 l0 x9_1).f2)) := (blk_cell BK192.out 2).trans rfl; have hcz13_3 : w11.cell? ⟨gb192, 3, none⟩ = some (.int .i64 ((rd_T61 l0 x9_1).f3)) := (blk_cell BK192.out 3).trans rfl; have hcz13_4 : w11.cell? ⟨gb192, 4, none⟩ = some (.int .i64 ((rd_T61 l0 x9_1).f4)) := (blk_cell BK192.out 4).trans rfl; have hcz13_5 : w11.cell? ⟨gb192, 5, none⟩ = some (.slice A191_5 ((rd_T61 l0 x9_1).f5).length c191_5) := (blk_cell BK192.out 5).trans rfl; have hfz13_0 := blk_frozen BK192.out 0; have hfz13_1 := blk_frozen BK192.out 1; have hfz13_2 := blk_frozen BK192.out 2; have hfz13_3 := blk_frozen BK192.out 3; have hfz13_4 := blk_frozen BK192.out 4; have hfz13_5 := blk_frozen BK192.out 5) | ((with_reducible refine gate_store (t := 41) (p := 16) rfl ?_); refine store_event (t := 41) (p := 16) (v := ?vo_w14) (w1 := (w11.setCell ⟨gb192, 5, none⟩ (.slice Ao12 t193.length co12))) ?hg ?ho ?hn ?hr ?_; (case ho => rfl); (case hg => rfl); (case hn => rfl); (case hr => first | (go_simp; done) | (go_simp; rfl)); intro w14 hw; have n0_ : Aside0 (Kd.S k61 61 w14 w.heap.size (fun k_ => some k_ ≠ (.slice Ao12 t193.length co12 : Value).ownBlock ∧ k_ ≠ gb192) u3 x3_1) := ⟨(by rw [hw]; exact (by (with_reducible repeat (first | apply Kd.S_alloc | apply Kd.S_drewN | apply Kd.S_drew)); exact Kd.S_mono (Kd.S_far (p := ⟨gb192, 5, none⟩) (Kd.S_mono HO_3.out (fun k_ hk => (⟨hk, hk.1.2⟩ : _ ∧ k_ ≠ gb192))) (fun _ hk => hk.2) (.slice Ao12 t193.length co12)) (fun _ hk => ⟨hk.1.2, hk.1.1.2⟩)))⟩; have n1_ : Aside0 (Kd.R (Kd.int .i64) 3 w14 w.heap.size (fun _ => True) (.slice Ao12 t193.length co12) t193) := ⟨(by rw [hw]; exact (by (with_reducible repeat (first | apply Kd.R_alloc | apply Kd.R_drewN | apply Kd.R_drew)); exact Kd.R_mono (Kd.R_far (p := ⟨gb192, 5, none⟩) (Kd.R_types HO195.out BK192.out (by decide)) (fun _ hk => hk.2) (.slice Ao12 t193.length co12)) (fun _ hk => trivial)))⟩; have n2_ : Aside0 (w14.heap[gb192]? = some (.cells #[.int .i64 ((rd_T61 l0 x9_1).f0), .int .i64 ((rd_T61 l0 x9_1).f1), .int .i64 ((rd_T61 l0 x9_1).f2), .int .i64 ((rd_T61 l0 x9_1).f3), .int .i64 ((rd_T61 l0 x9_1).f4), .slice Ao12 t193.length co12] 61 (0, 0))) := ⟨(by rw [hw]; exact (by (with_reducible repeat (first | refine blk_drewN ?_ _ | refine blk_drew ?_ | refine blk_alloc ?_ _)); refine blk_put (cs := #[.int .i64 ((rd_T61 l0 x9_1).f0), .int .i64 ((rd_T61 l0 x9_1).f1), .int .i64 ((rd_T61 l0 x9_1).f2), .int .i64 ((rd_T61 l0 x9_1).f3), .int .i64 ((rd_T61 l0 x9_1).f4), .slice A191_5 ((rd_T61 l0 x9_1).f5).length c191_5]) ?_ 5 _ rfl; (with_reducible repeat (first | refine blk_drewN ?_ _ | refine blk_drew ?_ | refine blk_alloc ?_ _)); exact BK192.out))⟩; have n3_ : Aside0 (Below w.heap.size w w14) := ⟨(by rw [hw]; exact (by repeat (first | (with_reducible first | exact HB.out | apply below_alloc | apply pw_below_drewN | apply below_drew1 | refine below_set ?_ GE192.out) | exact HB.out)))⟩; clear hw; clear HO_3; clear HO195; clear BK192; clear HB; have HO_3 := n0_; have HO195 := n1_; have BK192 := n2_; have HB := n3_; clear n0_ n1_ n2_ n3_; have hcz15_0 : w14.cell? ⟨gb192, 0, none⟩ = some (.int .i64 ((rd_T61 l0 x9_1).f0)) := (blk_cell BK192.out 0).trans rfl; have hcz15_1 : w14.cell? ⟨gb192, 1, none⟩ = some (.int .i64 ((rd_T61 l0 x9_1).f1)) := (blk_cell BK192.out 1).trans rfl; have hcz15_2 : w14.cell? ⟨gb192, 2, none⟩ = some (.int .i64 ((rd_T61 l0 x9_1).f2)) := (blk_cell BK192.out 2).trans rfl; have hcz15_3 : w14.cell? ⟨gb192, 3, none⟩ = some (.int .i64 ((rd_T61 l0 x9_1).f3)) := (blk_cell BK192.out 3).trans rfl; have hcz15_4 : w14.cell? ⟨gb192, 4, none⟩ = some (.int .i64 ((rd_T61 l0 x9_1).f4)) := (blk_cell BK192.out 4).trans rfl; have hcz15_5 : w14.cell? ⟨gb192, 5, none⟩ = some (.slice Ao12 t193.length co12) := (blk_cell BK192.out 5).trans rfl; have hfz15_0 := blk_frozen BK192.out 0; have hfz15_1 := blk_frozen BK192.out 1; have hfz15_2 := blk_frozen BK192.out 2; have hfz15_3 := blk_frozen BK192.out 3; have hfz15_4 := blk_frozen BK192.out 4; have hfz15_5 := blk_frozen BK192.out 5) | ((with_reducible refine gate_builtin (b := .append) (xs := #[.tmp 17, .tmp 19]) rfl ?_); at_builtin; refine Kd.S_append k61 (w0 := w) w.heap.size rfl (.tmp 17) (.tmp 19) 25 61 (.agg #[(.int .i64 0), (.int .i64 0), (.int .i64 0), (.int .i64 0), (.int .i64 0), (.slice none 0 0)]) 64 rfl Try.underlying25 info61 rfl (by decide) (by omega) u3 x3_1 (⟨(rd_T61 l0 x9_1).f0, (rd_T61 l0 x9_1).f1, (rd_T61 l0 x9_1).f2, (rd_T61 l0 x9_1).f3, (rd_T61 l0 x9_1).f4, t193⟩ : S61) [.int .i64 ((rd_T61 l0 x9_1).f0), .int .i64 ((rd_T61 l0 x9_1).f1), .int .i64 ((rd_T61 l0 x9_1).f2), .int .i64 ((rd_T61 l0 x9_1).f3), .int .i64 ((rd_T61 l0 x9_1).f4), .slice Ao12 t193.length co12] (fun k_ => k_ ≠ gb192) (fun k_ => some k_ = (.slice Ao12 t193.length co12 : Value).ownBlock) rfl rfl ?aP (fun k_ hk_ => ((Kd.R_mono (ok' := fun k_ => ((fun k_ => k_ ≠ gb192)) k_ ∧ some k_ ≠ (u3 : Value).ownBlock) (Kd.R_types (Kd.R_apart' (HO195.out) (Kd.S_typed HO_3.out) (by decide)) BK192.out (by decide)) (fun k_ hk => ⟨hk.2, hk.1.2⟩))).1 k_ hk_.symm) ?aF ?aO ?aB ?aS ?aL ?_; (case aP => exact k61_mkM _ _ _ (⟨(rd_T61 l0 x9_1).f0, (rd_T61 l0 x9_1).f1, (rd_T61 l0 x9_1).f2, (rd_T61 l0 x9_1).f3, (rd_T61 l0 x9_1).f4, t193⟩ : S61) (Kd.R_mono (Kd.R_tight rfl (Kd.R_mono (ok' := fun k_ => ((fun k_ => k_ ≠ gb192)) k_ ∧ some k_ ≠ (u3 : Value).ownBlock) (Kd.R_types (Kd.R_apart' (HO195.out) (Kd.S_typed HO_3.out) (by decide)) BK192.out (by decide)) (fun k_ hk => ⟨hk.2, hk.1.2⟩))) (fun _ h_ => h_))); (case aB => exact (by repeat (first | (with_reducible first | exact HB.out | apply below_alloc | apply pw_below_drewN | apply below_drew1 | refine below_set ?_ GE192.out) | exact HB.out))); (case aF => exact (fun k_ hk => Kd.freshB (g := gb192) (o := .cells #[.int .i64 ((rd_T61 l0 x9_1).f0), .int .i64 ((rd_T61 l0 x9_1).f1), .int .i64 ((rd_T61 l0 x9_1).f2), .int .i64 ((rd_T61 l0 x9_1).f3), .int .i64 ((rd_T61 l0 x9_1).f4), .slice Ao12 t193.length co12] 61 (0, 0)) (by (with_reducible repeat (first | refine blk_drewN ?_ _ | refine blk_drew ?_ | refine blk_alloc ?_ _)); exact BK192.out) k_ hk)); (case aO => exact (by (with_reducible repeat (first | apply Kd.S_alloc | apply Kd.S_drewN | apply Kd.S_drew)); exact Kd.S_mono HO_3.out (fun k_ hk => ⟨hk.2, fun e_ => hk.1 e_⟩))); (case aS => exact (below_size (by repeat (first | (with_reducible first | exact HB.out | apply below_alloc | apply pw_below_drewN | apply below_drew1 | refine below_set ?_ GE192.out) | exact HB.out)))); (case aL => have := LMc8.out; omega); intro v197 w16 ho hb hg hat; rw [← Ny196.out] at ho; have n0_ := Aside0.mk (blk_grown (g := gb192) (o := .cells #[.int .i64 ((rd_T61 l0 x9_1).f0), .int .i64 ((rd_T61 l0 x9_1).f1), .int .i64 ((rd_T61 l0 x9_1).f2), .int .i64 ((rd_T61 l0 x9_1).f3), .int .i64 ((rd_T61 l0 x9_1).f4), .slice Ao12 t193.length co12] 61 (0, 0)) (by (with_reducible repeat (first | refine blk_drewN ?_ _ | refine blk_drew ?_ | refine blk_alloc ?_ _)); exact BK192.out) hg (Kd.S_away HO_3.out (fun _ hk => hk.2))); have n1_ := Aside0.mk (hb); have n2_ := Aside0.mk (ho); clear BK192; clear HB; clear HO_3; clear HO195; have BK192 := n0_; have HB := n1_; have HO198 := n2_; clear n0_ n1_ n2_; clear ho hb hg hat))
       go_roundg k1
       case measure => have := HK1.out; omega
       case rel => exact ⟨(y196), (wrap64 (x9_1 + 1)), (by first | rfl | (simp; done) | (simp [*]; done)), H', ⟨by have := HK1.out; omega⟩, ⟨by (with_reducible repeat (first | apply Kd.S_alloc | apply Kd.S_drewN | apply Kd.S_drew)); exact Kd.S_mono HO198.out (fun _ hk => trivial)⟩, ⟨by repeat (first | (with_reducible first | exact HB.out | apply below_alloc | apply pw_below_drewN | apply below_drew1 | refine below_set ?_ GE192.out) | exact HB.out)⟩⟩
      ·
       rw [if_neg c8] at H
       exact absurd H (by simp)
     ·
      rw [if_neg c6] at H
      exact absurd H (by simp)
    ·
     rw [if_neg c5] at H
     exact absurd H (by simp)
   ·
    rw [if_neg c4] at H
    have c4b0 : decide (x9_1 < (l0.length : Int)) = false := decide_eq_false c4
    clear c4
    obtain rfl := Option.some.inj H
    go_wp2
    go_ret
    exact ⟨_, by first | rfl | (simp [errW_none, errW_some] <;> rfl) | (simp [*, errW_none, errW_some] <;> rfl), by (with_reducible repeat (first | apply Kd.S_alloc | apply Kd.S_drewN | apply Kd.S_drew)); exact HO_3.out, by repeat (first | (with_reducible first | exact HB.out | apply below_alloc | apply pw_below_drewN | apply below_drew1) | exact HB.out)⟩
end Go.Proofs.Ytiimiogpiflkdaa.A
end

section
namespace Go.Proofs.Ytiimiogpiflkdaa.A
open Go.RowKit Go.Proofs.YtiimiogpiflkdaaW.PrintWords Go.Proofs.YtiimiogpiflkdaaW.PrintLast Go.Proofs.YtiimiogpiflkdaaW.PrintMore
attribute [local go_sem] max2_int min2_int max_two min_two max_three min_three max_four min_four   -- for this text's walks alone
set_option linter.unusedVariables false
set_option linter.unusedSimpArgs false
mutual
def impl_AddResult.j0 : Nat → List (S61) → Int → Int → Int → Int → Int → List (S61) → Int → Int → Bool → Option ((List (S61)) × Bool)
  | 0, _, _, _, _, _, _, _, _, _, _ => none
  | k + 1, x0, x1, x2, x3, x4, x5, x14, x15, x16, x55 => if x55 = true then (some (x14, false)) else (if 0 ≤ x15 then (if x15 < (x14.length : Int) then (if ((rd_T61 x14 x15).f5).length < 17592186044416 then ((some (x14.set (x15 : Int).toNat (⟨(rd_T61 x14 x15).f0, (rd_T61 x14 x15).f1, (rd_T61 x14 x15).f2, (rd_T61 x14 x15).f3, (rd_T61 x14 x15).f4, (((rd_T61 x14 x15).f5) ++ [x2])⟩ : S61) : List (S61))).bind fun y212 => (if 0 ≤ x16 then (if x16 < (x14.length : Int) then (if ((rd_T61 y212 x16).f5).length < 17592186044416 then ((some (y212.set (x16 : Int).toNat (⟨(rd_T61 y212 x16).f0, (rd_T61 y212 x16).f1, (rd_T61 y212 x16).f2, (rd_T61 y212 x16).f3, (rd_T61 y212 x16).f4, (((rd_T61 y212 x16).f5) ++ [x1])⟩ : S61) : List (S61))).bind fun y217 => ((some (y217.set (x15 : Int).toNat (⟨(rd_T61 y217 x15).f0, (rd_T61 y217 x15).f1, (rd_T61 y217 x15).f2, (rd_T61 y217 x15).f3, wrap64 (((rd_T61 y217 x15).f4) + 1), (rd_T61 y217 x15).f5⟩ : S61) : List (S61))).bind fun y219 => (if x3 = 1 then (impl_AddResult.j1 k x0 x4 x5 (y219.set (x15 : Int).toNat (⟨(rd_T61 y219 x15).f0, (rd_T61 y219 x15).f1, wrap64 (((rd_T61 y219 x15).f2) + 1), (rd_T61 y219 x15).f3, (rd_T61 y219 x15).f4, (rd_T61 y219 x15).f5⟩ : S61)) x15 x16) else (impl_AddResult.j1 k x0 x4 x5 (y219.set (x16 : Int).toNat (⟨(rd_T61 y219 x16).f0, (rd_T61 y219 x16).f1, wrap64 (((rd_T61 y219 x16).f2) + 1), (rd_T61 y219 x16).f3, (rd_T61 y219 x16).f4, (rd_T61 y219 x16).f5⟩ : S61)) x15 x16)))) else (none)) else (none)) else (none))) else (none)) else (none)) else (none))
def impl_AddResult.j1 : Nat → List (S61) → Int → Int → List (S61) → Int → Int → Option ((List (S61)) × Bool)
  | 0, _, _, _, _, _, _ => none
  | k + 1, x0, x4, x5, x14, x15, x16 => if 0 ≤ x15 then (if x15 < (x14.length : Int) then ((some (x14.set (x15 : Int).toNat (⟨(rd_T61 x14 x15).f0, (rd_T61 x14 x15).f1, (rd_T61 x14 x15).f2, wrap64 (((rd_T61 x14 x15).f3) + x4), (rd_T61 x14 x15).f4, (rd_T61 x14 x15).f5⟩ : S61) : List (S61))).bind fun y225 => (if 0 ≤ x16 then (if x16 < (x14.length : Int) then ((some (y225.set (x16 : Int).toNat (⟨(rd_T61 y225 x16).f0, (rd_T61 y225 x16).f1, (rd_T61 y225 x16).f2, wrap64 (((rd_T61 y225 x16).f3) + x5), (rd_T61 y225 x16).f4, (rd_T61 y225 x16).f5⟩ : S61) : List (S61))).bind fun y227 => ((impl_AreTeams.f k y227).bind fun t228 => (if t228 = true then (some (y227, true)) else ((impl_cloneTeams.f k x0).bind fun t229 => (some (t229, false)))))) else (none)) else (none))) else (none)) else (none)
end
def impl_AddResult.f (k : Nat) (l0 : List (S61)) (a1 : Int) (a2 : Int) (a3 : Int) (a4 : Int) (a5 : Int) : Option ((List (S61)) × Bool) := (impl_cloneTeams.f k l0).bind fun t199 => ((impl_FindTeam.f l0 a1).bind fun t202 => ((impl_FindTeam.f l0 a2).bind fun t203 => ((impl_AreTeams.f k l0).bind fun t204 => (if t204 = true then (if t202 < 0 then (impl_AddResult.j0 k l0 a1 a2 a3 a4 a5 t199 t202 t203 true) else (if t203 < 0 then (impl_AddResult.j0 k l0 a1 a2 a3 a4 a5 t199 t202 t203 true) else (if t202 = t203 then (impl_AddResult.j0 k l0 a1 a2 a3 a4 a5 t199 t202 t203 true) else ((impl_InRange.f a3 1 2).bind fun t205 => (if t205 = true then ((impl_InRange.f a4 0 1000).bind fun t206 => (if t206 = true then ((impl_InRange.f a5 0 1000).bind fun t207 => (impl_AddResult.j0 k l0 a1 a2 a3 a4 a5 t199 t202 t203 (!t207))) else (impl_AddResult.j0 k l0 a1 a2 a3 a4 a5 t199 t202 t203 true))) else (impl_AddResult.j0 k l0 a1 a2 a3 a4 a5 t199 t202 t203 true)))))) else (impl_AddResult.j0 k l0 a1 a2 a3 a4 a5 t199 t202 t203 true)))))
set_option maxHeartbeats 8000000 in
set_option maxRecDepth 100000 in
theorem impl_AddResult.calls (k : Nat) (A0 : Option Addr) (c0 : Nat) (l0 : List (S61)) (a1 : Int) (a2 : Int) (a3 : Int) (a4 : Int) (a5 : Int) (r1 : List (S61)) (r2 : Bool) (w : World) (hr0 : Kd.C k61 w A0 l0.length l0) (hc0 : l0.length ≤ c0) (h : impl_AddResult.f k l0 a1 a2 a3 a4 a5 = some (r1, r2)) :
  Calls Try.prog 43 #[.slice A0 l0.length c0, .int .i64 a1, .int .i64 a2, .int .i64 a3, .int .i64 a4, .int .i64 a5] w fun e w' => ∃ v0_ : Value, e = .returned (.tuple #[v0_, .bool r2]) ∧ Kd.S k61 61 w' w.heap.size (fun _ => True) v0_ r1 ∧ Below w.heap.size w w' := by
 have HR0 := Aside0.mk hr0
 have HC0 := Aside0.mk hc0
 clear hr0 hc0
 have HB := Aside0.mk (Below.refl w.heap.size w)
 have H : ((impl_cloneTeams.f k l0).bind fun t199 => ((impl_FindTeam.f l0 a1).bind fun t202 => ((impl_FindTeam.f l0 a2).bind fun t203 => ((impl_AreTeams.f k l0).bind fun t204 => (if t204 = true then (if t202 < 0 then (impl_AddResult.j0 k l0 a1 a2 a3 a4 a5 t199 t202 t203 true) else (if t203 < 0 then (impl_AddResult.j0 k l0 a1 a2 a3 a4 a5 t199 t202 t203 true) else (if t202 = t203 then (impl_AddResult.j0 k l0 a1 a2 a3 a4 a5 t199 t202 t203 true) else ((impl_InRange.f a3 1 2).bind fun t205 => (if t205 = true then ((impl_InRange.f a4 0 1000).bind fun t206 => (if t206 = true then ((impl_InRange.f a5 0 1000).bind fun t207 => (impl_AddResult.j0 k l0 a1 a2 a3 a4 a5 t199 t202 t203 (!t207))) else (impl_AddResult.j0 k l0 a1 a2 a3 a4 a5 t199 t202 t203 true))) else (impl_AddResult.j0 k l0 a1 a2 a3 a4 a5 t199 t202 t203 true)))))) else (impl_AddResult.j0 k l0 a1 a2 a3 a4 a5 t199 t202 t203 true)))))) = some (r1, r2) := h
 clear h
 replace H := Option.bind_eq_some_iff.mp H
 obtain ⟨t199, A70, H⟩ := H
 replace H : ((impl_FindTeam.f l0 a1).bind fun t202 => ((impl_FindTeam.f l0 a2).bind fun t203 => ((impl_AreTeams.f k l0).bind fun t204 => (if t204 = true then (if t202 < 0 then (impl_AddResult.j0 k l0 a1 a2 a3 a4 a5 t199 t202 t203 true) else (if t203 < 0 then (impl_AddResult.j0 k l0 a1 a2 a3 a4 a5 t199 t202 t203 true) else (if t202 = t203 then (impl_AddResult.j0 k l0 a1 a2 a3 a4 a5 t199 t202 t203 true) else ((impl_InRange.f a3 1 2).bind fun t205 => (if t205 = true then ((impl_InRange.f a4 0 1000).bind fun t206 => (if t206 = true then ((impl_InRange.f a5 0 1000).bind fun t207 => (impl_AddResult.j0 k l0 a1 a2 a3 a4 a5 t199 t202 t203 (!t207))) else (impl_AddResult.j0 k l0 a1 a2 a3 a4 a5 t199 t202 t203 true))) else (impl_AddResult.j0 k l0 a1 a2 a3 a4 a5 t199 t202 t203 true)))))) else (impl_AddResult.j0 k l0 a1 a2 a3 a4 a5 t199 t202 t203 true))))) = some (r1, r2) := H
 have A7 := Aside0.mk A70
 clear A70
 replace H := Option.bind_eq_some_iff.mp H
 obtain ⟨t202, A80, H⟩ := H
 replace H : ((impl_FindTeam.f l0 a2).bind fun t203 => ((impl_AreTeams.f k l0).bind fun t204 => (if t204 = true then (if t202 < 0 then (impl_AddResult.j0 k l0 a1 a2 a3 a4 a5 t199 t202 t203 true) else (if t203 < 0 then (impl_AddResult.j0 k l0 a1 a2 a3 a4 a5 t199 t202 t203 true) else (if t202 = t203 then (impl_AddResult.j0 k l0 a1 a2 a3 a4 a5 t199 t202 t203 true) else ((impl_InRange.f a3 1 2).bind fun t205 => (if t205 = true then ((impl_InRange.f a4 0 1000).bind fun t206 => (if t206 = true then ((impl_InRange.f a5 0 1000).bind fun t207 => (impl_AddResult.j0 k l0 a1 a2 a3 a4 a5 t199 t202 t203 (!t207))) else (impl_AddResult.j0 k l0 a1 a2 a3 a4 a5 t199 t202 t203 true))) else (impl_AddResult.j0 k l0 a1 a2 a3 a4 a5 t199 t202 t203 true)))))) else (impl_AddResult.j0 k l0 a1 a2 a3 a4 a5 t199 t202 t203 true)))) = some (r1, r2) := H
 have A8 := Aside0.mk A80
 clear A80
 replace H := Option.bind_eq_some_iff.mp H
 obtain ⟨t203, A90, H⟩ := H
 replace H : ((impl_AreTeams.f k l0).bind fun t204 => (if t204 = true then (if t202 < 0 then (impl_AddResult.j0 k l0 a1 a2 a3 a4 a5 t199 t202 t203 true) else (if t203 < 0 then (impl_AddResult.j0 k l0 a1 a2 a3 a4 a5 t199 t202 t203 true) else (if t202 = t203 then (impl_AddResult.j0 k l0 a1 a2 a3 a4 a5 t199 t202 t203 true) else ((impl_InRange.f a3 1 2).bind fun t205 => (if t205 = true then ((impl_InRange.f a4 0 1000).bind fun t206 => (if t206 = true then ((impl_InRange.f a5 0 1000).bind fun t207 => (impl_AddResult.j0 k l0 a1 a2 a3 a4 a5 t199 t202 t203 (!t207))) else (impl_AddResult.j0 k l0 a1 a2 a3 a4 a5 t199 t202 t203 true))) else (impl_AddResult.j0 k l0 a1 a2 a3 a4 a5 t199 t202 t203 true)))))) else (impl_AddResult.j0 k l0 a1 a2 a3 a4 a5 t199 t202 t203 true))) = some (r1, r2) := H
 have A9 := Aside0.mk A90
 clear A90
 have HC10 := Aside0.mk H
 clear H
 go_enter Try.func43, Try.ntmps43
 go_upto_region 3 with (first | ((with_reducible refine gate_callee (f := 75) rfl ?_); refine goesL_ (some 18) rfl rfl Try.func75 (by kernel_rfl) rfl #[.slice A0 l0.length c0] rfl (by (try simp only [List.map_toArray, List.map_cons, List.map_nil]); first | done | rfl | (simp only [List.length_drop, List.length_take]; rfl)) ?_; (with_reducible refine (impl_cloneTeams.calls k _ _ l0 t199 _ ?side1 ?side2 A7.out).mono ?_); (case side1 => repeat (first | exact HR0.out | (with_reducible refine Kd.C_alloc ?_ _) | (with_reducible refine Kd.C_drewN ?_ _) | (with_reducible refine Kd.C_drew ?_))); (case side2 => exact HC0.out); rintro e w11 ⟨v200, rfl, ho0, hb⟩; refine ⟨_, rfl, ?_⟩; have n0_ := Aside0.mk (Kd.S_lower ho0 (below_size (by repeat (first | (with_reducible first | exact HB.out | apply below_alloc | apply pw_below_drewN | apply below_drew1) | exact HB.out)))); have n1_ := Aside0.mk (below_step (by repeat (first | (with_reducible first | exact HB.out | apply below_alloc | apply pw_below_drewN | apply below_drew1) | exact HB.out)) hb); clear HB; have HO201 := n0_; have HB := n1_; clear n0_ n1_; (try clear hb); (try clear hb2); (try clear hk); (try clear hi); (try clear ho0)) | ((with_reducible refine gate_callee (f := 18) rfl ?_); refine goesL_ (some 21) rfl rfl Try.func18 (by kernel_rfl) rfl #[.slice A0 l0.length c0, .int .i64 a1] rfl (by (try simp only [List.map_toArray, List.map_cons, List.map_nil]); first | done | rfl | (simp only [List.length_drop, List.length_take]; rfl)) ?_; (with_reducible refine (impl_FindTeam.calls _ _ l0 a1 t202 _ ?side1 ?side2 A8.out).mono ?_); (case side1 => repeat (first | exact (Kd.C_below HR0.out HB.out) | (with_reducible refine Kd.C_alloc ?_ _) | (with_reducible refine Kd.C_drewN ?_ _) | (with_reducible refine Kd.C_drew ?_))); (case side2 => exact HC0.out); rintro e w12 ⟨rfl, hb⟩; refine ⟨_, rfl, ?_⟩; have n0_ := Aside0.mk (Kd.S_below (by (with_reducible repeat (first | apply Kd.S_alloc | apply Kd.S_drewN | apply Kd.S_drew)); exact HO201.out) hb); have n1_ := Aside0.mk (below_step (by repeat (first | (with_reducible first | exact HB.out | apply below_alloc | apply pw_below_drewN | apply below_drew1) | exact HB.out)) hb); clear HO201; clear HB; have HO201 := n0_; have HB := n1_; clear n0_ n1_; (try clear hb); (try clear hb2); (try clear hk); (try clear hi)) | ((with_reducible refine gate_callee (f := 18) rfl ?_); refine goesL_ (some 24) rfl rfl Try.func18 (by kernel_rfl) rfl #[.slice A0 l0.length c0, .int .i64 a2] rfl (by (try simp only [List.map_toArray, List.map_cons, List.map_nil]); first | done | rfl | (simp only [List.length_drop, List.length_take]; rfl)) ?_; (with_reducible refine (impl_FindTeam.calls _ _ l0 a2 t203 _ ?side1 ?side2 A9.out).mono ?_); (case side1 => repeat (first | exact (Kd.C_below HR0.out HB.out) | (with_reducible refine Kd.C_alloc ?_ _) | (with_reducible refine Kd.C_drewN ?_ _) | (with_reducible refine Kd.C_drew ?_))); (case side2 => exact HC0.out); rintro e w13 ⟨rfl, hb⟩; refine ⟨_, rfl, ?_⟩; have n0_ := Aside0.mk (Kd.S_below (by (with_reducible repeat (first | apply Kd.S_alloc | apply Kd.S_drewN | apply Kd.S_drew)); exact HO201.out) hb); have n1_ := Aside0.mk (below_step (by repeat (first | (with_reducible first | exact HB.out | apply below_alloc | apply pw_below_drewN | apply below_drew1) | exact HB.out)) hb); clear HO201; clear HB; have HO201 := n0_; have HB := n1_; clear n0_ n1_; (try clear hb); (try clear hb2); (try clear hk); (try clear hi)))
 (try simp only [Act.put, List.setIfInBounds_toArray, List.set_cons_zero, List.set_cons_succ])
 go_cut [55] (fun v55 wc => ∃ (kq : Nat) (x55_9 : Bool), v55 = .bool x55_9 ∧ Aside0 (impl_AddResult.j0 kq l0 a1 a2 a3 a4 a5 t199 t202 t203 x55_9 = some (r1, r2)) ∧ Aside0 (kq ≤ k) ∧ Aside0 (Kd.S k61 61 wc w.heap.size (fun _ => True) v200 t199) ∧ Aside0 (Below w.heap.size w wc) ∧ Aside0 (x55_9 = false → ¬ t202 = t203))
 case first =>
  have H := HC10.out
  clear HC10
  replace H := Option.bind_eq_some_iff.mp H
  obtain ⟨t204, A140, H⟩ := H
  replace H : (if t204 = true then (if t202 < 0 then (impl_AddResult.j0 k l0 a1 a2 a3 a4 a5 t199 t202 t203 true) else (if t203 < 0 then (impl_AddResult.j0 k l0 a1 a2 a3 a4 a5 t199 t202 t203 true) else (if t202 = t203 then (impl_AddResult.j0 k l0 a1 a2 a3 a4 a5 t199 t202 t203 true) else ((impl_InRange.f a3 1 2).bind fun t205 => (if t205 = true then ((impl_InRange.f a4 0 1000).bind fun t206 => (if t206 = true then ((impl_InRange.f a5 0 1000).bind fun t207 => (impl_AddResult.j0 k l0 a1 a2 a3 a4 a5 t199 t202 t203 (!t207))) else (impl_AddResult.j0 k l0 a1 a2 a3 a4 a5 t199 t202 t203 true))) else (impl_AddResult.j0 k l0 a1 a2 a3 a4 a5 t199 t202 t203 true)))))) else (impl_AddResult.j0 k l0 a1 a2 a3 a4 a5 t199 t202 t203 true)) = some (r1, r2) := H
  have A14 := Aside0.mk A140
  clear A140
  by_cases c15 : t204 = true
  ·
   subst c15
   have H1 : (if t202 < 0 then (impl_AddResult.j0 k l0 a1 a2 a3 a4 a5 t199 t202 t203 true) else (if t203 < 0 then (impl_AddResult.j0 k l0 a1 a2 a3 a4 a5 t199 t202 t203 true) else (if t202 = t203 then (impl_AddResult.j0 k l0 a1 a2 a3 a4 a5 t199 t202 t203 true) else ((impl_InRange.f a3 1 2).bind fun t205 => (if t205 = true then ((impl_InRange.f a4 0 1000).bind fun t206 => (if t206 = true then ((impl_InRange.f a5 0 1000).bind fun t207 => (impl_AddResult.j0 k l0 a1 a2 a3 a4 a5 t199 t202 t203 (!t207))) else (impl_AddResult.j0 k l0 a1 a2 a3 a4 a5 t199 t202 t203 true))) else (impl_AddResult.j0 k l0 a1 a2 a3 a4 a5 t199 t202 t203 true)))))) = some (r1, r2) := by rw [if_pos rfl] at H; exact H
   clear H
   have H := H1
   clear H1
   by_cases c16 : t202 < 0
   ·
    rw [if_pos c16] at H
    have c16b0 : decide (t202 < 0) = true := decide_eq_true c16
    clear c16
    (first | rw [c16b0] | (simp only [i64_w, i32_w]; rw [c16b0]) | skip)
    have H' := Aside0.mk H
    clear H
    go_wp2_with (first | ((with_reducible refine gate_callee (f := 21) rfl ?_); refine goesL_ (some 26) rfl rfl Try.func21 (by kernel_rfl) rfl #[.slice A0 l0.length c0] rfl (by (try simp only [List.map_toArray, List.map_cons, List.map_nil]); first | done | rfl | (simp only [List.length_drop, List.length_take]; rfl)) ?_; (with_reducible refine (impl_AreTeams.calls k _ _ l0 true _ ?side1 ?side2 A14.out).mono ?_); (case side1 => repeat (first | exact (Kd.C_below HR0.out HB.out) | (with_reducible refine Kd.C_alloc ?_ _) | (with_reducible refine Kd.C_drewN ?_ _) | (with_reducible refine Kd.C_drew ?_))); (case side2 => exact HC0.out); rintro e w17 ⟨rfl, hb⟩; refine ⟨_, rfl, ?_⟩; have n0_ := Aside0.mk (Kd.S_below (by (with_reducible repeat (first | apply Kd.S_alloc | apply Kd.S_drewN | apply Kd.S_drew)); exact HO201.out) hb); have n1_ := Aside0.mk (below_step (by repeat (first | (with_reducible first | exact HB.out | apply below_alloc | apply pw_below_drewN | apply below_drew1) | exact HB.out)) hb); clear HO201; clear HB; have HO201 := n0_; have HB := n1_; clear n0_ n1_; (try clear hb); (try clear hb2); (try clear hk); (try clear hi)))
    go_meet
    case rel => exact ⟨_, (true), (by first | rfl | (simp; done) | (simp [*]; done)), H', ⟨by first | omega | exact Nat.le_refl _⟩, ⟨by (with_reducible repeat (first | apply Kd.S_alloc | apply Kd.S_drewN | apply Kd.S_drew)); exact HO201.out⟩, ⟨by repeat (first | (with_reducible first | exact HB.out | apply below_alloc | apply pw_below_drewN | apply below_drew1) | exact HB.out)⟩, ⟨fun h_ => by cases h_⟩⟩
   ·
    rw [if_neg c16] at H
    have c16b0 : decide (t202 < 0) = false := decide_eq_false c16
    clear c16
    (first | rw [c16b0] | (simp only [i64_w, i32_w]; rw [c16b0]) | skip)
    by_cases c18 : t203 < 0
    ·
     rw [if_pos c18] at H
     have c18b0 : decide (t203 < 0) = true := decide_eq_true c18
     clear c18
     have H' := Aside0.mk H
     clear H
     go_wp2_with (first | ((with_reducible refine gate_callee (f := 21) rfl ?_); refine goesL_ (some 26) rfl rfl Try.func21 (by kernel_rfl) rfl #[.slice A0 l0.length c0] rfl (by (try simp only [List.map_toArray, List.map_cons, List.map_nil]); first | done | rfl | (simp only [List.length_drop, List.length_take]; rfl)) ?_; (with_reducible refine (impl_AreTeams.calls k _ _ l0 true _ ?side1 ?side2 A14.out).mono ?_); (case side1 => repeat (first | exact (Kd.C_below HR0.out HB.out) | (with_reducible refine Kd.C_alloc ?_ _) | (with_reducible refine Kd.C_drewN ?_ _) | (with_reducible refine Kd.C_drew ?_))); (case side2 => exact HC0.out); rintro e w19 ⟨rfl, hb⟩; refine ⟨_, rfl, ?_⟩; have n0_ := Aside0.mk (Kd.S_below (by (with_reducible repeat (first | apply Kd.S_alloc | apply Kd.S_drewN | apply Kd.S_drew)); exact HO201.out) hb); have n1_ := Aside0.mk (below_step (by repeat (first | (with_reducible first | exact HB.out | apply below_alloc | apply pw_below_drewN | apply below_drew1) | exact HB.out)) hb); clear HO201; clear HB; have HO201 := n0_; have HB := n1_; clear n0_ n1_; (try clear hb); (try clear hb2); (try clear hk); (try clear hi)))
     go_meet
     case rel => exact ⟨_, (true), (by first | rfl | (simp; done) | (simp [*]; done)), H', ⟨by first | omega | exact Nat.le_refl _⟩, ⟨by (with_reducible repeat (first | apply Kd.S_alloc | apply Kd.S_drewN | apply Kd.S_drew)); exact HO201.out⟩, ⟨by repeat (first | (with_reducible first | exact HB.out | apply below_alloc | apply pw_below_drewN | apply below_drew1) | exact HB.out)⟩, ⟨fun h_ => by cases h_⟩⟩
    ·
     rw [if_neg c18] at H
     have c18b0 : decide (t203 < 0) = false := decide_eq_false c18
     clear c18
     by_cases c20 : t202 = t203
     ·
      rw [if_pos c20] at H
      have c20b0 : (t202 == t203) = true := beq_iff_eq.mpr c20
      have c20b1 : (t202 != t203) = false := bne_eq_false_iff_eq.mpr c20
      clear c20
      have H' := Aside0.mk H
      clear H
      go_wp2_with (first | ((with_reducible refine gate_callee (f := 21) rfl ?_); refine goesL_ (some 26) rfl rfl Try.func21 (by kernel_rfl) rfl #[.slice A0 l0.length c0] rfl (by (try simp only [List.map_toArray, List.map_cons, List.map_nil]); first | done | rfl | (simp only [List.length_drop, List.length_take]; rfl)) ?_; (with_reducible refine (impl_AreTeams.calls k _ _ l0 true _ ?side1 ?side2 A14.out).mono ?_); (case side1 => repeat (first | exact (Kd.C_below HR0.out HB.out) | (with_reducible refine Kd.C_alloc ?_ _) | (with_reducible refine Kd.C_drewN ?_ _) | (with_reducible refine Kd.C_drew ?_))); (case side2 => exact HC0.out); rintro e w21 ⟨rfl, hb⟩; refine ⟨_, rfl, ?_⟩; have n0_ := Aside0.mk (Kd.S_below (by (with_reducible repeat (first | apply Kd.S_alloc | apply Kd.S_drewN | apply Kd.S_drew)); exact HO201.out) hb); have n1_ := Aside0.mk (below_step (by repeat (first | (with_reducible first | exact HB.out | apply below_alloc | apply pw_below_drewN | apply below_drew1) | exact HB.out)) hb); clear HO201; clear HB; have HO201 := n0_; have HB := n1_; clear n0_ n1_; (try clear hb); (try clear hb2); (try clear hk); (try clear hi)))
      go_meet
      case rel => exact ⟨_, (true), (by first | rfl | (simp; done) | (simp [*]; done)), H', ⟨by first | omega | exact Nat.le_refl _⟩, ⟨by (with_reducible repeat (first | apply Kd.S_alloc | apply Kd.S_drewN | apply Kd.S_drew)); exact HO201.out⟩, ⟨by repeat (first | (with_reducible first | exact HB.out | apply below_alloc | apply pw_below_drewN | apply below_drew1) | exact HB.out)⟩, ⟨fun h_ => by cases h_⟩⟩
     ·
      rw [if_neg c20] at H
      have c20b0 : (t202 == t203) = false := beq_eq_false_iff_ne.mpr c20
      have c_ne := Aside0.mk (show ¬ t202 = t203 from c20)
      have c20b1 : (t202 != t203) = true := bne_iff_ne.mpr c20
      replace H := Option.bind_eq_some_iff.mp H
      obtain ⟨t205, A220, H⟩ := H
      replace H : (if t205 = true then ((impl_InRange.f a4 0 1000).bind fun t206 => (if t206 = true then ((impl_InRange.f a5 0 1000).bind fun t207 => (impl_AddResult.j0 k l0 a1 a2 a3 a4 a5 t199 t202 t203 (!t207))) else (impl_AddResult.j0 k l0 a1 a2 a3 a4 a5 t199 t202 t203 true))) else (impl_AddResult.j0 k l0 a1 a2 a3 a4 a5 t199 t202 t203 true)) = some (r1, r2) := H
      have A22 := Aside0.mk A220
      clear A220
      by_cases c23 : t205 = true
      ·
       subst c23
       have H1 : ((impl_InRange.f a4 0 1000).bind fun t206 => (if t206 = true then ((impl_InRange.f a5 0 1000).bind fun t207 => (impl_AddResult.j0 k l0 a1 a2 a3 a4 a5 t199 t202 t203 (!t207))) else (impl_AddResult.j0 k l0 a1 a2 a3 a4 a5 t199 t202 t203 true))) = some (r1, r2) := by rw [if_pos rfl] at H; exact H
       clear H
       have H := H1
       clear H1
       replace H := Option.bind_eq_some_iff.mp H
       obtain ⟨t206, A240, H⟩ := H
       replace H : (if t206 = true then ((impl_InRange.f a5 0 1000).bind fun t207 => (impl_AddResult.j0 k l0 a1 a2 a3 a4 a5 t199 t202 t203 (!t207))) else (impl_AddResult.j0 k l0 a1 a2 a3 a4 a5 t199 t202 t203 true)) = some (r1, r2) := H
       have A24 := Aside0.mk A240
       clear A240
       by_cases c25 : t206 = true
       ·
        subst c25
        have H1 : ((impl_InRange.f a5 0 1000).bind fun t207 => (impl_AddResult.j0 k l0 a1 a2 a3 a4 a5 t199 t202 t203 (!t207))) = some (r1, r2) := by rw [if_pos rfl] at H; exact H
        clear H
        have H := H1
        clear H1
        replace H := Option.bind_eq_some_iff.mp H
        obtain ⟨t207, A260, H⟩ := H
        replace H : (impl_AddResult.j0 k l0 a1 a2 a3 a4 a5 t199 t202 t203 (!t207)) = some (r1, r2) := H
        have A26 := Aside0.mk A260
        clear A260
        have H' := Aside0.mk H
        clear H
        go_wp2_with (first | ((with_reducible refine gate_callee (f := 21) rfl ?_); refine goesL_ (some 26) rfl rfl Try.func21 (by kernel_rfl) rfl #[.slice A0 l0.length c0] rfl (by (try simp only [List.map_toArray, List.map_cons, List.map_nil]); first | done | rfl | (simp only [List.length_drop, List.length_take]; rfl)) ?_; (with_reducible refine (impl_AreTeams.calls k _ _ l0 true _ ?side1 ?side2 A14.out).mono ?_); (case side1 => repeat (first | exact (Kd.C_below HR0.out HB.out) | (with_reducible refine Kd.C_alloc ?_ _) | (with_reducible refine Kd.C_drewN ?_ _) | (with_reducible refine Kd.C_drew ?_))); (case side2 => exact HC0.out); rintro e w27 ⟨rfl, hb⟩; refine ⟨_, rfl, ?_⟩; have n0_ := Aside0.mk (Kd.S_below (by (with_reducible repeat (first | apply Kd.S_alloc | apply Kd.S_drewN | apply Kd.S_drew)); exact HO201.out) hb); have n1_ := Aside0.mk (below_step (by repeat (first | (with_reducible first | exact HB.out | apply below_alloc | apply pw_below_drewN | apply below_drew1) | exact HB.out)) hb); clear HO201; clear HB; have HO201 := n0_; have HB := n1_; clear n0_ n1_; (try clear hb); (try clear hb2); (try clear hk); (try clear hi)) | (go_at_call 61; (with_reducible refine (impl_InRange.calls a3 1 2 true _ A22.out).mono ?_); rintro e w' ⟨rfl, ⟨nd, rfl⟩⟩) | (go_at_call 61; (with_reducible refine (impl_InRange.calls a4 0 1000 true _ A24.out).mono ?_); rintro e w' ⟨rfl, ⟨nd, rfl⟩⟩) | (go_at_call 61; (with_reducible refine (impl_InRange.calls a5 0 1000 t207 _ A26.out).mono ?_); rintro e w' ⟨rfl, ⟨nd, rfl⟩⟩))
        go_meet
        case rel => exact ⟨_, (!t207), (by first | rfl | (simp; done) | (simp [*]; done)), H', ⟨by first | omega | exact Nat.le_refl _⟩, ⟨by (with_reducible repeat (first | apply Kd.S_alloc | apply Kd.S_drewN | apply Kd.S_drew)); exact HO201.out⟩, ⟨by repeat (first | (with_reducible first | exact HB.out | apply below_alloc | apply pw_below_drewN | apply below_drew1) | exact HB.out)⟩, ⟨fun _ => c_ne.out⟩⟩
       ·
        replace c25 := Bool.eq_false_iff.mpr c25
        subst c25
        have H1 : (impl_AddResult.j0 k l0 a1 a2 a3 a4 a5 t199 t202 t203 true) = some (r1, r2) := by rw [if_neg (show ¬ (false = true) by decide)] at H; exact H
        clear H
        have H := H1
        clear H1
        have H' := Aside0.mk H
        clear H
        go_wp2_with (first | ((with_reducible refine gate_callee (f := 21) rfl ?_); refine goesL_ (some 26) rfl rfl Try.func21 (by kernel_rfl) rfl #[.slice A0 l0.length c0] rfl (by (try simp only [List.map_toArray, List.map_cons, List.map_nil]); first | done | rfl | (simp only [List.length_drop, List.length_take]; rfl)) ?_; (with_reducible refine (impl_AreTeams.calls k _ _ l0 true _ ?side1 ?side2 A14.out).mono ?_); (case side1 => repeat (first | exact (Kd.C_below HR0.out HB.out) | (with_reducible refine Kd.C_alloc ?_ _) | (with_reducible refine Kd.C_drewN ?_ _) | (with_reducible refine Kd.C_drew ?_))); (case side2 => exact HC0.out); rintro e w28 ⟨rfl, hb⟩; refine ⟨_, rfl, ?_⟩; have n0_ := Aside0.mk (Kd.S_below (by (with_reducible repeat (first | apply Kd.S_alloc | apply Kd.S_drewN | apply Kd.S_drew)); exact HO201.out) hb); have n1_ := Aside0.mk (below_step (by repeat (first | (with_reducible first | exact HB.out | apply below_alloc | apply pw_below_drewN | apply below_drew1) | exact HB.out)) hb); clear HO201; clear HB; have HO201 := n0_; have HB := n1_; clear n0_ n1_; (try clear hb); (try clear hb2); (try clear hk); (try clear hi)) | (go_at_call 61; (with_reducible refine (impl_InRange.calls a3 1 2 true _ A22.out).mono ?_); rintro e w' ⟨rfl, ⟨nd, rfl⟩⟩) | (go_at_call 61; (with_reducible refine (impl_InRange.calls a4 0 1000 false _ A24.out).mono ?_); rintro e w' ⟨rfl, ⟨nd, rfl⟩⟩))
        go_meet
        case rel => exact ⟨_, (true), (by first | rfl | (simp; done) | (simp [*]; done)), H', ⟨by first | omega | exact Nat.le_refl _⟩, ⟨by (with_reducible repeat (first | apply Kd.S_alloc | apply Kd.S_drewN | apply Kd.S_drew)); exact HO201.out⟩, ⟨by repeat (first | (with_reducible first | exact HB.out | apply below_alloc | apply pw_below_drewN | apply below_drew1) | exact HB.out)⟩, ⟨fun h_ => by cases h_⟩⟩
      ·
       replace c23 := Bool.eq_false_iff.mpr c23
       subst c23
       have H1 : (impl_AddResult.j0 k l0 a1 a2 a3 a4 a5 t199 t202 t203 true) = some (r1, r2) := by rw [if_neg (show ¬ (false = true) by decide)] at H; exact H
       clear H
       have H := H1
       clear H1
       have H' := Aside0.mk H
       clear H
       go_wp2_with (first | ((with_reducible refine gate_callee (f := 21) rfl ?_); refine goesL_ (some 26) rfl rfl Try.func21 (by kernel_rfl) rfl #[.slice A0 l0.length c0] rfl (by (try simp only [List.map_toArray, List.map_cons, List.map_nil]); first | done | rfl | (simp only [List.length_drop, List.length_take]; rfl)) ?_; (with_reducible refine (impl_AreTeams.calls k _ _ l0 true _ ?side1 ?side2 A14.out).mono ?_); (case side1 => repeat (first | exact (Kd.C_below HR0.out HB.out) | (with_reducible refine Kd.C_alloc ?_ _) | (with_reducible refine Kd.C_drewN ?_ _) | (with_reducible refine Kd.C_drew ?_))); (case side2 => exact HC0.out); rintro e w29 ⟨rfl, hb⟩; refine ⟨_, rfl, ?_⟩; have n0_ := Aside0.mk (Kd.S_below (by (with_reducible repeat (first | apply Kd.S_alloc | apply Kd.S_drewN | apply Kd.S_drew)); exact HO201.out) hb); have n1_ := Aside0.mk (below_step (by repeat (first | (with_reducible first | exact HB.out | apply below_alloc | apply pw_below_drewN | apply below_drew1) | exact HB.out)) hb); clear HO201; clear HB; have HO201 := n0_; have HB := n1_; clear n0_ n1_; (try clear hb); (try clear hb2); (try clear hk); (try clear hi)) | (go_at_call 61; (with_reducible refine (impl_InRange.calls a3 1 2 false _ A22.out).mono ?_); rintro e w' ⟨rfl, ⟨nd, rfl⟩⟩))
       go_meet
       case rel => exact ⟨_, (true), (by first | rfl | (simp; done) | (simp [*]; done)), H', ⟨by first | omega | exact Nat.le_refl _⟩, ⟨by (with_reducible repeat (first | apply Kd.S_alloc | apply Kd.S_drewN | apply Kd.S_drew)); exact HO201.out⟩, ⟨by repeat (first | (with_reducible first | exact HB.out | apply below_alloc | apply pw_below_drewN | apply below_drew1) | exact HB.out)⟩, ⟨fun h_ => by cases h_⟩⟩
  ·
   replace c15 := Bool.eq_false_iff.mpr c15
   subst c15
   have H1 : (impl_AddResult.j0 k l0 a1 a2 a3 a4 a5 t199 t202 t203 true) = some (r1, r2) := by rw [if_neg (show ¬ (false = true) by decide)] at H; exact H
   clear H
   have H := H1
   clear H1
   have H' := Aside0.mk H
   clear H
   go_wp2_with (first | ((with_reducible refine gate_callee (f := 21) rfl ?_); refine goesL_ (some 26) rfl rfl Try.func21 (by kernel_rfl) rfl #[.slice A0 l0.length c0] rfl (by (try simp only [List.map_toArray, List.map_cons, List.map_nil]); first | done | rfl | (simp only [List.length_drop, List.length_take]; rfl)) ?_; (with_reducible refine (impl_AreTeams.calls k _ _ l0 false _ ?side1 ?side2 A14.out).mono ?_); (case side1 => repeat (first | exact (Kd.C_below HR0.out HB.out) | (with_reducible refine Kd.C_alloc ?_ _) | (with_reducible refine Kd.C_drewN ?_ _) | (with_reducible refine Kd.C_drew ?_))); (case side2 => exact HC0.out); rintro e w30 ⟨rfl, hb⟩; refine ⟨_, rfl, ?_⟩; have n0_ := Aside0.mk (Kd.S_below (by (with_reducible repeat (first | apply Kd.S_alloc | apply Kd.S_drewN | apply Kd.S_drew)); exact HO201.out) hb); have n1_ := Aside0.mk (below_step (by repeat (first | (with_reducible first | exact HB.out | apply below_alloc | apply pw_below_drewN | apply below_drew1) | exact HB.out)) hb); clear HO201; clear HB; have HO201 := n0_; have HB := n1_; clear n0_ n1_; (try clear hb); (try clear hb2); (try clear hk); (try clear hi)))
   go_meet
   case rel => exact ⟨_, (true), (by first | rfl | (simp; done) | (simp [*]; done)), H', ⟨by first | omega | exact Nat.le_refl _⟩, ⟨by (with_reducible repeat (first | apply Kd.S_alloc | apply Kd.S_drewN | apply Kd.S_drew)); exact HO201.out⟩, ⟨by repeat (first | (with_reducible first | exact HB.out | apply below_alloc | apply pw_below_drewN | apply below_drew1) | exact HB.out)⟩, ⟨fun h_ => by cases h_⟩⟩
 case rest =>
  clear HC10
  try clear c1
  try clear c2
  try clear p2
  try clear c4
  try clear c7
  try clear c15
  try clear c16
  try clear c16b0
  try clear c18
  try clear c18b0
  try clear c20
  try clear c20b0
  try clear c20b1
  try clear c21
  try clear c23
  try clear c25
  obtain ⟨kq, x55_9, rfl, HA, HJ9, HO_14, HB, HNE0⟩ := hcut
  cases kq with
  | zero => exact absurd HA.out (by simp [impl_AddResult.j0])
  | succ kj9 =>
   have H := HA.out
   clear HA
   simp only [impl_AddResult.j0] at H
   by_cases c31 : x55_9 = true
   ·
    subst c31
    have H1 : (some (t199, false)) = some (r1, r2) := by rw [if_pos rfl] at H; exact H
    clear H
    have H := H1
    clear H1
    simp only [Option.some.injEq, Prod.mk.injEq] at H
    obtain ⟨rfl, rfl⟩ := H
    go_wp2
    go_ret2
    exact ⟨_, by first | rfl | (simp [errW_none, errW_some] <;> rfl) | (simp [*, errW_none, errW_some] <;> rfl), by (with_reducible repeat (first | apply Kd.S_alloc | apply Kd.S_drewN | apply Kd.S_drew)); exact HO_14.out, by repeat (first | (with_reducible first | exact HB.out | apply below_alloc | apply pw_below_drewN | apply below_drew1) | exact HB.out)⟩
   ·
    replace c31 := Bool.eq_false_iff.mpr c31
    subst c31
    have H1 : (if 0 ≤ t202 then (if t202 < (t199.length : Int) then (if ((rd_T61 t199 t202).f5).length < 17592186044416 then ((some (t199.set (t202 : Int).toNat (⟨(rd_T61 t199 t202).f0, (rd_T61 t199 t202).f1, (rd_T61 t199 t202).f2, (rd_T61 t199 t202).f3, (rd_T61 t199 t202).f4, (((rd_T61 t199 t202).f5) ++ [a2])⟩ : S61) : List (S61))).bind fun y212 => (if 0 ≤ t203 then (if t203 < (t199.length : Int) then (if ((rd_T61 y212 t203).f5).length < 17592186044416 then ((some (y212.set (t203 : Int).toNat (⟨(rd_T61 y212 t203).f0, (rd_T61 y212 t203).f1, (rd_T61 y212 t203).f2, (rd_T61 y212 t203).f3, (rd_T61 y212 t203).f4, (((rd_T61 y212 t203).f5) ++ [a1])⟩ : S61) : List (S61))).bind fun y217 => ((some (y217.set (t202 : Int).toNat (⟨(rd_T61 y217 t202).f0, (rd_T61 y217 t202).f1, (rd_T61 y217 t202).f2, (rd_T61 y217 t202).f3, wrap64 (((rd_T61 y217 t202).f4) + 1), (rd_T61 y217 t202).f5⟩ : S61) : List (S61))).bind fun y219 => (if a3 = 1 then (impl_AddResult.j1 kj9 l0 a4 a5 (y219.set (t202 : Int).toNat (⟨(rd_T61 y219 t202).f0, (rd_T61 y219 t202).f1, wrap64 (((rd_T61 y219 t202).f2) + 1), (rd_T61 y219 t202).f3, (rd_T61 y219 t202).f4, (rd_T61 y219 t202).f5⟩ : S61)) t202 t203) else (impl_AddResult.j1 kj9 l0 a4 a5 (y219.set (t203 : Int).toNat (⟨(rd_T61 y219 t203).f0, (rd_T61 y219 t203).f1, wrap64 (((rd_T61 y219 t203).f2) + 1), (rd_T61 y219 t203).f3, (rd_T61 y219 t203).f4, (rd_T61 y219 t203).f5⟩ : S61)) t202 t203)))) else (none)) else (none)) else (none))) else (none)) else (none)) else (none)) = some (r1, r2) := by rw [if_neg (show ¬ (false = true) by decide)] at H; exact H
    clear H
    have H := H1
    clear H1
    by_cases c32 : 0 ≤ t202
    ·
     rw [if_pos c32] at H
     have c32b0 : decide (0 ≤ t202) = true := decide_eq_true c32
     clear c32
     by_cases c33 : t202 < (t199.length : Int)
     ·
      rw [if_pos c33] at H
      have c33b0 : decide (t202 < (t199.length : Int)) = true := decide_eq_true c33
      clear c33
      by_cases c34 : ((rd_T61 t199 t202).f5).length < 17592186044416
      ·
       rw [if_pos c34] at H
       have LMc34 := Aside0.mk c34
       clear c34
       obtain ⟨y209, hy209⟩ : ∃ y_ : List Int, y_ = (((rd_T61 t199 t202).f5) ++ [a2]) := ⟨_, rfl⟩
       replace H : ((some (t199.set (t202 : Int).toNat (⟨(rd_T61 t199 t202).f0, (rd_T61 t199 t202).f1, (rd_T61 t199 t202).f2, (rd_T61 t199 t202).f3, (rd_T61 t199 t202).f4, y209⟩ : S61) : List (S61))).bind fun y212 => (if 0 ≤ t203 then (if t203 < (t199.length : Int) then (if ((rd_T61 y212 t203).f5).length < 17592186044416 then ((some (y212.set (t203 : Int).toNat (⟨(rd_T61 y212 t203).f0, (rd_T61 y212 t203).f1, (rd_T61 y212 t203).f2, (rd_T61 y212 t203).f3, (rd_T61 y212 t203).f4, (((rd_T61 y212 t203).f5) ++ [a1])⟩ : S61) : List (S61))).bind fun y217 => ((some (y217.set (t202 : Int).toNat (⟨(rd_T61 y217 t202).f0, (rd_T61 y217 t202).f1, (rd_T61 y217 t202).f2, (rd_T61 y217 t202).f3, wrap64 (((rd_T61 y217 t202).f4) + 1), (rd_T61 y217 t202).f5⟩ : S61) : List (S61))).bind fun y219 => (if a3 = 1 then (impl_AddResult.j1 kj9 l0 a4 a5 (y219.set (t202 : Int).toNat (⟨(rd_T61 y219 t202).f0, (rd_T61 y219 t202).f1, wrap64 (((rd_T61 y219 t202).f2) + 1), (rd_T61 y219 t202).f3, (rd_T61 y219 t202).f4, (rd_T61 y219 t202).f5⟩ : S61)) t202 t203) else (impl_AddResult.j1 kj9 l0 a4 a5 (y219.set (t203 : Int).toNat (⟨(rd_T61 y219 t203).f0, (rd_T61 y219 t203).f1, wrap64 (((rd_T61 y219 t203).f2) + 1), (rd_T61 y219 t203).f3, (rd_T61 y219 t203).f4, (rd_T61 y219 t203).f5⟩ : S61)) t202 t203)))) else (none)) else (none)) else (none))) = some (r1, r2) := by first | (rw [hy209]; with_reducible exact H) | (have H2_ := (Option.bind_some _ _).symm.trans H; rw [hy209]; with_reducible exact H2_) | (have H2_ := (Option.bind_some _ _).symm.trans H; with_reducible exact H2_) | with_reducible exact H | (rw [hy209]; exact H) | exact H
       have Ny209 := Aside0.mk hy209
       clear hy209
       obtain ⟨y212, hy212⟩ : ∃ y_ : List (S61), y_ = (t199.set (t202 : Int).toNat (⟨(rd_T61 t199 t202).f0, (rd_T61 t199 t202).f1, (rd_T61 t199 t202).f2, (rd_T61 t199 t202).f3, (rd_T61 t199 t202).f4, y209⟩ : S61)) := ⟨_, rfl⟩
       replace H : (if 0 ≤ t203 then (if t203 < (t199.length : Int) then (if ((rd_T61 y212 t203).f5).length < 17592186044416 then ((some (y212.set (t203 : Int).toNat (⟨(rd_T61 y212 t203).f0, (rd_T61 y212 t203).f1, (rd_T61 y212 t203).f2, (rd_T61 y212 t203).f3, (rd_T61 y212 t203).f4, (((rd_T61 y212 t203).f5) ++ [a1])⟩ : S61) : List (S61))).bind fun y217 => ((some (y217.set (t202 : Int).toNat (⟨(rd_T61 y217 t202).f0, (rd_T61 y217 t202).f1, (rd_T61 y217 t202).f2, (rd_T61 y217 t202).f3, wrap64 (((rd_T61 y217 t202).f4) + 1), (rd_T61 y217 t202).f5⟩ : S61) : List (S61))).bind fun y219 => (if a3 = 1 then (impl_AddResult.j1 kj9 l0 a4 a5 (y219.set (t202 : Int).toNat (⟨(rd_T61 y219 t202).f0, (rd_T61 y219 t202).f1, wrap64 (((rd_T61 y219 t202).f2) + 1), (rd_T61 y219 t202).f3, (rd_T61 y219 t202).f4, (rd_T61 y219 t202).f5⟩ : S61)) t202 t203) else (impl_AddResult.j1 kj9 l0 a4 a5 (y219.set (t203 : Int).toNat (⟨(rd_T61 y219 t203).f0, (rd_T61 y219 t203).f1, wrap64 (((rd_T61 y219 t203).f2) + 1), (rd_T61 y219 t203).f3, (rd_T61 y219 t203).f4, (rd_T61 y219 t203).f5⟩ : S61)) t202 t203)))) else (none)) else (none)) else (none)) = some (r1, r2) := by first | (rw [hy212]; with_reducible exact H) | (have H2_ := (Option.bind_some _ _).symm.trans H; rw [hy212]; with_reducible exact H2_) | (have H2_ := (Option.bind_some _ _).symm.trans H; with_reducible exact H2_) | with_reducible exact H | (rw [hy212]; exact H) | exact H
       have Ny212 := Aside0.mk hy212
       clear hy212
       by_cases c36 : 0 ≤ t203
       ·
        rw [if_pos c36] at H
        have c36b0 : decide (0 ≤ t203) = true := decide_eq_true c36
        clear c36
        by_cases c37 : t203 < (t199.length : Int)
        ·
         rw [if_pos c37] at H
         have c37b0 : decide (t203 < (t199.length : Int)) = true := decide_eq_true c37
         clear c37
         by_cases c38 : ((rd_T61 y212 t203).f5).length < 17592186044416
         ·
          rw [if_pos c38] at H
          have LMc38 := Aside0.mk c38
          clear c38
          obtain ⟨y214, hy214⟩ : ∃ y_ : List Int, y_ = (((rd_T61 y212 t203).f5) ++ [a1]) := ⟨_, rfl⟩
          replace H : ((some (y212.set (t203 : Int).toNat (⟨(rd_T61 y212 t203).f0, (rd_T61 y212 t203).f1, (rd_T61 y212 t203).f2, (rd_T61 y212 t203).f3, (rd_T61 y212 t203).f4, y214⟩ : S61) : List (S61))).bind fun y217 => ((some (y217.set (t202 : Int).toNat (⟨(rd_T61 y217 t202).f0, (rd_T61 y217 t202).f1, (rd_T61 y217 t202).f2, (rd_T61 y217 t202).f3, wrap64 (((rd_T61 y217 t202).f4) + 1), (rd_T61 y217 t202).f5⟩ : S61) : List (S61))).bind fun y219 => (if a3 = 1 then (impl_AddResult.j1 kj9 l0 a4 a5 (y219.set (t202 : Int).toNat (⟨(rd_T61 y219 t202).f0, (rd_T61 y219 t202).f1, wrap64 (((rd_T61 y219 t202).f2) + 1), (rd_T61 y219 t202).f3, (rd_T61 y219 t202).f4, (rd_T61 y219 t202).f5⟩ : S61)) t202 t203) else (impl_AddResult.j1 kj9 l0 a4 a5 (y219.set (t203 : Int).toNat (⟨(rd_T61 y219 t203).f0, (rd_T61 y219 t203).f1, wrap64 (((rd_T61 y219 t203).f2) + 1), (rd_T61 y219 t203).f3, (rd_T61 y219 t203).f4, (rd_T61 y219 t203).f5⟩ : S61)) t202 t203)))) = some (r1, r2) := by first | (rw [hy214]; with_reducible exact H) | (have H2_ := (Option.bind_some _ _).symm.trans H; rw [hy214]; with_reducible exact H2_) | (have H2_ := (Option.bind_some _ _).symm.trans H; with_reducible exact H2_) | with_reducible exact H | (rw [hy214]; exact H) | exact H
          have Ny214 := Aside0.mk hy214
          clear hy214
          obtain ⟨y217, hy217⟩ : ∃ y_ : List (S61), y_ = (y212.set (t203 : Int).toNat (⟨(rd_T61 y212 t203).f0, (rd_T61 y212 t203).f1, (rd_T61 y212 t203).f2, (rd_T61 y212 t203).f3, (rd_T61 y212 t203).f4, y214⟩ : S61)) := ⟨_, rfl⟩
          replace H : ((some (y217.set (t202 : Int).toNat (⟨(rd_T61 y217 t202).f0, (rd_T61 y217 t202).f1, (rd_T61 y217 t202).f2, (rd_T61 y217 t202).f3, wrap64 (((rd_T61 y217 t202).f4) + 1), (rd_T61 y217 t202).f5⟩ : S61) : List (S61))).bind fun y219 => (if a3 = 1 then (impl_AddResult.j1 kj9 l0 a4 a5 (y219.set (t202 : Int).toNat (⟨(rd_T61 y219 t202).f0, (rd_T61 y219 t202).f1, wrap64 (((rd_T61 y219 t202).f2) + 1), (rd_T61 y219 t202).f3, (rd_T61 y219 t202).f4, (rd_T61 y219 t202).f5⟩ : S61)) t202 t203) else (impl_AddResult.j1 kj9 l0 a4 a5 (y219.set (t203 : Int).toNat (⟨(rd_T61 y219 t203).f0, (rd_T61 y219 t203).f1, wrap64 (((rd_T61 y219 t203).f2) + 1), (rd_T61 y219 t203).f3, (rd_T61 y219 t203).f4, (rd_T61 y219 t203).f5⟩ : S61)) t202 t203))) = some (r1, r2) := by first | (rw [hy217]; with_reducible exact H) | (have H2_ := (Option.bind_some _ _).symm.trans H; rw [hy217]; with_reducible exact H2_) | (have H2_ := (Option.bind_some _ _).symm.trans H; with_reducible exact H2_) | with_reducible exact H | (rw [hy217]; exact H) | exact H
          have Ny217 := Aside0.mk hy217
          clear hy217
          obtain ⟨y219, hy219⟩ : ∃ y_ : List (S61), y_ = (y217.set (t202 : Int).toNat (⟨(rd_T61 y217 t202).f0, (rd_T61 y217 t202).f1, (rd_T61 y217 t202).f2, (rd_T61 y217 t202).f3, wrap64 (((rd_T61 y217 t202).f4) + 1), (rd_T61 y217 t202).f5⟩ : S61)) := ⟨_, rfl⟩
          replace H : (if a3 = 1 then (impl_AddResult.j1 kj9 l0 a4 a5 (y219.set (t202 : Int).toNat (⟨(rd_T61 y219 t202).f0, (rd_T61 y219 t202).f1, wrap64 (((rd_T61 y219 t202).f2) + 1), (rd_T61 y219 t202).f3, (rd_T61 y219 t202).f4, (rd_T61 y219 t202).f5⟩ : S61)) t202 t203) else (impl_AddResult.j1 kj9 l0 a4 a5 (y219.set (t203 : Int).toNat (⟨(rd_T61 y219 t203).f0, (rd_T61 y219 t203).f1, wrap64 (((rd_T61 y219 t203).f2) + 1), (rd_T61 y219 t203).f3, (rd_T61 y219 t203).f4, (rd_T61 y219 t203).f5⟩ : S61)) t202 t203)) = some (r1, r2) := by first | (rw [hy219]; with_reducible exact H) | (have H2_ := (Option.bind_some _ _).symm.trans H; rw [hy219]; with_reducible exact H2_) | (have H2_ := (Option.bind_some _ _).symm.trans H; with_reducible exact H2_) | with_reducible exact H | (rw [hy219]; exact H) | exact H
          have Ny219 := Aside0.mk hy219
          clear hy219
          have HC41 := Aside0.mk H
          clear H
          obtain ⟨Ao42, co42, eo42⟩ := Kd.S_slice HO_14.out
          subst eo42
          have p208 : 0 ≤ (t202 : Int) := of_decide_eq_true (by first | (with_reducible assumption) | assumption)
          have q208 : t202 < (t199.length : Int) := of_decide_eq_true (by first | (with_reducible assumption) | assumption)
          obtain ⟨ad208, A208_5, c208_5, e208, hx208_0, hx208_1, hx208_2, hx208_3, hx208_4, hx208_5, hl208_5, hi208_5⟩ := at_T61 (Kd.S_reads' HO_14.out).2.2 t202 p208 q208
          cases e208
          obtain ⟨ce208, hce208, hMe208, hcc208⟩ := Kd.S_get HO_14.out z61 t202 p208 (by first | exact q208 | exact of_decide_eq_true (by first | (with_reducible assumption) | assumption) | (have e_ := (Kd.S_reads' HO_14.out).1; omega))
          obtain ⟨ve208_5, rfl, ge208_5⟩ := k61_openM hMe208
          have hv208_5 := hcc208 5 _ rfl
          rw [add_field _ _ 5 (by omega)] at hv208_5
          replace hv208_5 := Option.some.inj (hv208_5.symm.trans hx208_5)
          rw [hv208_5] at ge208_5
          have HL208_5 := Aside0.mk (show Kd.R (Kd.int .i64) 3 _ _ _ _ ((rd_T61 t199 t202).f5) from ge208_5)
          clear hv208_5 ge208_5
          have HX208_5 := Aside0.mk hx208_5
          clear hcc208 hce208
          have HR208_5 := Aside0.mk hi208_5
          have HC208_5 := Aside0.mk hl208_5
          clear hi208_5 hl208_5
          replace p208 := eq_true p208
          replace q208 := eq_true q208
          obtain ⟨go43, co43, eo43, gb43, gl43, cl43, HG43⟩ := Kd.S_form HO_14.out (by have h_ : (t202 : Int) < ((t199.length : Int) : Int) := of_decide_eq_true (by first | (with_reducible assumption) | assumption); have h2_ : 0 ≤ (t202 : Int) := (of_decide_eq_true (by first | (with_reducible assumption) | assumption)); omega)
          (first | cases eo43 | (injection eo43 with ea_ en_ ec_; (first | subst ea_ | (injection ea_ with ea_; subst ea_)); subst ec_; clear en_))
          have GB43 := Aside0.mk gb43
          have GG43 := Aside0.mk HG43
          clear gb43 gl43 HG43
          (first | simp only [add_plain] at hx208_0 | skip)
          (first | simp only [add_plain] at hx208_1 | skip)
          (first | simp only [add_plain] at hx208_2 | skip)
          (first | simp only [add_plain] at hx208_3 | skip)
          (first | simp only [add_plain] at hx208_4 | skip)
          (first | simp only [add_plain] at hx208_5 | skip)
          have HNE : Aside0 (¬ t202 = t203) := ⟨HNE0.out rfl⟩
          clear HNE0
          have pj_ : 0 ≤ (t203 : Int) := of_decide_eq_true (by first | (with_reducible assumption) | assumption)
          have qj_ : t203 < (t199.length : Int) := of_decide_eq_true (by first | (with_reducible assumption) | assumption)
          obtain ⟨adj_, A2_, c2_, ej_, _, _, _, _, _, hxj_, hlj_, hij_⟩ := at_T61 (Kd.S_reads' HO_14.out).2.2 t203 pj_ qj_
          obtain rfl : (⟨go43, 0, none⟩ : Addr) = adj_ := (by injection ej_)
          (first | simp only [add_plain] at hxj_ | skip)
          clear hlj_ hij_
          replace pj_ := eq_true pj_
          replace qj_ := eq_true qj_
          have hXi : wc.cell? ⟨go43, (t202 : Int).toNat * 6 + 5, none⟩ = some (.slice A208_5 ((rd_T61 t199 t202).f5).length c208_5) := hx208_5
          have hXj : wc.cell? ⟨go43, (t203 : Int).toNat * 6 + 5, none⟩ = some (.slice A2_ ((rd_T61 t199 t203).f5).length c2_) := hxj_
          have HY2 : Aside0 (y214 = ((rd_T61 t199 t203).f5) ++ [a1]) := ⟨by rw [Ny214.out, Ny212.out, rd_other (of_eq_true p208) (of_eq_true pj_) HNE.out]⟩
          have LMj : Aside0 (((rd_T61 t199 t203).f5).length < 17592186044416) := ⟨by have h_ := LMc38.out; rw [Ny212.out, rd_other (of_eq_true p208) (of_eq_true pj_) HNE.out] at h_; exact h_⟩
          clear hxj_ hx208_0 hx208_1 hx208_2 hx208_3 hx208_4 hx208_5
          go_wp2
          refine start_ (n := 26) (S := fun w' => w'.cell? ⟨go43, (t202 : Int).toNat * 6 + 5, none⟩ = some (.slice A208_5 ((rd_T61 t199 t202).f5).length c208_5) ∧ w'.cell? ⟨go43, (t203 : Int).toNat * 6 + 5, none⟩ = some (.slice A2_ ((rd_T61 t199 t203).f5).length c2_)) (ds := [22, 25]) #[zz,zz,zz,zz,zz,zz,zz,zz,zz,zz,zz,zz,zz,zz,zz,zz,zz,zz,zz,zz,zz,zz,zz,zz,zz,zz] (by kernel_rfl) rfl rfl ⟨hXi, hXj⟩ (fun hHeld => ?_)
          have n0_ := Aside0.mk (Kd.S_drew HO_14.out)
          have n1_ := Aside0.mk (below_drew1 HB.out)
          clear HO_14; clear HB
          have HO_14 := n0_; have HB := n1_
          clear n0_ n1_ hXi hXj HL208_5 HX208_5 HR208_5 HC208_5
          generalize wc.drew = wd at HO_14 HB hHeld ⊢
          obtain ⟨hr1_, hr2_, hap_, hg1_, hg2_⟩ := two_rows HO_14.out (of_eq_true p208) (of_eq_true q208) (of_eq_true pj_) (of_eq_true qj_) HNE.out hHeld.1 hHeld.2
          have HA0 : Aside0 (TwoA w wd wd (.slice A208_5 ((rd_T61 t199 t202).f5).length c208_5) (.slice A2_ ((rd_T61 t199 t203).f5).length c2_) ((rd_T61 t199 t202).f5) ((rd_T61 t199 t203).f5)) := ⟨⟨HB.out, Below.refl _ _, hr1_, hr2_⟩⟩
          have HAP := Aside0.mk hap_; have HG1 := Aside0.mk hg1_; have HG2 := Aside0.mk hg2_
          have HHELD := Aside0.mk hHeld
          have hBG := Aside0.mk (Kd.S_base HO_14.out go43 rfl); have hLG := Aside0.mk (Kd.S_lt HO_14.out go43 rfl)
          clear hr1_ hr2_ hap_ hg1_ hg2_
          refine pure_ (i := 0) (N := some 57) (v := ?_) (a' := ?_) #[oo,zz,zz,zz,zz,zz,zz,zz,zz,zz,zz,zz,zz,zz,zz,zz,zz,zz,zz,zz,zz,zz,zz,zz,zz,zz] rfl rfl (by kernel_rfl) (fun _ _ _ h => h) (Or.inl ⟨by rfl, ?_⟩) ?_ ?_
          rotate_left
          ·
           intro w'
           go_simp
           with_reducible rfl
          rotate_left
          ·
           simp only [Act.put, List.setIfInBounds_toArray, List.set_cons_zero, List.set_cons_succ, i64_w, i32_w]
           rfl
          refine pure_ (i := 1) (N := some 58) (v := ?_) (a' := ?_) #[oo,oo,zz,zz,zz,zz,zz,zz,zz,zz,zz,zz,zz,zz,zz,zz,zz,zz,zz,zz,zz,zz,zz,zz,zz,zz] rfl rfl (by kernel_rfl) (fun _ _ _ h => h) (Or.inl ⟨by rfl, ?_⟩) ?_ ?_
          rotate_left
          ·
           intro w'
           go_simp
           with_reducible rfl
          rotate_left
          ·
           simp only [Act.put, List.setIfInBounds_toArray, List.set_cons_zero, List.set_cons_succ, i64_w, i32_w]
           rfl
          refine pure_ (i := 2) (N := some 59) (v := ?_) (a' := ?_) #[oo,oo,oo,zz,zz,zz,zz,zz,zz,zz,zz,zz,zz,zz,zz,zz,zz,zz,zz,zz,zz,zz,zz,zz,zz,zz] rfl rfl (by kernel_rfl) (fun _ _ _ h => h) (Or.inl ⟨by rfl, ?_⟩) ?_ ?_
          rotate_left
          ·
           intro w'
           go_simp
           with_reducible rfl
          rotate_left
          ·
           simp only [Act.put, List.setIfInBounds_toArray, List.set_cons_zero, List.set_cons_succ, i64_w, i32_w]
           rfl
          refine pure_ (i := 3) (N := some 60) (v := ?_) (a' := ?_) #[oo,oo,oo,oo,zz,zz,zz,zz,zz,zz,zz,zz,zz,zz,zz,zz,zz,zz,zz,zz,zz,zz,zz,zz,zz,zz] rfl rfl (by kernel_rfl) (fun _ _ _ h => h) (Or.inl ⟨by rfl, ?_⟩) ?_ ?_
          rotate_left
          ·
           intro w'
           go_simp
           with_reducible rfl
          rotate_left
          ·
           simp only [Act.put, List.setIfInBounds_toArray, List.set_cons_zero, List.set_cons_succ, i64_w, i32_w]
           rfl
          refine pure_ (i := 4) (N := some 61) (v := ?_) (a' := ?_) #[oo,oo,oo,oo,oo,zz,zz,zz,zz,zz,zz,zz,zz,zz,zz,zz,zz,zz,zz,zz,zz,zz,zz,zz,zz,zz] rfl rfl (by kernel_rfl) (fun _ _ _ h => h) (Or.inl ⟨by rfl, ?_⟩) ?_ ?_
          rotate_left
          ·
           intro w'
           go_simp
           with_reducible rfl
          rotate_left
          ·
           simp only [Act.put, List.setIfInBounds_toArray, List.set_cons_zero, List.set_cons_succ, i64_w, i32_w]
           rfl
          refine pure_ (i := 5) (N := some 62) (v := ?_) (a' := ?_) #[oo,oo,oo,oo,oo,oo,zz,zz,zz,zz,zz,zz,zz,zz,zz,zz,zz,zz,zz,zz,zz,zz,zz,zz,zz,zz] rfl rfl (by kernel_rfl) (fun _ _ _ h => h) (Or.inl ⟨by rfl, ?_⟩) ?_ ?_
          rotate_left
          ·
           intro w'
           go_simp
           with_reducible rfl
          rotate_left
          ·
           simp only [Act.put, List.setIfInBounds_toArray, List.set_cons_zero, List.set_cons_succ, i64_w, i32_w]
           rfl
          refine pure_ (i := 6) (N := some 63) (v := ?_) (a' := ?_) #[oo,oo,oo,oo,oo,oo,oo,zz,zz,zz,zz,zz,zz,zz,zz,zz,zz,zz,zz,zz,zz,zz,zz,zz,zz,zz] rfl rfl (by kernel_rfl) (fun _ _ _ h => h) (Or.inl ⟨by rfl, ?_⟩) ?_ ?_
          rotate_left
          ·
           intro w'
           go_simp
           with_reducible rfl
          rotate_left
          ·
           simp only [Act.put, List.setIfInBounds_toArray, List.set_cons_zero, List.set_cons_succ, i64_w, i32_w]
           rfl
          refine pure_ (i := 7) (N := some 64) (v := ?_) (a' := ?_) #[oo,oo,oo,oo,oo,oo,oo,oo,zz,zz,zz,zz,zz,zz,zz,zz,zz,zz,zz,zz,zz,zz,zz,zz,zz,zz] rfl rfl (by kernel_rfl) (fun _ _ _ h => h) (Or.inl ⟨by rfl, ?_⟩) ?_ ?_
          rotate_left
          ·
           intro w'
           go_simp
           with_reducible rfl
          rotate_left
          ·
           simp only [Act.put, List.setIfInBounds_toArray, List.set_cons_zero, List.set_cons_succ, i64_w, i32_w]
           rfl
          refine pure_ (i := 9) (N := some 66) (v := ?_) (a' := ?_) #[oo,oo,oo,oo,oo,oo,oo,oo,zz,oo,zz,zz,zz,zz,zz,zz,zz,zz,zz,zz,zz,zz,zz,zz,zz,zz] rfl rfl (by kernel_rfl) (fun _ _ _ h => h) (Or.inl ⟨by rfl, ?_⟩) ?_ ?_
          rotate_left
          ·
           intro w'
           go_simp
           with_reducible rfl
          rotate_left
          ·
           simp only [Act.put, List.setIfInBounds_toArray, List.set_cons_zero, List.set_cons_succ, i64_w, i32_w]
           rfl
          refine pure_ (i := 12) (N := some 69) (v := ?_) (a' := ?_) #[oo,oo,oo,oo,oo,oo,oo,oo,zz,oo,zz,zz,oo,zz,zz,zz,zz,zz,zz,zz,zz,zz,zz,zz,zz,zz] rfl rfl (by kernel_rfl) (fun _ _ _ h => h) (Or.inl ⟨by rfl, ?_⟩) ?_ ?_
          rotate_left
          ·
           intro w'
           go_simp
           with_reducible rfl
          rotate_left
          ·
           simp only [Act.put, List.setIfInBounds_toArray, List.set_cons_zero, List.set_cons_succ, i64_w, i32_w]
           rfl
          refine pure_ (i := 13) (N := some 70) (v := ?_) (a' := ?_) #[oo,oo,oo,oo,oo,oo,oo,oo,zz,oo,zz,zz,oo,oo,zz,zz,zz,zz,zz,zz,zz,zz,zz,zz,zz,zz] rfl rfl (by kernel_rfl) (fun _ _ _ h => h) (Or.inl ⟨by rfl, ?_⟩) ?_ ?_
          rotate_left
          ·
           intro w'
           go_simp
           with_reducible rfl
          rotate_left
          ·
           simp only [Act.put, List.setIfInBounds_toArray, List.set_cons_zero, List.set_cons_succ, i64_w, i32_w]
           rfl
          refine pure_ (i := 14) (N := some 71) (v := ?_) (a' := ?_) #[oo,oo,oo,oo,oo,oo,oo,oo,zz,oo,zz,zz,oo,oo,oo,zz,zz,zz,zz,zz,zz,zz,zz,zz,zz,zz] rfl rfl (by kernel_rfl) (fun _ _ _ h => h) (Or.inl ⟨by rfl, ?_⟩) ?_ ?_
          rotate_left
          ·
           intro w'
           go_simp
           with_reducible rfl
          rotate_left
          ·
           simp only [Act.put, List.setIfInBounds_toArray, List.set_cons_zero, List.set_cons_succ, i64_w, i32_w]
           rfl
          refine pure_ (i := 15) (N := some 72) (v := ?_) (a' := ?_) #[oo,oo,oo,oo,oo,oo,oo,oo,zz,oo,zz,zz,oo,oo,oo,oo,zz,zz,zz,zz,zz,zz,zz,zz,zz,zz] rfl rfl (by kernel_rfl) (fun _ _ _ h => h) (Or.inl ⟨by rfl, ?_⟩) ?_ ?_
          rotate_left
          ·
           intro w'
           go_simp
           with_reducible rfl
          rotate_left
          ·
           simp only [Act.put, List.setIfInBounds_toArray, List.set_cons_zero, List.set_cons_succ, i64_w, i32_w]
           rfl
          refine pure_ (i := 17) (N := some 74) (v := ?_) (a' := ?_) #[oo,oo,oo,oo,oo,oo,oo,oo,zz,oo,zz,zz,oo,oo,oo,oo,zz,oo,zz,zz,zz,zz,zz,zz,zz,zz] rfl rfl (by kernel_rfl) (fun _ _ _ h => h) (Or.inl ⟨by rfl, ?_⟩) ?_ ?_
          rotate_left
          ·
           intro w'
           go_simp
           with_reducible rfl
          rotate_left
          ·
           simp only [Act.put, List.setIfInBounds_toArray, List.set_cons_zero, List.set_cons_succ, i64_w, i32_w]
           rfl
          refine take_ (i := 8) (N := some 65) (v := ?_) (a' := ?_) #[oo,oo,oo,oo,oo,oo,oo,oo,oo,oo,zz,zz,oo,oo,oo,oo,zz,oo,zz,zz,zz,zz,zz,zz,zz,zz] rfl rfl (by kernel_rfl) (fun _ _ _ h => h) (Or.inl ⟨by rfl, ?_⟩) hHeld ?_ ?_
          rotate_left
          ·
           rintro w' ⟨s0, s1⟩
           go_simp
           with_reducible rfl
          rotate_left
          ·
           simp only [Act.put, List.setIfInBounds_toArray, List.set_cons_zero, List.set_cons_succ, i64_w, i32_w]
           rfl
          refine take_ (i := 16) (N := some 73) (v := ?_) (a' := ?_) #[oo,oo,oo,oo,oo,oo,oo,oo,oo,oo,zz,zz,oo,oo,oo,oo,oo,oo,zz,zz,zz,zz,zz,zz,zz,zz] rfl rfl (by kernel_rfl) (fun _ _ _ h => h) (Or.inl ⟨by rfl, ?_⟩) hHeld ?_ ?_
          rotate_left
          ·
           rintro w' ⟨s0, s1⟩
           go_simp
           with_reducible rfl
          rotate_left
          ·
           simp only [Act.put, List.setIfInBounds_toArray, List.set_cons_zero, List.set_cons_succ, i64_w, i32_w]
           rfl
          refine join_ (σ := Value × Value × Value × Value) (fuel' := 6) (l' := #[oo,oo,oo,oo,oo,oo,oo,oo,oo,oo,oo,oo,oo,oo,oo,oo,oo,oo,oo,oo,zz,zz,zz,zz,zz,zz]) (ns := fun s => [(67, s.1), (75, s.2.1), (68, s.2.2.1), (76, s.2.2.2)]) (F := fun s w' => TwoF w wd w' s.2.2.1 s.2.2.2 (.slice A208_5 ((rd_T61 t199 t202).f5).length c208_5) (.slice A2_ ((rd_T61 t199 t203).f5).length c2_) y209 y214) ?hcont ?_
          rotate_left
          ·
           intro hcont_
           have HC_ := HHELD
           refine two_ (i := 10) (j := 18) (Ni := some 67) (Nj := some 75) #[oo,oo,oo,oo,oo,oo,oo,oo,oo,oo,oo,zz,oo,oo,oo,oo,oo,oo,zz,zz,zz,zz,zz,zz,zz,zz] #[oo,oo,oo,oo,oo,oo,oo,oo,oo,oo,zz,zz,oo,oo,oo,oo,oo,oo,oo,zz,zz,zz,zz,zz,zz,zz] rfl rfl rfl rfl (by kernel_rfl) (by decide) (by decide) (fun K hK => ?_) (fun K hK => ?_)
           ·
            refine Kd.R_lit_step (Kd.int .i64) _ 3 ?hg (N := 67) ?hd (xs := [a2]) (inner := [.int .i64 a2]) (ok := fun _ => True) (okp := fun _ => True) ?hr ?hp (fun _ hk => hk) trivial (Below.refl _ _) (Nat.le_refl _) (by simp) ?_; (case hd => rfl); (case hg => rfl); (case hr => first | (go_simp; done) | (go_simp; rfl)); (case hp => exact Reps.snoc (Reps.none _ _) (p := a2) (c := [.int .i64 a2]) rfl rfl)
            intro vb1 wa hob_ hb_ hgb_ hnb_
            obtain ⟨Ab1, cb1, eb_⟩ := Kd.R_slice hob_; subst eb_
            have HX1 := Aside0.mk hob_
            have HA_ := Aside0.mk (HA0.out.box hb_); clear HA0; have HA0 := HA_; clear HA_
            have HCc := Aside0.mk (And.intro ((hb_.cell (World.block_lt_of_cell? _ _ HC_.out.1)).trans HC_.out.1) ((hb_.cell (World.block_lt_of_cell? _ _ HC_.out.2)).trans HC_.out.2)); clear HC_; have HC_ := HCc; clear HCc
            clear hob_ hb_ hgb_ hnb_
            refine hK.out _ _ HC_.out (fun hHeld => ?_)
            clear hK K
            refine norm_ (a' := ?_) ?_ ?_
            rotate_left
            ·
             show Act.put _ (some 67) _ = _
             simp only [Act.put, List.setIfInBounds_toArray, List.set_cons_zero, List.set_cons_succ, i64_w, i32_w]
             rfl
            refine two_ (i := 11) (j := 18) (Ni := some 68) (Nj := some 75) #[oo,oo,oo,oo,oo,oo,oo,oo,oo,oo,oo,oo,oo,oo,oo,oo,oo,oo,zz,zz,zz,zz,zz,zz,zz,zz] #[oo,oo,oo,oo,oo,oo,oo,oo,oo,oo,oo,zz,oo,oo,oo,oo,oo,oo,oo,zz,zz,zz,zz,zz,zz,zz] rfl rfl rfl rfl (by kernel_rfl) (by decide) (by decide) (fun K hK => ?_) (fun K hK => ?_)
            ·
             refine Kd.R_append_rows_step (Kd.int .i64) (w0 := w) w.heap.size (by rfl) (.tmp 65) (.tmp 67) 41 3 (.int .i64 0) 8 rfl Try.underlying41 info3 rfl (by decide) (by omega) (.slice A208_5 ((rd_T61 t199 t202).f5).length c208_5) ((rd_T61 t199 t202).f5) [a2] _ _ _ (fun _ => True) (fun _ => False) rfl rfl ?aO ?aR (fun _ _ h => h) (fun _ h => h.elim) ?aF ?aB ?aS ?aL ?_
             (case aR => exact (Kd.R_reads' HX1.out).2.2)
             (case aB => exact HA0.out.below)
             (case aF => exact (fun _ _ => trivial))
             (case aO => exact HA0.out.r1)
             (case aS => exact HA0.out.below.size)
             (case aL => have := LMc34.out; simp only [List.length_cons, List.length_nil]; omega)
             intro v1 wb ho hb hg hat
             rw [← Ny209.out] at ho
             have HBB := Aside0.mk (HA0.out.append HAP.out ho hb hg hat); clear HA0; have HI := HBB; clear HBB
             have HCc := Aside0.mk (And.intro ((World.cell?_of_block (a := ⟨go43, (t202 : Int).toNat * 6 + 5, none⟩) (hg.block go43 (World.block_lt_of_cell? _ _ HC_.out.1) (fun e => HG1.out go43 e.symm rfl))).trans HC_.out.1) ((World.cell?_of_block (a := ⟨go43, (t203 : Int).toNat * 6 + 5, none⟩) (hg.block go43 (World.block_lt_of_cell? _ _ HC_.out.1) (fun e => HG1.out go43 e.symm rfl))).trans HC_.out.2)); clear HC_; have HC_ := HCc; clear HCc
             clear ho hb hg hat
             refine hK.out _ _ HC_.out (fun hHeld => ?_)
             clear hK K
             refine norm_ (a' := ?_) ?_ ?_
             rotate_left
             ·
              show Act.put _ (some 68) _ = _
              simp only [Act.put, List.setIfInBounds_toArray, List.set_cons_zero, List.set_cons_succ, i64_w, i32_w]
              rfl
             refine one_ (i := 18) (N := some 75) #[oo,oo,oo,oo,oo,oo,oo,oo,oo,oo,oo,oo,oo,oo,oo,oo,oo,oo,oo,zz,zz,zz,zz,zz,zz,zz] rfl rfl (by kernel_rfl) (by decide) (fun K hK => ?_)
             refine Kd.R_lit_step (Kd.int .i64) _ 3 ?hg (N := 75) ?hd (xs := [a1]) (inner := [.int .i64 a1]) (ok := fun _ => True) (okp := fun _ => True) ?hr ?hp (fun _ hk => hk) trivial (Below.refl _ _) (Nat.le_refl _) (by simp) ?_; (case hd => rfl); (case hg => rfl); (case hr => first | (go_simp; done) | (go_simp; rfl)); (case hp => exact Reps.snoc (Reps.none _ _) (p := a1) (c := [.int .i64 a1]) rfl rfl)
             intro vb2 wx hob_ hb_ hgb_ hnb_
             obtain ⟨Ab2, cb2, eb_⟩ := Kd.R_slice hob_; subst eb_
             have HX2 := Aside0.mk hob_
             have HA_ := Aside0.mk (HI.out.box hb_); clear HI; have HI := HA_; clear HA_
             have HCc := Aside0.mk (And.intro ((hb_.cell (World.block_lt_of_cell? _ _ HC_.out.1)).trans HC_.out.1) ((hb_.cell (World.block_lt_of_cell? _ _ HC_.out.2)).trans HC_.out.2)); clear HC_; have HC_ := HCc; clear HCc
             clear hob_ hb_ hgb_ hnb_
             refine hK.out _ _ HC_.out (fun hHeld => ?_)
             clear hK K
             refine norm_ (a' := ?_) ?_ ?_
             rotate_left
             ·
              show Act.put _ (some 75) _ = _
              simp only [Act.put, List.setIfInBounds_toArray, List.set_cons_zero, List.set_cons_succ, i64_w, i32_w]
              rfl
             refine one_ (i := 19) (N := some 76) #[oo,oo,oo,oo,oo,oo,oo,oo,oo,oo,oo,oo,oo,oo,oo,oo,oo,oo,oo,oo,zz,zz,zz,zz,zz,zz] rfl rfl (by kernel_rfl) (by decide) (fun K hK => ?_)
             refine Kd.R_append_rows_step (Kd.int .i64) (w0 := w) w.heap.size (by rfl) (.tmp 73) (.tmp 75) 41 3 (.int .i64 0) 8 rfl Try.underlying41 info3 rfl (by decide) (by omega) (.slice A2_ ((rd_T61 t199 t203).f5).length c2_) ((rd_T61 t199 t203).f5) [a1] _ _ _ (fun _ => True) (fun _ => False) rfl rfl ?aO ?aR (fun _ _ h => h) (fun _ h => h.elim) ?aF ?aB ?aS ?aL ?_
             (case aR => exact (Kd.R_reads' HX2.out).2.2)
             (case aB => exact HI.out.below)
             (case aF => exact (fun _ _ => trivial))
             (case aO => exact HI.out.r2)
             (case aS => exact HI.out.below.size)
             (case aL => have := LMj.out; simp only [List.length_cons, List.length_nil]; omega)
             intro v2 wy ho hb hg hat
             rw [← HY2.out] at ho
             have HFF := Aside0.mk (HI.out.append ho hb hg hat)
             have HCc := Aside0.mk (And.intro ((World.cell?_of_block (a := ⟨go43, (t202 : Int).toNat * 6 + 5, none⟩) (hg.block go43 (World.block_lt_of_cell? _ _ HC_.out.1) (fun e => HG2.out go43 e.symm rfl))).trans HC_.out.1) ((World.cell?_of_block (a := ⟨go43, (t203 : Int).toNat * 6 + 5, none⟩) (hg.block go43 (World.block_lt_of_cell? _ _ HC_.out.1) (fun e => HG2.out go43 e.symm rfl))).trans HC_.out.2)); clear HC_; have HC_ := HCc; clear HCc
             clear ho hb hg hat
             refine hK.out _ _ HC_.out (fun hHeld => ?_)
             clear hK K
             refine norm_ (a' := ?_) ?_ ?_
             rotate_left
             ·
              show Act.put _ (some 76) _ = _
              simp only [Act.put, List.setIfInBounds_toArray, List.set_cons_zero, List.set_cons_succ, i64_w, i32_w]
              rfl
             exact norm_ (by simp only [putAll, Act.put, List.setIfInBounds_toArray, List.set_cons_zero, List.set_cons_succ]; rfl) (hcont_ (.slice (Ab1) 1 cb1, .slice Ab2 1 cb2, v1, v2) _ HFF.out)
            ·
             refine Kd.R_lit_step (Kd.int .i64) _ 3 ?hg (N := 75) ?hd (xs := [a1]) (inner := [.int .i64 a1]) (ok := fun _ => True) (okp := fun _ => True) ?hr ?hp (fun _ hk => hk) trivial (Below.refl _ _) (Nat.le_refl _) (by simp) ?_; (case hd => rfl); (case hg => rfl); (case hr => first | (go_simp; done) | (go_simp; rfl)); (case hp => exact Reps.snoc (Reps.none _ _) (p := a1) (c := [.int .i64 a1]) rfl rfl)
             intro vb2 wb hob_ hb_ hgb_ hnb_
             obtain ⟨Ab2, cb2, eb_⟩ := Kd.R_slice hob_; subst eb_
             have HX2 := Aside0.mk hob_
             have HX1' := Aside0.mk (Kd.R_below HX1.out hb_); clear HX1; have HX1 := HX1'; clear HX1'
             have HD2 := Aside0.mk (show ∀ k, (Value.slice A208_5 ((rd_T61 t199 t202).f5).length c208_5).ownBlock = some k → (Value.slice Ab2 _ cb2).ownBlock ≠ some k from fun k h1 h2 => by have h3_ := Kd.R_lt HA0.out.r1 k h1; have h4_ := Kd.R_base hob_ k h2; omega)
             have HA_ := Aside0.mk (HA0.out.box hb_); clear HA0; have HA0 := HA_; clear HA_
             have HCc := Aside0.mk (And.intro ((hb_.cell (World.block_lt_of_cell? _ _ HC_.out.1)).trans HC_.out.1) ((hb_.cell (World.block_lt_of_cell? _ _ HC_.out.2)).trans HC_.out.2)); clear HC_; have HC_ := HCc; clear HCc
             clear hob_ hb_ hgb_ hnb_
             refine hK.out _ _ HC_.out (fun hHeld => ?_)
             clear hK K
             refine norm_ (a' := ?_) ?_ ?_
             rotate_left
             ·
              show Act.put _ (some 75) _ = _
              simp only [Act.put, List.setIfInBounds_toArray, List.set_cons_zero, List.set_cons_succ, i64_w, i32_w]
              rfl
             refine one_ (i := 11) (N := some 68) #[oo,oo,oo,oo,oo,oo,oo,oo,oo,oo,oo,oo,oo,oo,oo,oo,oo,oo,oo,zz,zz,zz,zz,zz,zz,zz] rfl rfl (by kernel_rfl) (by decide) (fun K hK => ?_)
             refine Kd.R_append_rows_step (Kd.int .i64) (w0 := w) w.heap.size (by rfl) (.tmp 65) (.tmp 67) 41 3 (.int .i64 0) 8 rfl Try.underlying41 info3 rfl (by decide) (by omega) (.slice A208_5 ((rd_T61 t199 t202).f5).length c208_5) ((rd_T61 t199 t202).f5) [a2] _ _ _ (fun _ => True) (fun _ => False) rfl rfl ?aO ?aR (fun _ _ h => h) (fun _ h => h.elim) ?aF ?aB ?aS ?aL ?_
             (case aR => exact (Kd.R_reads' HX1.out).2.2)
             (case aB => exact HA0.out.below)
             (case aF => exact (fun _ _ => trivial))
             (case aO => exact HA0.out.r1)
             (case aS => exact HA0.out.below.size)
             (case aL => have := LMc34.out; simp only [List.length_cons, List.length_nil]; omega)
             intro v1 wx ho hb hg hat
             rw [← Ny209.out] at ho
             have HX2' := Aside0.mk (Kd.R_mono (ok' := fun _ => True) (Kd.R_step (Kd.R_tight rfl HX2.out) (fun k hk hlt => hg.block k hlt (fun e => HD2.out k e.symm hk.symm))) (fun _ _ => trivial)); clear HX2; have HX2 := HX2'; clear HX2'
             have HBB := Aside0.mk (HA0.out.append HAP.out ho hb hg hat); clear HA0; have HI := HBB; clear HBB
             have HCc := Aside0.mk (And.intro ((World.cell?_of_block (a := ⟨go43, (t202 : Int).toNat * 6 + 5, none⟩) (hg.block go43 (World.block_lt_of_cell? _ _ HC_.out.1) (fun e => HG1.out go43 e.symm rfl))).trans HC_.out.1) ((World.cell?_of_block (a := ⟨go43, (t203 : Int).toNat * 6 + 5, none⟩) (hg.block go43 (World.block_lt_of_cell? _ _ HC_.out.1) (fun e => HG1.out go43 e.symm rfl))).trans HC_.out.2)); clear HC_; have HC_ := HCc; clear HCc
             clear ho hb hg hat
             refine hK.out _ _ HC_.out (fun hHeld => ?_)
             clear hK K
             refine norm_ (a' := ?_) ?_ ?_
             rotate_left
             ·
              show Act.put _ (some 68) _ = _
              simp only [Act.put, List.setIfInBounds_toArray, List.set_cons_zero, List.set_cons_succ, i64_w, i32_w]
              rfl
             refine one_ (i := 19) (N := some 76) #[oo,oo,oo,oo,oo,oo,oo,oo,oo,oo,oo,oo,oo,oo,oo,oo,oo,oo,oo,oo,zz,zz,zz,zz,zz,zz] rfl rfl (by kernel_rfl) (by decide) (fun K hK => ?_)
             refine Kd.R_append_rows_step (Kd.int .i64) (w0 := w) w.heap.size (by rfl) (.tmp 73) (.tmp 75) 41 3 (.int .i64 0) 8 rfl Try.underlying41 info3 rfl (by decide) (by omega) (.slice A2_ ((rd_T61 t199 t203).f5).length c2_) ((rd_T61 t199 t203).f5) [a1] _ _ _ (fun _ => True) (fun _ => False) rfl rfl ?aO ?aR (fun _ _ h => h) (fun _ h => h.elim) ?aF ?aB ?aS ?aL ?_
             (case aR => exact (Kd.R_reads' HX2.out).2.2)
             (case aB => exact HI.out.below)
             (case aF => exact (fun _ _ => trivial))
             (case aO => exact HI.out.r2)
             (case aS => exact HI.out.below.size)
             (case aL => have := LMj.out; simp only [List.length_cons, List.length_nil]; omega)
             intro v2 wy ho hb hg hat
             rw [← HY2.out] at ho
             have HFF := Aside0.mk (HI.out.append ho hb hg hat)
             have HCc := Aside0.mk (And.intro ((World.cell?_of_block (a := ⟨go43, (t202 : Int).toNat * 6 + 5, none⟩) (hg.block go43 (World.block_lt_of_cell? _ _ HC_.out.1) (fun e => HG2.out go43 e.symm rfl))).trans HC_.out.1) ((World.cell?_of_block (a := ⟨go43, (t203 : Int).toNat * 6 + 5, none⟩) (hg.block go43 (World.block_lt_of_cell? _ _ HC_.out.1) (fun e => HG2.out go43 e.symm rfl))).trans HC_.out.2)); clear HC_; have HC_ := HCc; clear HCc
             clear ho hb hg hat
             refine hK.out _ _ HC_.out (fun hHeld => ?_)
             clear hK K
             refine norm_ (a' := ?_) ?_ ?_
             rotate_left
             ·
              show Act.put _ (some 76) _ = _
              simp only [Act.put, List.setIfInBounds_toArray, List.set_cons_zero, List.set_cons_succ, i64_w, i32_w]
              rfl
             exact norm_ (by simp only [putAll, Act.put, List.setIfInBounds_toArray, List.set_cons_zero, List.set_cons_succ]; rfl) (hcont_ (.slice (Ab1) 1 cb1, .slice Ab2 1 cb2, v1, v2) _ HFF.out)
           ·
            refine Kd.R_lit_step (Kd.int .i64) _ 3 ?hg (N := 75) ?hd (xs := [a1]) (inner := [.int .i64 a1]) (ok := fun _ => True) (okp := fun _ => True) ?hr ?hp (fun _ hk => hk) trivial (Below.refl _ _) (Nat.le_refl _) (by simp) ?_; (case hd => rfl); (case hg => rfl); (case hr => first | (go_simp; done) | (go_simp; rfl)); (case hp => exact Reps.snoc (Reps.none _ _) (p := a1) (c := [.int .i64 a1]) rfl rfl)
            intro vb2 wa hob_ hb_ hgb_ hnb_
            obtain ⟨Ab2, cb2, eb_⟩ := Kd.R_slice hob_; subst eb_
            have HX2 := Aside0.mk hob_
            have HD2 := Aside0.mk (show ∀ k, (Value.slice A208_5 ((rd_T61 t199 t202).f5).length c208_5).ownBlock = some k → (Value.slice Ab2 _ cb2).ownBlock ≠ some k from fun k h1 h2 => by have h3_ := Kd.R_lt HA0.out.r1 k h1; have h4_ := Kd.R_base hob_ k h2; omega)
            have HA_ := Aside0.mk (HA0.out.box hb_); clear HA0; have HA0 := HA_; clear HA_
            have HCc := Aside0.mk (And.intro ((hb_.cell (World.block_lt_of_cell? _ _ HC_.out.1)).trans HC_.out.1) ((hb_.cell (World.block_lt_of_cell? _ _ HC_.out.2)).trans HC_.out.2)); clear HC_; have HC_ := HCc; clear HCc
            clear hob_ hb_ hgb_ hnb_
            refine hK.out _ _ HC_.out (fun hHeld => ?_)
            clear hK K
            refine norm_ (a' := ?_) ?_ ?_
            rotate_left
            ·
             show Act.put _ (some 75) _ = _
             simp only [Act.put, List.setIfInBounds_toArray, List.set_cons_zero, List.set_cons_succ, i64_w, i32_w]
             rfl
            refine one_ (i := 10) (N := some 67) #[oo,oo,oo,oo,oo,oo,oo,oo,oo,oo,oo,zz,oo,oo,oo,oo,oo,oo,oo,zz,zz,zz,zz,zz,zz,zz] rfl rfl (by kernel_rfl) (by decide) (fun K hK => ?_)
            refine Kd.R_lit_step (Kd.int .i64) _ 3 ?hg (N := 67) ?hd (xs := [a2]) (inner := [.int .i64 a2]) (ok := fun _ => True) (okp := fun _ => True) ?hr ?hp (fun _ hk => hk) trivial (Below.refl _ _) (Nat.le_refl _) (by simp) ?_; (case hd => rfl); (case hg => rfl); (case hr => first | (go_simp; done) | (go_simp; rfl)); (case hp => exact Reps.snoc (Reps.none _ _) (p := a2) (c := [.int .i64 a2]) rfl rfl)
            intro vb1 wb hob_ hb_ hgb_ hnb_
            obtain ⟨Ab1, cb1, eb_⟩ := Kd.R_slice hob_; subst eb_
            have HX1 := Aside0.mk hob_
            have HX2' := Aside0.mk (Kd.R_below HX2.out hb_); clear HX2; have HX2 := HX2'; clear HX2'
            have HA_ := Aside0.mk (HA0.out.box hb_); clear HA0; have HA0 := HA_; clear HA_
            have HCc := Aside0.mk (And.intro ((hb_.cell (World.block_lt_of_cell? _ _ HC_.out.1)).trans HC_.out.1) ((hb_.cell (World.block_lt_of_cell? _ _ HC_.out.2)).trans HC_.out.2)); clear HC_; have HC_ := HCc; clear HCc
            clear hob_ hb_ hgb_ hnb_
            refine hK.out _ _ HC_.out (fun hHeld => ?_)
            clear hK K
            refine norm_ (a' := ?_) ?_ ?_
            rotate_left
            ·
             show Act.put _ (some 67) _ = _
             simp only [Act.put, List.setIfInBounds_toArray, List.set_cons_zero, List.set_cons_succ, i64_w, i32_w]
             rfl
            refine one_ (i := 11) (N := some 68) #[oo,oo,oo,oo,oo,oo,oo,oo,oo,oo,oo,oo,oo,oo,oo,oo,oo,oo,oo,zz,zz,zz,zz,zz,zz,zz] rfl rfl (by kernel_rfl) (by decide) (fun K hK => ?_)
            refine Kd.R_append_rows_step (Kd.int .i64) (w0 := w) w.heap.size (by rfl) (.tmp 65) (.tmp 67) 41 3 (.int .i64 0) 8 rfl Try.underlying41 info3 rfl (by decide) (by omega) (.slice A208_5 ((rd_T61 t199 t202).f5).length c208_5) ((rd_T61 t199 t202).f5) [a2] _ _ _ (fun _ => True) (fun _ => False) rfl rfl ?aO ?aR (fun _ _ h => h) (fun _ h => h.elim) ?aF ?aB ?aS ?aL ?_
            (case aR => exact (Kd.R_reads' HX1.out).2.2)
            (case aB => exact HA0.out.below)
            (case aF => exact (fun _ _ => trivial))
            (case aO => exact HA0.out.r1)
            (case aS => exact HA0.out.below.size)
            (case aL => have := LMc34.out; simp only [List.length_cons, List.length_nil]; omega)
            intro v1 wx ho hb hg hat
            rw [← Ny209.out] at ho
            have HX2' := Aside0.mk (Kd.R_mono (ok' := fun _ => True) (Kd.R_step (Kd.R_tight rfl HX2.out) (fun k hk hlt => hg.block k hlt (fun e => HD2.out k e.symm hk.symm))) (fun _ _ => trivial)); clear HX2; have HX2 := HX2'; clear HX2'
            have HBB := Aside0.mk (HA0.out.append HAP.out ho hb hg hat); clear HA0; have HI := HBB; clear HBB
            have HCc := Aside0.mk (And.intro ((World.cell?_of_block (a := ⟨go43, (t202 : Int).toNat * 6 + 5, none⟩) (hg.block go43 (World.block_lt_of_cell? _ _ HC_.out.1) (fun e => HG1.out go43 e.symm rfl))).trans HC_.out.1) ((World.cell?_of_block (a := ⟨go43, (t203 : Int).toNat * 6 + 5, none⟩) (hg.block go43 (World.block_lt_of_cell? _ _ HC_.out.1) (fun e => HG1.out go43 e.symm rfl))).trans HC_.out.2)); clear HC_; have HC_ := HCc; clear HCc
            clear ho hb hg hat
            refine hK.out _ _ HC_.out (fun hHeld => ?_)
            clear hK K
            refine norm_ (a' := ?_) ?_ ?_
            rotate_left
            ·
             show Act.put _ (some 68) _ = _
             simp only [Act.put, List.setIfInBounds_toArray, List.set_cons_zero, List.set_cons_succ, i64_w, i32_w]
             rfl
            refine one_ (i := 19) (N := some 76) #[oo,oo,oo,oo,oo,oo,oo,oo,oo,oo,oo,oo,oo,oo,oo,oo,oo,oo,oo,oo,zz,zz,zz,zz,zz,zz] rfl rfl (by kernel_rfl) (by decide) (fun K hK => ?_)
            refine Kd.R_append_rows_step (Kd.int .i64) (w0 := w) w.heap.size (by rfl) (.tmp 73) (.tmp 75) 41 3 (.int .i64 0) 8 rfl Try.underlying41 info3 rfl (by decide) (by omega) (.slice A2_ ((rd_T61 t199 t203).f5).length c2_) ((rd_T61 t199 t203).f5) [a1] _ _ _ (fun _ => True) (fun _ => False) rfl rfl ?aO ?aR (fun _ _ h => h) (fun _ h => h.elim) ?aF ?aB ?aS ?aL ?_
            (case aR => exact (Kd.R_reads' HX2.out).2.2)
            (case aB => exact HI.out.below)
            (case aF => exact (fun _ _ => trivial))
            (case aO => exact HI.out.r2)
            (case aS => exact HI.out.below.size)
            (case aL => have := LMj.out; simp only [List.length_cons, List.length_nil]; omega)
            intro v2 wy ho hb hg hat
            rw [← HY2.out] at ho
            have HFF := Aside0.mk (HI.out.append ho hb hg hat)
            have HCc := Aside0.mk (And.intro ((World.cell?_of_block (a := ⟨go43, (t202 : Int).toNat * 6 + 5, none⟩) (hg.block go43 (World.block_lt_of_cell? _ _ HC_.out.1) (fun e => HG2.out go43 e.symm rfl))).trans HC_.out.1) ((World.cell?_of_block (a := ⟨go43, (t203 : Int).toNat * 6 + 5, none⟩) (hg.block go43 (World.block_lt_of_cell? _ _ HC_.out.1) (fun e => HG2.out go43 e.symm rfl))).trans HC_.out.2)); clear HC_; have HC_ := HCc; clear HCc
            clear ho hb hg hat
            refine hK.out _ _ HC_.out (fun hHeld => ?_)
            clear hK K
            refine norm_ (a' := ?_) ?_ ?_
            rotate_left
            ·
             show Act.put _ (some 76) _ = _
             simp only [Act.put, List.setIfInBounds_toArray, List.set_cons_zero, List.set_cons_succ, i64_w, i32_w]
             rfl
            exact norm_ (by simp only [putAll, Act.put, List.setIfInBounds_toArray, List.set_cons_zero, List.set_cons_succ]; rfl) (hcont_ (.slice (Ab1) 1 cb1, .slice Ab2 1 cb2, v1, v2) _ HFF.out)
          case hcont => 
           rintro ⟨vb1, vb2, v1, v2⟩ w50 hF_
           obtain ⟨B1_, d1_, e1_⟩ := Kd.R_slice hF_.r1; simp only at e1_; subst e1_
           obtain ⟨B2_, d2_, e2_⟩ := Kd.R_slice hF_.r2; simp only at e2_; subst e2_
           have hT_ := two_met HO_14.out (of_eq_true p208) (of_eq_true q208) (of_eq_true pj_) (of_eq_true qj_) HNE.out HHELD.out.1 HHELD.out.2 hF_.keep hF_.r1 hF_.r2 hF_.h1 hF_.h2
           obtain ⟨tc1_, tf1_, tc2_, tf2_, tS_⟩ := hT_
           have HTS := Aside0.mk tS_; have HFB := Aside0.mk hF_.below; clear tS_ hF_
           refine norm_ (a' := ?_) ?_ ?_
           rotate_left
           ·
            simp only [putAll, Act.put, List.setIfInBounds_toArray, List.set_cons_zero, List.set_cons_succ]
            rfl
           refine pure_ (i := 20) (N := some 77) (v := ?_) (a' := ?_) #[oo,oo,oo,oo,oo,oo,oo,oo,oo,oo,oo,oo,oo,oo,oo,oo,oo,oo,oo,oo,oo,zz,zz,zz,zz,zz] rfl rfl (by kernel_rfl) (fun _ _ _ h => h) (Or.inl ⟨by rfl, ?_⟩) ?_ ?_
           rotate_left
           ·
            intro w'
            go_simp
            with_reducible rfl
           rotate_left
           ·
            simp only [Act.put, List.setIfInBounds_toArray, List.set_cons_zero, List.set_cons_succ, i64_w, i32_w]
            rfl
           refine pure_ (i := 21) (N := some 78) (v := ?_) (a' := ?_) #[oo,oo,oo,oo,oo,oo,oo,oo,oo,oo,oo,oo,oo,oo,oo,oo,oo,oo,oo,oo,oo,oo,zz,zz,zz,zz] rfl rfl (by kernel_rfl) (fun _ _ _ h => h) (Or.inl ⟨by rfl, ?_⟩) ?_ ?_
           rotate_left
           ·
            intro w'
            go_simp
            with_reducible rfl
           rotate_left
           ·
            simp only [Act.put, List.setIfInBounds_toArray, List.set_cons_zero, List.set_cons_succ, i64_w, i32_w]
            rfl
           refine last_ (i := 22) (N := none) #[oo,oo,oo,oo,oo,oo,oo,oo,oo,oo,oo,oo,oo,oo,oo,oo,oo,oo,oo,oo,oo,oo,oo,zz,zz,zz] rfl rfl (by kernel_rfl) (by decide) (fun K hK => ?_)
           refine store_step (w1 := (w50.setCell ⟨go43, (t202 : Int).toNat * 6 + 5, none⟩ (.slice B1_ y209.length d1_))) (by rfl) rfl ?hr ?_; (case hr => first | (go_simp; done) | (go_simp; rfl))
           refine hK.out _ _ ?_
           clear hK K
           refine pure_ (i := 23) (N := some 79) (v := ?_) (a' := ?_) #[oo,oo,oo,oo,oo,oo,oo,oo,oo,oo,oo,oo,oo,oo,oo,oo,oo,oo,oo,oo,oo,oo,oo,oo,zz,zz] rfl rfl (by kernel_rfl) (fun _ _ _ h => h) (Or.inl ⟨by rfl, ?_⟩) ?_ ?_
           rotate_left
           ·
            intro w'
            go_simp
            with_reducible rfl
           rotate_left
           ·
            simp only [Act.put, List.setIfInBounds_toArray, List.set_cons_zero, List.set_cons_succ, i64_w, i32_w]
            rfl
           refine pure_ (i := 24) (N := some 80) (v := ?_) (a' := ?_) #[oo,oo,oo,oo,oo,oo,oo,oo,oo,oo,oo,oo,oo,oo,oo,oo,oo,oo,oo,oo,oo,oo,oo,oo,oo,zz] rfl rfl (by kernel_rfl) (fun _ _ _ h => h) (Or.inl ⟨by rfl, ?_⟩) ?_ ?_
           rotate_left
           ·
            intro w'
            go_simp
            with_reducible rfl
           rotate_left
           ·
            simp only [Act.put, List.setIfInBounds_toArray, List.set_cons_zero, List.set_cons_succ, i64_w, i32_w]
            rfl
           refine last_ (i := 25) (N := none) #[oo,oo,oo,oo,oo,oo,oo,oo,oo,oo,oo,oo,oo,oo,oo,oo,oo,oo,oo,oo,oo,oo,oo,oo,oo,oo] rfl rfl (by kernel_rfl) (by decide) (fun K hK => ?_)
           refine store_step (w1 := ((w50.setCell ⟨go43, (t202 : Int).toNat * 6 + 5, none⟩ (.slice B1_ y209.length d1_)).setCell ⟨go43, (t203 : Int).toNat * 6 + 5, none⟩ (.slice B2_ y214.length d2_))) (by rfl) rfl ?hr ?_; (case hr => first | (go_simp; done) | (go_simp; rfl))
           refine hK.out _ _ ?_
           clear hK K
           refine done_ (by kernel_rfl) ?_
           have HBn := Aside0.mk (show Below w.heap.size w ((w50.setCell ⟨go43, (t202 : Int).toNat * 6 + 5, none⟩ (.slice B1_ y209.length d1_)).setCell ⟨go43, (t203 : Int).toNat * 6 + 5, none⟩ (.slice B2_ y214.length d2_)) from below_set (below_set HFB.out hBG.out) hBG.out)
           have hS4_ : Kd.S k61 61 ((w50.setCell ⟨go43, (t202 : Int).toNat * 6 + 5, none⟩ (.slice B1_ y209.length d1_)).setCell ⟨go43, (t203 : Int).toNat * 6 + 5, none⟩ (.slice B2_ y214.length d2_)) w.heap.size (fun _ => True) (.slice (some ⟨go43, 0, none⟩) t199.length co42) y217 := by rw [Ny217.out, Ny212.out]; exact HTS.out
           have HOn := Aside0.mk hS4_
           clear hS4_ HTS HFB tc1_ tf1_ tc2_ tf2_ HO_14 HB
           generalize ((w50.setCell ⟨go43, (t202 : Int).toNat * 6 + 5, none⟩ (.slice B1_ y209.length d1_)).setCell ⟨go43, (t203 : Int).toNat * 6 + 5, none⟩ (.slice B2_ y214.length d2_)) = w51 at HBn HOn ⊢
           have HO_14 := HOn; have HB := HBn; clear HOn HBn HHELD hHeld HA0 HAP HG1 HG2 pj_ qj_ hBG hLG LMj HY2 HNE
           (have p218 : 0 ≤ (t202 : Int) := of_decide_eq_true (by first | (with_reducible assumption) | assumption); have q218 : t202 < (y217.length : Int) := (by have h_ : (t202 : Int) < ((t199.length : Int) : Int) := of_decide_eq_true (by first | (with_reducible assumption) | assumption); first | (have e_ := (Kd.S_reads' HO_14.out).1; omega) | simpa only [Ny212.out, Ny217.out, List.length_set] using h_); have ql218 : ((t202 : Int) < ((t199.length : Int) : Int)) = True := eq_true (of_decide_eq_true (by first | (with_reducible assumption) | assumption)); obtain ⟨ad218, A218_5, c218_5, e218, hx218_0, hx218_1, hx218_2, hx218_3, hx218_4, hx218_5, hl218_5, hi218_5⟩ := at_T61 (Kd.S_reads' HO_14.out).2.2 t202 p218 q218; obtain rfl : (⟨go43, 0, none⟩ : Addr) = ad218 := (by injection e218); obtain ⟨ce218, hce218, hMe218, hcc218⟩ := Kd.S_get HO_14.out z61 t202 p218 (by first | exact q218 | exact of_decide_eq_true (by first | (with_reducible assumption) | assumption) | (have e_ := (Kd.S_reads' HO_14.out).1; omega)); obtain ⟨ve218_5, rfl, ge218_5⟩ := k61_openM hMe218; have hv218_5 := hcc218 5 _ rfl; rw [add_field _ _ 5 (by omega)] at hv218_5; replace hv218_5 := Option.some.inj (hv218_5.symm.trans hx218_5); rw [hv218_5] at ge218_5; have HL218_5 := Aside0.mk (show Kd.R (Kd.int .i64) 3 _ _ _ _ ((rd_T61 y217 t202).f5) from ge218_5); clear hv218_5 ge218_5; have HX218_5 := Aside0.mk hx218_5; clear hcc218 hce218; (first | simp only [add_plain] at hx218_0 | simp only [add_at] at hx218_0 | simp only [Addr.add, Nat.zero_add] at hx218_0 | skip); (first | simp only [add_plain] at hx218_1 | simp only [add_at] at hx218_1 | simp only [Addr.add, Nat.zero_add] at hx218_1 | skip); (first | simp only [add_plain] at hx218_2 | simp only [add_at] at hx218_2 | simp only [Addr.add, Nat.zero_add] at hx218_2 | skip); (first | simp only [add_plain] at hx218_3 | simp only [add_at] at hx218_3 | simp only [Addr.add, Nat.zero_add] at hx218_3 | skip); (first | simp only [add_plain] at hx218_4 | simp only [add_at] at hx218_4 | simp only [Addr.add, Nat.zero_add] at hx218_4 | skip); (first | simp only [add_plain] at hx218_5 | simp only [add_at] at hx218_5 | simp only [Addr.add, Nat.zero_add] at hx218_5 | skip); have HR218_5 := Aside0.mk hi218_5; have HC218_5 := Aside0.mk hl218_5; clear hi218_5 hl218_5; replace p218 := eq_true p218; replace q218 := eq_true q218; have p40 : 0 ≤ (t202 : Int) := of_decide_eq_true (by first | (with_reducible assumption) | assumption); have q40 : (t202 : Int) < ((t199.length : Int) : Int) := of_decide_eq_true (by first | (with_reducible assumption) | assumption); obtain ⟨_, ce40, hcl40, hM40, hcc40, hfr40, _, _⟩ := Kd.S_elem HO_14.out z61 (t202 : Int) p40 q40; obtain ⟨ve40_5, rfl, ge40_5⟩ := k61_openM hM40; have hx40_0 : w51.cell? ⟨go43, (t202 : Int).toNat * 6, none⟩ = some (.int .i64 ((rd_T61 y217 t202).f0)) := hcc40 0 _ rfl; have hx40_1 : w51.cell? ⟨go43, (t202 : Int).toNat * 6 + 1, none⟩ = some (.int .i64 ((rd_T61 y217 t202).f1)) := hcc40 1 _ rfl; have hx40_2 : w51.cell? ⟨go43, (t202 : Int).toNat * 6 + 2, none⟩ = some (.int .i64 ((rd_T61 y217 t202).f2)) := hcc40 2 _ rfl; have hx40_3 : w51.cell? ⟨go43, (t202 : Int).toNat * 6 + 3, none⟩ = some (.int .i64 ((rd_T61 y217 t202).f3)) := hcc40 3 _ rfl; have hx40_4 : w51.cell? ⟨go43, (t202 : Int).toNat * 6 + 4, none⟩ = some (.int .i64 ((rd_T61 y217 t202).f4)) := hcc40 4 _ rfl; have hx40_5 : w51.cell? ⟨go43, (t202 : Int).toNat * 6 + 5, none⟩ = some (ve40_5) := hcc40 5 _ rfl; have hf40_0 : w51.frozen? ⟨go43, (t202 : Int).toNat * 6, none⟩ = false := hfr40 0; have hf40_1 : w51.frozen? ⟨go43, (t202 : Int).toNat * 6 + 1, none⟩ = false := hfr40 1; have hf40_2 : w51.frozen? ⟨go43, (t202 : Int).toNat * 6 + 2, none⟩ = false := hfr40 2; have hf40_3 : w51.frozen? ⟨go43, (t202 : Int).toNat * 6 + 3, none⟩ = false := hfr40 3; have hf40_4 : w51.frozen? ⟨go43, (t202 : Int).toNat * 6 + 4, none⟩ = false := hfr40 4; have hf40_5 : w51.frozen? ⟨go43, (t202 : Int).toNat * 6 + 5, none⟩ = false := hfr40 5; clear hcl40 hcc40 hfr40 hM40; replace p40 := eq_true p40; replace q40 := eq_true q40; have HX53 := Aside0.mk (show Kd.S k61 61 w51 w.heap.size (fun k_ => ((fun _ => True)) k_ ∧ ¬ ((fun _ => False)) k_) (.slice (some ⟨go43, 0, none⟩) t199.length co42) y217 from (by (with_reducible repeat (first | apply Kd.S_alloc | apply Kd.S_drewN | apply Kd.S_drew)); exact Kd.S_mono HO_14.out (fun k_ hk => ⟨trivial, fun e_ => e_⟩))); obtain ⟨oki53, ce53, hcl53, hM53, hcc53, hfr53, hoki53, hH53⟩ := Kd.S_elem HX53.out z61 (t202 : Int) (of_decide_eq_true (by first | (with_reducible assumption) | assumption)) (by have h_ : (t202 : Int) < ((t199.length : Int) : Int) := of_decide_eq_true (by first | (with_reducible assumption) | assumption); first | exact h_ | (have e_ := (Kd.S_reads' HO_14.out).1; omega) | simpa using h_); obtain ⟨ve53_5, rfl, ge53_5⟩ := k61_openM hM53; have HP53 := Kd.S_seg hH53 (of_decide_eq_true (by first | (with_reducible assumption) | assumption)) (by have h_ : (t202 : Int) < ((t199.length : Int) : Int) := of_decide_eq_true (by first | (with_reducible assumption) | assumption); first | exact h_ | (have e_ := (Kd.S_reads' HO_14.out).1; omega) | simpa using h_) (seg := [.int .i64 (wrap64 (((rd_T61 y217 t202).f4) + 1))]) (j := 4) (show 5 ≤ 6 from by decide) (x' := (⟨(rd_T61 y217 t202).f0, (rd_T61 y217 t202).f1, (rd_T61 y217 t202).f2, (rd_T61 y217 t202).f3, wrap64 (((rd_T61 y217 t202).f4) + 1), (rd_T61 y217 t202).f5⟩ : S61)) (k61_mkM _ _ _ (⟨(rd_T61 y217 t202).f0, (rd_T61 y217 t202).f1, (rd_T61 y217 t202).f2, (rd_T61 y217 t202).f3, wrap64 (((rd_T61 y217 t202).f4) + 1), (rd_T61 y217 t202).f5⟩ : S61) (Kd.R_mono ge53_5 (fun _ h_ => Or.inl h_))) (fun _ hk => hk) (fun k_ hk_ => hk_.elim); have hx53_4 := hcc53 4 _ rfl; (try simp only [show (k61).sz = 6 from rfl, Nat.mul_one, Nat.add_zero] at hx53_4); have hf53_4 := hfr53 4; (try simp only [show (k61).sz = 6 from rfl, Nat.mul_one, Nat.add_zero] at hf53_4); clear hcl53 hcc53 hfr53 hM53 hoki53 hH53)
           go_upto_if 90 with (first | ((with_reducible refine gate_store (t := 3) (p := 88) rfl ?_); refine store_event (t := 3) (p := 88) (v := ?vo_w54) (w1 := (w51.setCell ⟨go43, (t202 : Int).toNat * 6 + 4, none⟩ (.int .i64 (wrap64 (((rd_T61 y217 t202).f4) + 1))))) ?hg ?ho ?hn ?hr ?_; (case ho => rfl); (case hg => rfl); (case hn => rfl); (case hr => first | (go_simp; done) | (go_simp; rfl)); intro w54 hw; have hg : w51.grownBy w54 (some go43) := (by rw [hw]; exact HP53.2); have hp_ : Kd.S k61 61 w54 w.heap.size (fun _ => True) (.slice (some ⟨go43, 0, none⟩) t199.length co42) y219 := (by rw [hw, Ny219.out]; exact HP53.1); clear HP53; have n0_ := Aside0.mk (hp_); have n1_ := Aside0.mk (Kd.R_after (v := (.slice (some ⟨go43, 0, none⟩) t199.length co42)) (v1 := (.slice (some ⟨go43, 0, none⟩) t199.length co42)) (ok := (fun _ => True)) (by (with_reducible repeat (first | apply Kd.R_alloc | apply Kd.R_drewN | apply Kd.R_drew)); exact HL218_5.out) hg (.inl rfl)); have n2_ := Aside0.mk ((by rw [hw]; exact below_set (HB.out) GB43.out : Below w.heap.size w w54)); clear HO_14; clear HL218_5; clear HB; have HO_14 := n0_; have HL218_5 := n1_; have HB := n2_; clear n0_ n1_ n2_; clear hg hw hp_))
           (try simp only [Act.put, List.setIfInBounds_toArray, List.set_cons_zero, List.set_cons_succ])
           go_cut [] (fun wc => ∃ (kq : Nat) (x14_40 : List (S61)), Aside0 (impl_AddResult.j1 kq l0 a4 a5 x14_40 t202 t203 = some (r1, r2)) ∧ Aside0 (kq ≤ kj9) ∧ Aside0 (Kd.S k61 61 wc w.heap.size (fun _ => True) (.slice (some ⟨go43, 0, none⟩) t199.length co42) x14_40) ∧ Aside0 (Below w.heap.size w wc))
           case first =>
            have H := HC41.out
            clear HC41
            by_cases c55 : a3 = 1
            ·
             rw [if_pos c55] at H
             have c55b0 : (a3 == 1) = true := beq_iff_eq.mpr c55
             have c55b1 : (a3 != 1) = false := bne_eq_false_iff_eq.mpr c55
             clear c55
             (first | rw [c55b0] | (simp only [i64_w, i32_w]; rw [c55b0]) | skip)
             obtain ⟨y221, hy221⟩ : ∃ y_ : List (S61), y_ = (y219.set (t202 : Int).toNat (⟨(rd_T61 y219 t202).f0, (rd_T61 y219 t202).f1, wrap64 (((rd_T61 y219 t202).f2) + 1), (rd_T61 y219 t202).f3, (rd_T61 y219 t202).f4, (rd_T61 y219 t202).f5⟩ : S61)) := ⟨_, rfl⟩
             replace H : (impl_AddResult.j1 kj9 l0 a4 a5 y221 t202 t203) = some (r1, r2) := by first | (rw [hy221]; with_reducible exact H) | (have H2_ := (Option.bind_some _ _).symm.trans H; rw [hy221]; with_reducible exact H2_) | (have H2_ := (Option.bind_some _ _).symm.trans H; with_reducible exact H2_) | with_reducible exact H | (rw [hy221]; exact H) | exact H
             have Ny221 := Aside0.mk hy221
             clear hy221
             have H' := Aside0.mk H
             clear H
             have p220 : 0 ≤ (t202 : Int) := of_decide_eq_true (by first | (with_reducible assumption) | assumption)
             have q220 : t202 < (y219.length : Int) := (by have h_ : (t202 : Int) < ((t199.length : Int) : Int) := of_decide_eq_true (by first | (with_reducible assumption) | assumption); first | (have e_ := (Kd.S_reads' HO_14.out).1; omega) | simpa only [Ny212.out, Ny217.out, Ny219.out, List.length_set] using h_)
             have ql220 : ((t202 : Int) < ((t199.length : Int) : Int)) = True := eq_true (of_decide_eq_true (by first | (with_reducible assumption) | assumption))
             obtain ⟨ad220, A220_5, c220_5, e220, hx220_0, hx220_1, hx220_2, hx220_3, hx220_4, hx220_5, hl220_5, hi220_5⟩ := at_T61 (Kd.S_reads' HO_14.out).2.2 t202 p220 q220
             obtain rfl : (⟨go43, 0, none⟩ : Addr) = ad220 := (by injection e220)
             obtain ⟨ce220, hce220, hMe220, hcc220⟩ := Kd.S_get HO_14.out z61 t202 p220 (by first | exact q220 | exact of_decide_eq_true (by first | (with_reducible assumption) | assumption) | (have e_ := (Kd.S_reads' HO_14.out).1; omega))
             obtain ⟨ve220_5, rfl, ge220_5⟩ := k61_openM hMe220
             have hv220_5 := hcc220 5 _ rfl
             rw [add_field _ _ 5 (by omega)] at hv220_5
             replace hv220_5 := Option.some.inj (hv220_5.symm.trans hx220_5)
             rw [hv220_5] at ge220_5
             have HL220_5 := Aside0.mk (show Kd.R (Kd.int .i64) 3 _ _ _ _ ((rd_T61 y219 t202).f5) from ge220_5)
             clear hv220_5 ge220_5
             have HX220_5 := Aside0.mk hx220_5
             clear hcc220 hce220
             (first | simp only [add_plain] at hx220_0 | simp only [add_at] at hx220_0 | simp only [Addr.add, Nat.zero_add] at hx220_0 | skip)
             (first | simp only [add_plain] at hx220_1 | simp only [add_at] at hx220_1 | simp only [Addr.add, Nat.zero_add] at hx220_1 | skip)
             (first | simp only [add_plain] at hx220_2 | simp only [add_at] at hx220_2 | simp only [Addr.add, Nat.zero_add] at hx220_2 | skip)
             (first | simp only [add_plain] at hx220_3 | simp only [add_at] at hx220_3 | simp only [Addr.add, Nat.zero_add] at hx220_3 | skip)
             (first | simp only [add_plain] at hx220_4 | simp only [add_at] at hx220_4 | simp only [Addr.add, Nat.zero_add] at hx220_4 | skip)
             (first | simp only [add_plain] at hx220_5 | simp only [add_at] at hx220_5 | simp only [Addr.add, Nat.zero_add] at hx220_5 | skip)
             have HR220_5 := Aside0.mk hi220_5
             have HC220_5 := Aside0.mk hl220_5
             clear hi220_5 hl220_5
             replace p220 := eq_true p220
             replace q220 := eq_true q220
             have p56 : 0 ≤ (t202 : Int) := of_decide_eq_true (by first | (with_reducible assumption) | assumption)
             have q56 : (t202 : Int) < ((t199.length : Int) : Int) := of_decide_eq_true (by first | (with_reducible assumption) | assumption)
             obtain ⟨_, ce56, hcl56, hM56, hcc56, hfr56, _, _⟩ := Kd.S_elem HO_14.out z61 (t202 : Int) p56 q56
             obtain ⟨ve56_5, rfl, ge56_5⟩ := k61_openM hM56
             have hx56_0 : w54.cell? ⟨go43, (t202 : Int).toNat * 6, none⟩ = some (.int .i64 ((rd_T61 y219 t202).f0)) := hcc56 0 _ rfl
             have hx56_1 : w54.cell? ⟨go43, (t202 : Int).toNat * 6 + 1, none⟩ = some (.int .i64 ((rd_T61 y219 t202).f1)) := hcc56 1 _ rfl
             have hx56_2 : w54.cell? ⟨go43, (t202 : Int).toNat * 6 + 2, none⟩ = some (.int .i64 ((rd_T61 y219 t202).f2)) := hcc56 2 _ rfl
             have hx56_3 : w54.cell? ⟨go43, (t202 : Int).toNat * 6 + 3, none⟩ = some (.int .i64 ((rd_T61 y219 t202).f3)) := hcc56 3 _ rfl
             have hx56_4 : w54.cell? ⟨go43, (t202 : Int).toNat * 6 + 4, none⟩ = some (.int .i64 ((rd_T61 y219 t202).f4)) := hcc56 4 _ rfl
             have hx56_5 : w54.cell? ⟨go43, (t202 : Int).toNat * 6 + 5, none⟩ = some (ve56_5) := hcc56 5 _ rfl
             have hf56_0 : w54.frozen? ⟨go43, (t202 : Int).toNat * 6, none⟩ = false := hfr56 0
             have hf56_1 : w54.frozen? ⟨go43, (t202 : Int).toNat * 6 + 1, none⟩ = false := hfr56 1
             have hf56_2 : w54.frozen? ⟨go43, (t202 : Int).toNat * 6 + 2, none⟩ = false := hfr56 2
             have hf56_3 : w54.frozen? ⟨go43, (t202 : Int).toNat * 6 + 3, none⟩ = false := hfr56 3
             have hf56_4 : w54.frozen? ⟨go43, (t202 : Int).toNat * 6 + 4, none⟩ = false := hfr56 4
             have hf56_5 : w54.frozen? ⟨go43, (t202 : Int).toNat * 6 + 5, none⟩ = false := hfr56 5
             clear hcl56 hcc56 hfr56 hM56
             replace p56 := eq_true p56
             replace q56 := eq_true q56
             have HX57 := Aside0.mk (show Kd.S k61 61 w54 w.heap.size (fun k_ => ((fun _ => True)) k_ ∧ ¬ ((fun _ => False)) k_) (.slice (some ⟨go43, 0, none⟩) t199.length co42) y219 from (by (with_reducible repeat (first | apply Kd.S_alloc | apply Kd.S_drewN | apply Kd.S_drew)); exact Kd.S_mono HO_14.out (fun k_ hk => ⟨trivial, fun e_ => e_⟩)))
             obtain ⟨oki57, ce57, hcl57, hM57, hcc57, hfr57, hoki57, hH57⟩ := Kd.S_elem HX57.out z61 (t202 : Int) (of_decide_eq_true (by first | (with_reducible assumption) | assumption)) (by have h_ : (t202 : Int) < ((t199.length : Int) : Int) := of_decide_eq_true (by first | (with_reducible assumption) | assumption); first | exact h_ | (have e_ := (Kd.S_reads' HO_14.out).1; omega) | simpa using h_)
             obtain ⟨ve57_5, rfl, ge57_5⟩ := k61_openM hM57
             have HP57 := Kd.S_seg hH57 (of_decide_eq_true (by first | (with_reducible assumption) | assumption)) (by have h_ : (t202 : Int) < ((t199.length : Int) : Int) := of_decide_eq_true (by first | (with_reducible assumption) | assumption); first | exact h_ | (have e_ := (Kd.S_reads' HO_14.out).1; omega) | simpa using h_) (seg := [.int .i64 (wrap64 (((rd_T61 y219 t202).f2) + 1))]) (j := 2) (show 3 ≤ 6 from by decide) (x' := (⟨(rd_T61 y219 t202).f0, (rd_T61 y219 t202).f1, wrap64 (((rd_T61 y219 t202).f2) + 1), (rd_T61 y219 t202).f3, (rd_T61 y219 t202).f4, (rd_T61 y219 t202).f5⟩ : S61)) (k61_mkM _ _ _ (⟨(rd_T61 y219 t202).f0, (rd_T61 y219 t202).f1, wrap64 (((rd_T61 y219 t202).f2) + 1), (rd_T61 y219 t202).f3, (rd_T61 y219 t202).f4, (rd_T61 y219 t202).f5⟩ : S61) (Kd.R_mono ge57_5 (fun _ h_ => Or.inl h_))) (fun _ hk => hk) (fun k_ hk_ => hk_.elim)
             have hx57_2 := hcc57 2 _ rfl
             (try simp only [show (k61).sz = 6 from rfl, Nat.mul_one, Nat.add_zero] at hx57_2)
             have hf57_2 := hfr57 2
             (try simp only [show (k61).sz = 6 from rfl, Nat.mul_one, Nat.add_zero] at hf57_2)
             clear hcl57 hcc57 hfr57 hM57 hoki57 hH57
             go_wp2_with (first | ((with_reducible refine gate_store (t := 3) (p := 98) rfl ?_); refine store_event (t := 3) (p := 98) (v := ?vo_w58) (w1 := (w54.setCell ⟨go43, (t202 : Int).toNat * 6 + 2, none⟩ (.int .i64 (wrap64 (((rd_T61 y219 t202).f2) + 1))))) ?hg ?ho ?hn ?hr ?_; (case ho => rfl); (case hg => rfl); (case hn => rfl); (case hr => first | (go_simp; done) | (go_simp; rfl)); intro w58 hw; have hg : w54.grownBy w58 (some go43) := (by rw [hw]; exact HP57.2); have hp_ : Kd.S k61 61 w58 w.heap.size (fun _ => True) (.slice (some ⟨go43, 0, none⟩) t199.length co42) y221 := (by rw [hw, Ny221.out]; exact HP57.1); clear HP57; have n0_ := Aside0.mk (hp_); have n1_ := Aside0.mk (Kd.R_after (v := (.slice (some ⟨go43, 0, none⟩) t199.length co42)) (v1 := (.slice (some ⟨go43, 0, none⟩) t199.length co42)) (ok := (fun _ => True)) (by (with_reducible repeat (first | apply Kd.R_alloc | apply Kd.R_drewN | apply Kd.R_drew)); exact HL218_5.out) hg (.inl rfl)); have n2_ := Aside0.mk (Kd.R_after (v := (.slice (some ⟨go43, 0, none⟩) t199.length co42)) (v1 := (.slice (some ⟨go43, 0, none⟩) t199.length co42)) (ok := (fun _ => True)) (by (with_reducible repeat (first | apply Kd.R_alloc | apply Kd.R_drewN | apply Kd.R_drew)); exact HL220_5.out) hg (.inl rfl)); have n3_ := Aside0.mk ((by rw [hw]; exact below_set (HB.out) GB43.out : Below w.heap.size w w58)); clear HO_14; clear HL218_5; clear HL220_5; clear HB; have HO_14 := n0_; have HL218_5 := n1_; have HL220_5 := n2_; have HB := n3_; clear n0_ n1_ n2_ n3_; clear hg hw hp_))
             go_meet
             case rel => exact ⟨_, (y221), H', ⟨by have := HJ9.out; first | omega | exact Nat.le_refl _⟩, ⟨by (with_reducible repeat (first | apply Kd.S_alloc | apply Kd.S_drewN | apply Kd.S_drew)); exact HO_14.out⟩, ⟨by repeat (first | (with_reducible first | exact HB.out | apply below_alloc | apply pw_below_drewN | apply below_drew1) | exact HB.out)⟩⟩
            ·
             rw [if_neg c55] at H
             have c55b0 : (a3 == 1) = false := beq_eq_false_iff_ne.mpr c55
             have c55b1 : (a3 != 1) = true := bne_iff_ne.mpr c55
             (first | rw [c55b0] | (simp only [i64_w, i32_w]; rw [c55b0]) | skip)
             obtain ⟨y223, hy223⟩ : ∃ y_ : List (S61), y_ = (y219.set (t203 : Int).toNat (⟨(rd_T61 y219 t203).f0, (rd_T61 y219 t203).f1, wrap64 (((rd_T61 y219 t203).f2) + 1), (rd_T61 y219 t203).f3, (rd_T61 y219 t203).f4, (rd_T61 y219 t203).f5⟩ : S61)) := ⟨_, rfl⟩
             replace H : (impl_AddResult.j1 kj9 l0 a4 a5 y223 t202 t203) = some (r1, r2) := by first | (rw [hy223]; with_reducible exact H) | (have H2_ := (Option.bind_some _ _).symm.trans H; rw [hy223]; with_reducible exact H2_) | (have H2_ := (Option.bind_some _ _).symm.trans H; with_reducible exact H2_) | with_reducible exact H | (rw [hy223]; exact H) | exact H
             have Ny223 := Aside0.mk hy223
             clear hy223
             have H' := Aside0.mk H
             clear H
             have p222 : 0 ≤ (t203 : Int) := of_decide_eq_true (by first | (with_reducible assumption) | assumption)
             have q222 : t203 < (y219.length : Int) := (by have h_ : (t203 : Int) < ((t199.length : Int) : Int) := of_decide_eq_true (by first | (with_reducible assumption) | assumption); first | (have e_ := (Kd.S_reads' HO_14.out).1; omega) | simpa only [Ny212.out, Ny217.out, Ny219.out, List.length_set] using h_)
             have ql222 : ((t203 : Int) < ((t199.length : Int) : Int)) = True := eq_true (of_decide_eq_true (by first | (with_reducible assumption) | assumption))
             obtain ⟨ad222, A222_5, c222_5, e222, hx222_0, hx222_1, hx222_2, hx222_3, hx222_4, hx222_5, hl222_5, hi222_5⟩ := at_T61 (Kd.S_reads' HO_14.out).2.2 t203 p222 q222
             obtain rfl : (⟨go43, 0, none⟩ : Addr) = ad222 := (by injection e222)
             obtain ⟨ce222, hce222, hMe222, hcc222⟩ := Kd.S_get HO_14.out z61 t203 p222 (by first | exact q222 | exact of_decide_eq_true (by first | (with_reducible assumption) | assumption) | (have e_ := (Kd.S_reads' HO_14.out).1; omega))
             obtain ⟨ve222_5, rfl, ge222_5⟩ := k61_openM hMe222
             have hv222_5 := hcc222 5 _ rfl
             rw [add_field _ _ 5 (by omega)] at hv222_5
             replace hv222_5 := Option.some.inj (hv222_5.symm.trans hx222_5)
             rw [hv222_5] at ge222_5
             have HL222_5 := Aside0.mk (show Kd.R (Kd.int .i64) 3 _ _ _ _ ((rd_T61 y219 t203).f5) from ge222_5)
             clear hv222_5 ge222_5
             have HX222_5 := Aside0.mk hx222_5
             clear hcc222 hce222
             (first | simp only [add_plain] at hx222_0 | simp only [add_at] at hx222_0 | simp only [Addr.add, Nat.zero_add] at hx222_0 | skip)
             (first | simp only [add_plain] at hx222_1 | simp only [add_at] at hx222_1 | simp only [Addr.add, Nat.zero_add] at hx222_1 | skip)
             (first | simp only [add_plain] at hx222_2 | simp only [add_at] at hx222_2 | simp only [Addr.add, Nat.zero_add] at hx222_2 | skip)
             (first | simp only [add_plain] at hx222_3 | simp only [add_at] at hx222_3 | simp only [Addr.add, Nat.zero_add] at hx222_3 | skip)
             (first | simp only [add_plain] at hx222_4 | simp only [add_at] at hx222_4 | simp only [Addr.add, Nat.zero_add] at hx222_4 | skip)
             (first | simp only [add_plain] at hx222_5 | simp only [add_at] at hx222_5 | simp only [Addr.add, Nat.zero_add] at hx222_5 | skip)
             have HR222_5 := Aside0.mk hi222_5
             have HC222_5 := Aside0.mk hl222_5
             clear hi222_5 hl222_5
             replace p222 := eq_true p222
             replace q222 := eq_true q222
             have p59 : 0 ≤ (t203 : Int) := of_decide_eq_true (by first | (with_reducible assumption) | assumption)
             have q59 : (t203 : Int) < ((t199.length : Int) : Int) := of_decide_eq_true (by first | (with_reducible assumption) | assumption)
             obtain ⟨_, ce59, hcl59, hM59, hcc59, hfr59, _, _⟩ := Kd.S_elem HO_14.out z61 (t203 : Int) p59 q59
             obtain ⟨ve59_5, rfl, ge59_5⟩ := k61_openM hM59
             have hx59_0 : w54.cell? ⟨go43, (t203 : Int).toNat * 6, none⟩ = some (.int .i64 ((rd_T61 y219 t203).f0)) := hcc59 0 _ rfl
             have hx59_1 : w54.cell? ⟨go43, (t203 : Int).toNat * 6 + 1, none⟩ = some (.int .i64 ((rd_T61 y219 t203).f1)) := hcc59 1 _ rfl
             have hx59_2 : w54.cell? ⟨go43, (t203 : Int).toNat * 6 + 2, none⟩ = some (.int .i64 ((rd_T61 y219 t203).f2)) := hcc59 2 _ rfl
             have hx59_3 : w54.cell? ⟨go43, (t203 : Int).toNat * 6 + 3, none⟩ = some (.int .i64 ((rd_T61 y219 t203).f3)) := hcc59 3 _ rfl
             have hx59_4 : w54.cell? ⟨go43, (t203 : Int).toNat * 6 + 4, none⟩ = some (.int .i64 ((rd_T61 y219 t203).f4)) := hcc59 4 _ rfl
             have hx59_5 : w54.cell? ⟨go43, (t203 : Int).toNat * 6 + 5, none⟩ = some (ve59_5) := hcc59 5 _ rfl
             have hf59_0 : w54.frozen? ⟨go43, (t203 : Int).toNat * 6, none⟩ = false := hfr59 0
             have hf59_1 : w54.frozen? ⟨go43, (t203 : Int).toNat * 6 + 1, none⟩ = false := hfr59 1
             have hf59_2 : w54.frozen? ⟨go43, (t203 : Int).toNat * 6 + 2, none⟩ = false := hfr59 2
             have hf59_3 : w54.frozen? ⟨go43, (t203 : Int).toNat * 6 + 3, none⟩ = false := hfr59 3
             have hf59_4 : w54.frozen? ⟨go43, (t203 : Int).toNat * 6 + 4, none⟩ = false := hfr59 4
             have hf59_5 : w54.frozen? ⟨go43, (t203 : Int).toNat * 6 + 5, none⟩ = false := hfr59 5
             clear hcl59 hcc59 hfr59 hM59
             replace p59 := eq_true p59
             replace q59 := eq_true q59
             have HX60 := Aside0.mk (show Kd.S k61 61 w54 w.heap.size (fun k_ => ((fun _ => True)) k_ ∧ ¬ ((fun _ => False)) k_) (.slice (some ⟨go43, 0, none⟩) t199.length co42) y219 from (by (with_reducible repeat (first | apply Kd.S_alloc | apply Kd.S_drewN | apply Kd.S_drew)); exact Kd.S_mono HO_14.out (fun k_ hk => ⟨trivial, fun e_ => e_⟩)))
             obtain ⟨oki60, ce60, hcl60, hM60, hcc60, hfr60, hoki60, hH60⟩ := Kd.S_elem HX60.out z61 (t203 : Int) (of_decide_eq_true (by first | (with_reducible assumption) | assumption)) (by have h_ : (t203 : Int) < ((t199.length : Int) : Int) := of_decide_eq_true (by first | (with_reducible assumption) | assumption); first | exact h_ | (have e_ := (Kd.S_reads' HO_14.out).1; omega) | simpa using h_)
             obtain ⟨ve60_5, rfl, ge60_5⟩ := k61_openM hM60
             have HP60 := Kd.S_seg hH60 (of_decide_eq_true (by first | (with_reducible assumption) | assumption)) (by have h_ : (t203 : Int) < ((t199.length : Int) : Int) := of_decide_eq_true (by first | (with_reducible assumption) | assumption); first | exact h_ | (have e_ := (Kd.S_reads' HO_14.out).1; omega) | simpa using h_) (seg := [.int .i64 (wrap64 (((rd_T61 y219 t203).f2) + 1))]) (j := 2) (show 3 ≤ 6 from by decide) (x' := (⟨(rd_T61 y219 t203).f0, (rd_T61 y219 t203).f1, wrap64 (((rd_T61 y219 t203).f2) + 1), (rd_T61 y219 t203).f3, (rd_T61 y219 t203).f4, (rd_T61 y219 t203).f5⟩ : S61)) (k61_mkM _ _ _ (⟨(rd_T61 y219 t203).f0, (rd_T61 y219 t203).f1, wrap64 (((rd_T61 y219 t203).f2) + 1), (rd_T61 y219 t203).f3, (rd_T61 y219 t203).f4, (rd_T61 y219 t203).f5⟩ : S61) (Kd.R_mono ge60_5 (fun _ h_ => Or.inl h_))) (fun _ hk => hk) (fun k_ hk_ => hk_.elim)
             have hx60_2 := hcc60 2 _ rfl
             (try simp only [show (k61).sz = 6 from rfl, Nat.mul_one, Nat.add_zero] at hx60_2)
             have hf60_2 := hfr60 2
             (try simp only [show (k61).sz = 6 from rfl, Nat.mul_one, Nat.add_zero] at hf60_2)
             clear hcl60 hcc60 hfr60 hM60 hoki60 hH60
             go_wp2_with (first | ((with_reducible refine gate_store (t := 3) (p := 106) rfl ?_); refine store_event (t := 3) (p := 106) (v := ?vo_w61) (w1 := (w54.setCell ⟨go43, (t203 : Int).toNat * 6 + 2, none⟩ (.int .i64 (wrap64 (((rd_T61 y219 t203).f2) + 1))))) ?hg ?ho ?hn ?hr ?_; (case ho => rfl); (case hg => rfl); (case hn => rfl); (case hr => first | (go_simp; done) | (go_simp; rfl)); intro w61 hw; have hg : w54.grownBy w61 (some go43) := (by rw [hw]; exact HP60.2); have hp_ : Kd.S k61 61 w61 w.heap.size (fun _ => True) (.slice (some ⟨go43, 0, none⟩) t199.length co42) y223 := (by rw [hw, Ny223.out]; exact HP60.1); clear HP60; have n0_ := Aside0.mk (hp_); have n1_ := Aside0.mk (Kd.R_after (v := (.slice (some ⟨go43, 0, none⟩) t199.length co42)) (v1 := (.slice (some ⟨go43, 0, none⟩) t199.length co42)) (ok := (fun _ => True)) (by (with_reducible repeat (first | apply Kd.R_alloc | apply Kd.R_drewN | apply Kd.R_drew)); exact HL218_5.out) hg (.inl rfl)); have n2_ := Aside0.mk (Kd.R_after (v := (.slice (some ⟨go43, 0, none⟩) t199.length co42)) (v1 := (.slice (some ⟨go43, 0, none⟩) t199.length co42)) (ok := (fun _ => True)) (by (with_reducible repeat (first | apply Kd.R_alloc | apply Kd.R_drewN | apply Kd.R_drew)); exact HL222_5.out) hg (.inl rfl)); have n3_ := Aside0.mk ((by rw [hw]; exact below_set (HB.out) GB43.out : Below w.heap.size w w61)); clear HO_14; clear HL218_5; clear HL222_5; clear HB; have HO_14 := n0_; have HL218_5 := n1_; have HL222_5 := n2_; have HB := n3_; clear n0_ n1_ n2_ n3_; clear hg hw hp_))
             go_meet
             case rel => exact ⟨_, (y223), H', ⟨by have := HJ9.out; first | omega | exact Nat.le_refl _⟩, ⟨by (with_reducible repeat (first | apply Kd.S_alloc | apply Kd.S_drewN | apply Kd.S_drew)); exact HO_14.out⟩, ⟨by repeat (first | (with_reducible first | exact HB.out | apply below_alloc | apply pw_below_drewN | apply below_drew1) | exact HB.out)⟩⟩
           case rest =>
            clear HC41
            try clear c1
            try clear c2
            try clear p2
            try clear q2
            try clear hx2
            try clear c3
            try clear p3
            try clear q3
            try clear c4
            try clear p4
            try clear q4
            try clear hx4
            try clear c5
            try clear p5
            try clear q5
            try clear hx5
            try clear c6
            try clear p6
            try clear hx6
            try clear hf6
            try clear c7
            try clear c15
            try clear c16
            try clear c16b0
            try clear c18
            try clear c18b0
            try clear c20
            try clear c20b0
            try clear c20b1
            try clear p20
            try clear q20
            try clear hx20
            try clear c21
            try clear p21
            try clear q21
            try clear hx21
            try clear c22
            try clear p22
            try clear q22
            try clear hx22
            try clear c23
            try clear c25
            try clear c31
            try clear c32
            try clear c32b0
            try clear c33
            try clear c33b0
            try clear c34
            try clear p35
            try clear q35
            try clear c36
            try clear c36b0
            try clear c37
            try clear c37b0
            try clear c38
            try clear p39
            try clear q39
            try clear c40
            try clear p40
            try clear q40
            try clear hx40
            try clear hf40
            try clear c43
            try clear c45
            try clear hx45
            try clear hf45
            try clear c48
            try clear c50
            try clear hx50
            try clear hf50
            try clear c53
            try clear hx53
            try clear hf53
            try clear c55
            try clear c55b0
            try clear c55b1
            try clear c56
            try clear p56
            try clear q56
            try clear hx56
            try clear hf56
            try clear c57
            try clear hx57
            try clear hf57
            try clear c59
            try clear p59
            try clear q59
            try clear hx59
            try clear hf59
            try clear c60
            try clear hx60
            try clear hf60
            try clear hx208_0
            try clear hx208_1
            try clear hx208_2
            try clear hx208_3
            try clear hx208_4
            try clear hx208_5
            try clear hx213_0
            try clear hx213_1
            try clear hx213_2
            try clear hx213_3
            try clear hx213_4
            try clear hx213_5
            try clear hx218_0
            try clear hx218_1
            try clear hx218_2
            try clear hx218_3
            try clear hx218_4
            try clear hx218_5
            try clear hx220_0
            try clear hx220_1
            try clear hx220_2
            try clear hx220_3
            try clear hx220_4
            try clear hx220_5
            try clear hx222_0
            try clear hx222_1
            try clear hx222_2
            try clear hx222_3
            try clear hx222_4
            try clear hx222_5
            try clear hx40_0
            try clear hx40_1
            try clear hx40_2
            try clear hx40_3
            try clear hx40_4
            try clear hx40_5
            try clear hx45_0
            try clear hx50_0
            try clear hx53_4
            try clear hx56_0
            try clear hx56_1
            try clear hx56_2
            try clear hx56_3
            try clear hx56_4
            try clear hx56_5
            try clear hx57_2
            try clear hx59_0
            try clear hx59_1
            try clear hx59_2
            try clear hx59_3
            try clear hx59_4
            try clear hx59_5
            try clear hx60_2
            try clear p2
            try clear p208
            try clear p213
            try clear p218
            try clear p220
            try clear p222
            try clear p35
            try clear p39
            try clear p40
            try clear p56
            try clear p59
            try clear q208
            try clear q213
            try clear q218
            try clear q220
            try clear q222
            try clear q35
            try clear q39
            try clear q40
            try clear q56
            try clear q59
            obtain ⟨kq, x14_40, HA, HJ40, HO_14, HB⟩ := hcut
            have hl14_40 := (Kd.S_reads' HO_14.out).1
            rw [hl14_40] at HO_14
            (try simp only [hl14_40])
            cases kq with
            | zero => exact absurd HA.out (by simp [impl_AddResult.j1])
            | succ kj40 =>
             have H := HA.out
             clear HA
             simp only [impl_AddResult.j1] at H
             by_cases c62 : 0 ≤ t202
             ·
              rw [if_pos c62] at H
              have c62b0 : decide (0 ≤ t202) = true := decide_eq_true c62
              clear c62
              by_cases c63 : t202 < (x14_40.length : Int)
              ·
               rw [if_pos c63] at H
               have c63b0 : decide (t202 < (x14_40.length : Int)) = true := decide_eq_true c63
               clear c63
               obtain ⟨y225, hy225⟩ : ∃ y_ : List (S61), y_ = (x14_40.set (t202 : Int).toNat (⟨(rd_T61 x14_40 t202).f0, (rd_T61 x14_40 t202).f1, (rd_T61 x14_40 t202).f2, wrap64 (((rd_T61 x14_40 t202).f3) + a4), (rd_T61 x14_40 t202).f4, (rd_T61 x14_40 t202).f5⟩ : S61)) := ⟨_, rfl⟩
               replace H : (if 0 ≤ t203 then (if t203 < (x14_40.length : Int) then ((some (y225.set (t203 : Int).toNat (⟨(rd_T61 y225 t203).f0, (rd_T61 y225 t203).f1, (rd_T61 y225 t203).f2, wrap64 (((rd_T61 y225 t203).f3) + a5), (rd_T61 y225 t203).f4, (rd_T61 y225 t203).f5⟩ : S61) : List (S61))).bind fun y227 => ((impl_AreTeams.f kj40 y227).bind fun t228 => (if t228 = true then (some (y227, true)) else ((impl_cloneTeams.f kj40 l0).bind fun t229 => (some (t229, false)))))) else (none)) else (none)) = some (r1, r2) := by first | (rw [hy225]; with_reducible exact H) | (have H2_ := (Option.bind_some _ _).symm.trans H; rw [hy225]; with_reducible exact H2_) | (have H2_ := (Option.bind_some _ _).symm.trans H; with_reducible exact H2_) | with_reducible exact H | (rw [hy225]; exact H) | exact H
               have Ny225 := Aside0.mk hy225
               clear hy225
               by_cases c65 : 0 ≤ t203
               ·
                rw [if_pos c65] at H
                have c65b0 : decide (0 ≤ t203) = true := decide_eq_true c65
                clear c65
                by_cases c66 : t203 < (x14_40.length : Int)
                ·
                 rw [if_pos c66] at H
                 have c66b0 : decide (t203 < (x14_40.length : Int)) = true := decide_eq_true c66
                 clear c66
                 obtain ⟨y227, hy227⟩ : ∃ y_ : List (S61), y_ = (y225.set (t203 : Int).toNat (⟨(rd_T61 y225 t203).f0, (rd_T61 y225 t203).f1, (rd_T61 y225 t203).f2, wrap64 (((rd_T61 y225 t203).f3) + a5), (rd_T61 y225 t203).f4, (rd_T61 y225 t203).f5⟩ : S61)) := ⟨_, rfl⟩
                 replace H : ((impl_AreTeams.f kj40 y227).bind fun t228 => (if t228 = true then (some (y227, true)) else ((impl_cloneTeams.f kj40 l0).bind fun t229 => (some (t229, false))))) = some (r1, r2) := by first | (rw [hy227]; with_reducible exact H) | (have H2_ := (Option.bind_some _ _).symm.trans H; rw [hy227]; with_reducible exact H2_) | (have H2_ := (Option.bind_some _ _).symm.trans H; with_reducible exact H2_) | with_reducible exact H | (rw [hy227]; exact H) | exact H
                 have Ny227 := Aside0.mk hy227
                 clear hy227
                 replace H := Option.bind_eq_some_iff.mp H
                 obtain ⟨t228, A680, H⟩ := H
                 replace H : (if t228 = true then (some (y227, true)) else ((impl_cloneTeams.f kj40 l0).bind fun t229 => (some (t229, false)))) = some (r1, r2) := H
                 have A68 := Aside0.mk A680
                 clear A680
                 by_cases c69 : t228 = true
                 ·
                  subst c69
                  have H1 : (some (y227, true)) = some (r1, r2) := by rw [if_pos rfl] at H; exact H
                  clear H
                  have H := H1
                  clear H1
                  simp only [Option.some.injEq, Prod.mk.injEq] at H
                  obtain ⟨rfl, rfl⟩ := H
                  have p224 : 0 ≤ (t202 : Int) := of_decide_eq_true (by first | (with_reducible assumption) | assumption)
                  have q224 : t202 < (x14_40.length : Int) := of_decide_eq_true (by first | (with_reducible assumption) | assumption)
                  obtain ⟨ad224, A224_5, c224_5, e224, hx224_0, hx224_1, hx224_2, hx224_3, hx224_4, hx224_5, hl224_5, hi224_5⟩ := at_T61 (Kd.S_reads' HO_14.out).2.2 t202 p224 q224
                  obtain rfl : (⟨go43, 0, none⟩ : Addr) = ad224 := (by injection e224)
                  obtain ⟨ce224, hce224, hMe224, hcc224⟩ := Kd.S_get HO_14.out z61 t202 p224 (by first | exact q224 | exact of_decide_eq_true (by first | (with_reducible assumption) | assumption) | (have e_ := (Kd.S_reads' HO_14.out).1; omega))
                  obtain ⟨ve224_5, rfl, ge224_5⟩ := k61_openM hMe224
                  have hv224_5 := hcc224 5 _ rfl
                  rw [add_field _ _ 5 (by omega)] at hv224_5
                  replace hv224_5 := Option.some.inj (hv224_5.symm.trans hx224_5)
                  rw [hv224_5] at ge224_5
                  have HL224_5 := Aside0.mk (show Kd.R (Kd.int .i64) 3 _ _ _ _ ((rd_T61 x14_40 t202).f5) from ge224_5)
                  clear hv224_5 ge224_5
                  have HX224_5 := Aside0.mk hx224_5
                  clear hcc224 hce224
                  (first | simp only [add_plain] at hx224_0 | simp only [add_at] at hx224_0 | simp only [Addr.add, Nat.zero_add] at hx224_0 | skip)
                  (first | simp only [add_plain] at hx224_1 | simp only [add_at] at hx224_1 | simp only [Addr.add, Nat.zero_add] at hx224_1 | skip)
                  (first | simp only [add_plain] at hx224_2 | simp only [add_at] at hx224_2 | simp only [Addr.add, Nat.zero_add] at hx224_2 | skip)
                  (first | simp only [add_plain] at hx224_3 | simp only [add_at] at hx224_3 | simp only [Addr.add, Nat.zero_add] at hx224_3 | skip)
                  (first | simp only [add_plain] at hx224_4 | simp only [add_at] at hx224_4 | simp only [Addr.add, Nat.zero_add] at hx224_4 | skip)
                  (first | simp only [add_plain] at hx224_5 | simp only [add_at] at hx224_5 | simp only [Addr.add, Nat.zero_add] at hx224_5 | skip)
                  have HR224_5 := Aside0.mk hi224_5
                  have HC224_5 := Aside0.mk hl224_5
                  clear hi224_5 hl224_5
                  replace p224 := eq_true p224
                  replace q224 := eq_true q224
                  have p64 : 0 ≤ (t202 : Int) := of_decide_eq_true (by first | (with_reducible assumption) | assumption)
                  have q64 : (t202 : Int) < ((x14_40.length : Int) : Int) := of_decide_eq_true (by first | (with_reducible assumption) | assumption)
                  obtain ⟨_, ce64, hcl64, hM64, hcc64, hfr64, _, _⟩ := Kd.S_elem HO_14.out z61 (t202 : Int) p64 q64
                  obtain ⟨ve64_5, rfl, ge64_5⟩ := k61_openM hM64
                  have hx64_0 : wc.cell? ⟨go43, (t202 : Int).toNat * 6, none⟩ = some (.int .i64 ((rd_T61 x14_40 t202).f0)) := hcc64 0 _ rfl
                  have hx64_1 : wc.cell? ⟨go43, (t202 : Int).toNat * 6 + 1, none⟩ = some (.int .i64 ((rd_T61 x14_40 t202).f1)) := hcc64 1 _ rfl
                  have hx64_2 : wc.cell? ⟨go43, (t202 : Int).toNat * 6 + 2, none⟩ = some (.int .i64 ((rd_T61 x14_40 t202).f2)) := hcc64 2 _ rfl
                  have hx64_3 : wc.cell? ⟨go43, (t202 : Int).toNat * 6 + 3, none⟩ = some (.int .i64 ((rd_T61 x14_40 t202).f3)) := hcc64 3 _ rfl
                  have hx64_4 : wc.cell? ⟨go43, (t202 : Int).toNat * 6 + 4, none⟩ = some (.int .i64 ((rd_T61 x14_40 t202).f4)) := hcc64 4 _ rfl
                  have hx64_5 : wc.cell? ⟨go43, (t202 : Int).toNat * 6 + 5, none⟩ = some (ve64_5) := hcc64 5 _ rfl
                  have hf64_0 : wc.frozen? ⟨go43, (t202 : Int).toNat * 6, none⟩ = false := hfr64 0
                  have hf64_1 : wc.frozen? ⟨go43, (t202 : Int).toNat * 6 + 1, none⟩ = false := hfr64 1
                  have hf64_2 : wc.frozen? ⟨go43, (t202 : Int).toNat * 6 + 2, none⟩ = false := hfr64 2
                  have hf64_3 : wc.frozen? ⟨go43, (t202 : Int).toNat * 6 + 3, none⟩ = false := hfr64 3
                  have hf64_4 : wc.frozen? ⟨go43, (t202 : Int).toNat * 6 + 4, none⟩ = false := hfr64 4
                  have hf64_5 : wc.frozen? ⟨go43, (t202 : Int).toNat * 6 + 5, none⟩ = false := hfr64 5
                  clear hcl64 hcc64 hfr64 hM64
                  replace p64 := eq_true p64
                  replace q64 := eq_true q64
                  have HX70 := Aside0.mk (show Kd.S k61 61 wc w.heap.size (fun k_ => ((fun _ => True)) k_ ∧ ¬ ((fun _ => False)) k_) (.slice (some ⟨go43, 0, none⟩) x14_40.length co42) x14_40 from (by (with_reducible repeat (first | apply Kd.S_alloc | apply Kd.S_drewN | apply Kd.S_drew)); exact Kd.S_mono HO_14.out (fun k_ hk => ⟨trivial, fun e_ => e_⟩)))
                  obtain ⟨oki70, ce70, hcl70, hM70, hcc70, hfr70, hoki70, hH70⟩ := Kd.S_elem HX70.out z61 (t202 : Int) (of_decide_eq_true (by first | (with_reducible assumption) | assumption)) (by have h_ : (t202 : Int) < ((x14_40.length : Int) : Int) := of_decide_eq_true (by first | (with_reducible assumption) | assumption); first | exact h_ | (have e_ := (Kd.S_reads' HO_14.out).1; omega) | simpa using h_)
                  obtain ⟨ve70_5, rfl, ge70_5⟩ := k61_openM hM70
                  have HP70 := Kd.S_seg hH70 (of_decide_eq_true (by first | (with_reducible assumption) | assumption)) (by have h_ : (t202 : Int) < ((x14_40.length : Int) : Int) := of_decide_eq_true (by first | (with_reducible assumption) | assumption); first | exact h_ | (have e_ := (Kd.S_reads' HO_14.out).1; omega) | simpa using h_) (seg := [.int .i64 (wrap64 (((rd_T61 x14_40 t202).f3) + a4))]) (j := 3) (show 4 ≤ 6 from by decide) (x' := (⟨(rd_T61 x14_40 t202).f0, (rd_T61 x14_40 t202).f1, (rd_T61 x14_40 t202).f2, wrap64 (((rd_T61 x14_40 t202).f3) + a4), (rd_T61 x14_40 t202).f4, (rd_T61 x14_40 t202).f5⟩ : S61)) (k61_mkM _ _ _ (⟨(rd_T61 x14_40 t202).f0, (rd_T61 x14_40 t202).f1, (rd_T61 x14_40 t202).f2, wrap64 (((rd_T61 x14_40 t202).f3) + a4), (rd_T61 x14_40 t202).f4, (rd_T61 x14_40 t202).f5⟩ : S61) (Kd.R_mono ge70_5 (fun _ h_ => Or.inl h_))) (fun _ hk => hk) (fun k_ hk_ => hk_.elim)
                  have hx70_3 := hcc70 3 _ rfl
                  (try simp only [show (k61).sz = 6 from rfl, Nat.mul_one, Nat.add_zero] at hx70_3)
                  have hf70_3 := hfr70 3
                  (try simp only [show (k61).sz = 6 from rfl, Nat.mul_one, Nat.add_zero] at hf70_3)
                  clear hcl70 hcc70 hfr70 hM70 hoki70 hH70
                  go_wp2_with (first | ((with_reducible refine gate_store (t := 3) (p := 115) rfl ?_); refine store_event (t := 3) (p := 115) (v := ?vo_w71) (w1 := (wc.setCell ⟨go43, (t202 : Int).toNat * 6 + 3, none⟩ (.int .i64 (wrap64 (((rd_T61 x14_40 t202).f3) + a4))))) ?hg ?ho ?hn ?hr ?_; (case ho => rfl); (case hg => rfl); (case hn => rfl); (case hr => first | (go_simp; done) | (go_simp; rfl)); intro w71 hw; have hg : wc.grownBy w71 (some go43) := (by rw [hw]; exact HP70.2); have hp_ : Kd.S k61 61 w71 w.heap.size (fun _ => True) (.slice (some ⟨go43, 0, none⟩) x14_40.length co42) y225 := (by rw [hw, Ny225.out]; exact HP70.1); clear HP70; have n0_ := Aside0.mk (hp_); have n1_ := Aside0.mk (Kd.R_after (v := (.slice (some ⟨go43, 0, none⟩) x14_40.length co42)) (v1 := (.slice (some ⟨go43, 0, none⟩) x14_40.length co42)) (ok := (fun _ => True)) (by (with_reducible repeat (first | apply Kd.R_alloc | apply Kd.R_drewN | apply Kd.R_drew)); exact HL224_5.out) hg (.inl rfl)); have n2_ := Aside0.mk ((by rw [hw]; exact below_set (HB.out) GB43.out : Below w.heap.size w w71)); clear HO_14; clear HL224_5; clear HB; have HO_14 := n0_; have HL224_5 := n1_; have HB := n2_; clear n0_ n1_ n2_; clear hg hw hp_; have p226 : 0 ≤ (t203 : Int) := of_decide_eq_true (by first | (with_reducible assumption) | assumption); have q226 : t203 < (y225.length : Int) := (by have h_ : (t203 : Int) < ((x14_40.length : Int) : Int) := of_decide_eq_true (by first | (with_reducible assumption) | assumption); first | (have e_ := (Kd.S_reads' HO_14.out).1; omega) | simpa only [Ny225.out, List.length_set] using h_); have ql226 : ((t203 : Int) < ((x14_40.length : Int) : Int)) = True := eq_true (of_decide_eq_true (by first | (with_reducible assumption) | assumption)); obtain ⟨ad226, A226_5, c226_5, e226, hx226_0, hx226_1, hx226_2, hx226_3, hx226_4, hx226_5, hl226_5, hi226_5⟩ := at_T61 (Kd.S_reads' HO_14.out).2.2 t203 p226 q226; obtain rfl : (⟨go43, 0, none⟩ : Addr) = ad226 := (by injection e226); obtain ⟨ce226, hce226, hMe226, hcc226⟩ := Kd.S_get HO_14.out z61 t203 p226 (by first | exact q226 | exact of_decide_eq_true (by first | (with_reducible assumption) | assumption) | (have e_ := (Kd.S_reads' HO_14.out).1; omega)); obtain ⟨ve226_5, rfl, ge226_5⟩ := k61_openM hMe226; have hv226_5 := hcc226 5 _ rfl; rw [add_field _ _ 5 (by omega)] at hv226_5; replace hv226_5 := Option.some.inj (hv226_5.symm.trans hx226_5); rw [hv226_5] at ge226_5; have HL226_5 := Aside0.mk (show Kd.R (Kd.int .i64) 3 _ _ _ _ ((rd_T61 y225 t203).f5) from ge226_5); clear hv226_5 ge226_5; have HX226_5 := Aside0.mk hx226_5; clear hcc226 hce226; (first | simp only [add_plain] at hx226_0 | simp only [add_at] at hx226_0 | simp only [Addr.add, Nat.zero_add] at hx226_0 | skip); (first | simp only [add_plain] at hx226_1 | simp only [add_at] at hx226_1 | simp only [Addr.add, Nat.zero_add] at hx226_1 | skip); (first | simp only [add_plain] at hx226_2 | simp only [add_at] at hx226_2 | simp only [Addr.add, Nat.zero_add] at hx226_2 | skip); (first | simp only [add_plain] at hx226_3 | simp only [add_at] at hx226_3 | simp only [Addr.add, Nat.zero_add] at hx226_3 | skip); (first | simp only [add_plain] at hx226_4 | simp only [add_at] at hx226_4 | simp only [Addr.add, Nat.zero_add] at hx226_4 | skip); (first | simp only [add_plain] at hx226_5 | simp only [add_at] at hx226_5 | simp only [Addr.add, Nat.zero_add] at hx226_5 | skip); have HR226_5 := Aside0.mk hi226_5; have HC226_5 := Aside0.mk hl226_5; clear hi226_5 hl226_5; replace p226 := eq_true p226; replace q226 := eq_true q226; have p67 : 0 ≤ (t203 : Int) := of_decide_eq_true (by first | (with_reducible assumption) | assumption); have q67 : (t203 : Int) < ((x14_40.length : Int) : Int) := of_decide_eq_true (by first | (with_reducible assumption) | assumption); obtain ⟨_, ce67, hcl67, hM67, hcc67, hfr67, _, _⟩ := Kd.S_elem HO_14.out z61 (t203 : Int) p67 q67; obtain ⟨ve67_5, rfl, ge67_5⟩ := k61_openM hM67; have hx67_0 : w71.cell? ⟨go43, (t203 : Int).toNat * 6, none⟩ = some (.int .i64 ((rd_T61 y225 t203).f0)) := hcc67 0 _ rfl; have hx67_1 : w71.cell? ⟨go43, (t203 : Int).toNat * 6 + 1, none⟩ = some (.int .i64 ((rd_T61 y225 t203).f1)) := hcc67 1 _ rfl; have hx67_2 : w71.cell? ⟨go43, (t203 : Int).toNat * 6 + 2, none⟩ = some (.int .i64 ((rd_T61 y225 t203).f2)) := hcc67 2 _ rfl; have hx67_3 : w71.cell? ⟨go43, (t203 : Int).toNat * 6 + 3, none⟩ = some (.int .i64 ((rd_T61 y225 t203).f3)) := hcc67 3 _ rfl; have hx67_4 : w71.cell? ⟨go43, (t203 : Int).toNat * 6 + 4, none⟩ = some (.int .i64 ((rd_T61 y225 t203).f4)) := hcc67 4 _ rfl; have hx67_5 : w71.cell? ⟨go43, (t203 : Int).toNat * 6 + 5, none⟩ = some (ve67_5) := hcc67 5 _ rfl; have hf67_0 : w71.frozen? ⟨go43, (t203 : Int).toNat * 6, none⟩ = false := hfr67 0; have hf67_1 : w71.frozen? ⟨go43, (t203 : Int).toNat * 6 + 1, none⟩ = false := hfr67 1; have hf67_2 : w71.frozen? ⟨go43, (t203 : Int).toNat * 6 + 2, none⟩ = false := hfr67 2; have hf67_3 : w71.frozen? ⟨go43, (t203 : Int).toNat * 6 + 3, none⟩ = false := hfr67 3; have hf67_4 : w71.frozen? ⟨go43, (t203 : Int).toNat * 6 + 4, none⟩ = false := hfr67 4; have hf67_5 : w71.frozen? ⟨go43, (t203 : Int).toNat * 6 + 5, none⟩ = false := hfr67 5; clear hcl67 hcc67 hfr67 hM67; replace p67 := eq_true p67; replace q67 := eq_true q67; have HX72 := Aside0.mk (show Kd.S k61 61 w71 w.heap.size (fun k_ => ((fun _ => True)) k_ ∧ ¬ ((fun _ => False)) k_) (.slice (some ⟨go43, 0, none⟩) x14_40.length co42) y225 from (by (with_reducible repeat (first | apply Kd.S_alloc | apply Kd.S_drewN | apply Kd.S_drew)); exact Kd.S_mono HO_14.out (fun k_ hk => ⟨trivial, fun e_ => e_⟩))); obtain ⟨oki72, ce72, hcl72, hM72, hcc72, hfr72, hoki72, hH72⟩ := Kd.S_elem HX72.out z61 (t203 : Int) (of_decide_eq_true (by first | (with_reducible assumption) | assumption)) (by have h_ : (t203 : Int) < ((x14_40.length : Int) : Int) := of_decide_eq_true (by first | (with_reducible assumption) | assumption); first | exact h_ | (have e_ := (Kd.S_reads' HO_14.out).1; omega) | simpa using h_); obtain ⟨ve72_5, rfl, ge72_5⟩ := k61_openM hM72; have HP72 := Kd.S_seg hH72 (of_decide_eq_true (by first | (with_reducible assumption) | assumption)) (by have h_ : (t203 : Int) < ((x14_40.length : Int) : Int) := of_decide_eq_true (by first | (with_reducible assumption) | assumption); first | exact h_ | (have e_ := (Kd.S_reads' HO_14.out).1; omega) | simpa using h_) (seg := [.int .i64 (wrap64 (((rd_T61 y225 t203).f3) + a5))]) (j := 3) (show 4 ≤ 6 from by decide) (x' := (⟨(rd_T61 y225 t203).f0, (rd_T61 y225 t203).f1, (rd_T61 y225 t203).f2, wrap64 (((rd_T61 y225 t203).f3) + a5), (rd_T61 y225 t203).f4, (rd_T61 y225 t203).f5⟩ : S61)) (k61_mkM _ _ _ (⟨(rd_T61 y225 t203).f0, (rd_T61 y225 t203).f1, (rd_T61 y225 t203).f2, wrap64 (((rd_T61 y225 t203).f3) + a5), (rd_T61 y225 t203).f4, (rd_T61 y225 t203).f5⟩ : S61) (Kd.R_mono ge72_5 (fun _ h_ => Or.inl h_))) (fun _ hk => hk) (fun k_ hk_ => hk_.elim); have hx72_3 := hcc72 3 _ rfl; (try simp only [show (k61).sz = 6 from rfl, Nat.mul_one, Nat.add_zero] at hx72_3); have hf72_3 := hfr72 3; (try simp only [show (k61).sz = 6 from rfl, Nat.mul_one, Nat.add_zero] at hf72_3); clear hcl72 hcc72 hfr72 hM72 hoki72 hH72) | ((with_reducible refine gate_store (t := 3) (p := 124) rfl ?_); refine store_event (t := 3) (p := 124) (v := ?vo_w73) (w1 := (w71.setCell ⟨go43, (t203 : Int).toNat * 6 + 3, none⟩ (.int .i64 (wrap64 (((rd_T61 y225 t203).f3) + a5))))) ?hg ?ho ?hn ?hr ?_; (case ho => rfl); (case hg => rfl); (case hn => rfl); (case hr => first | (go_simp; done) | (go_simp; rfl)); intro w73 hw; have hg : w71.grownBy w73 (some go43) := (by rw [hw]; exact HP72.2); have hp_ : Kd.S k61 61 w73 w.heap.size (fun _ => True) (.slice (some ⟨go43, 0, none⟩) x14_40.length co42) y227 := (by rw [hw, Ny227.out]; exact HP72.1); clear HP72; have n0_ := Aside0.mk (hp_); have n1_ := Aside0.mk (Kd.R_after (v := (.slice (some ⟨go43, 0, none⟩) x14_40.length co42)) (v1 := (.slice (some ⟨go43, 0, none⟩) x14_40.length co42)) (ok := (fun _ => True)) (by (with_reducible repeat (first | apply Kd.R_alloc | apply Kd.R_drewN | apply Kd.R_drew)); exact HL224_5.out) hg (.inl rfl)); have n2_ := Aside0.mk (Kd.R_after (v := (.slice (some ⟨go43, 0, none⟩) x14_40.length co42)) (v1 := (.slice (some ⟨go43, 0, none⟩) x14_40.length co42)) (ok := (fun _ => True)) (by (with_reducible repeat (first | apply Kd.R_alloc | apply Kd.R_drewN | apply Kd.R_drew)); exact HL226_5.out) hg (.inl rfl)); have n3_ := Aside0.mk ((by rw [hw]; exact below_set (HB.out) GB43.out : Below w.heap.size w w73)); clear HO_14; clear HL224_5; clear HL226_5; clear HB; have HO_14 := n0_; have HL224_5 := n1_; have HL226_5 := n2_; have HB := n3_; clear n0_ n1_ n2_ n3_; clear hg hw hp_) | ((with_reducible refine gate_callee (f := 21) rfl ?_); refine goesL_ (some 126) rfl rfl Try.func21 (by kernel_rfl) rfl #[.slice (some ⟨go43, 0, none⟩) y227.length co42] rfl (by (try simp only [List.map_toArray, List.map_cons, List.map_nil]); first | done | (rw [show y227.length = x14_40.length from (Kd.S_reads' HO_14.out).1.symm] <;> rfl) | rfl | (simp only [List.length_drop, List.length_take]; rfl)) ?_; (with_reducible refine (impl_AreTeams.calls kj40 _ _ y227 true _ ?side1 ?side2 A68.out).mono ?_); (case side1 => repeat (first | exact (Kd.S_reads' HO_14.out).2.2 | (with_reducible refine Kd.C_alloc ?_ _) | (with_reducible refine Kd.C_drewN ?_ _) | (with_reducible refine Kd.C_drew ?_))); (case side2 => rw [show y227.length = x14_40.length from (Kd.S_reads' HO_14.out).1.symm]; exact (Kd.S_reads' HO_14.out).2.1); rintro e w74 ⟨rfl, hb⟩; refine ⟨_, rfl, ?_⟩; have n0_ := Aside0.mk (Kd.S_below (by (with_reducible repeat (first | apply Kd.S_alloc | apply Kd.S_drewN | apply Kd.S_drew)); exact HO_14.out) hb); have n1_ := Aside0.mk (Kd.R_below (by (with_reducible repeat (first | apply Kd.R_alloc | apply Kd.R_drewN | apply Kd.R_drew)); exact HL224_5.out) hb); have n2_ := Aside0.mk (Kd.R_below (by (with_reducible repeat (first | apply Kd.R_alloc | apply Kd.R_drewN | apply Kd.R_drew)); exact HL226_5.out) hb); have n3_ := Aside0.mk (below_step (by repeat (first | (with_reducible first | exact HB.out | apply below_alloc | apply pw_below_drewN | apply below_drew1) | exact HB.out)) hb); clear HO_14; clear HL224_5; clear HL226_5; clear HB; have HO_14 := n0_; have HL224_5 := n1_; have HL226_5 := n2_; have HB := n3_; clear n0_ n1_ n2_ n3_; (try clear hb); (try clear hb2); (try clear hk); (try clear hi)))
                  go_ret2
                  exact ⟨_, by first | rfl | (simp [errW_none, errW_some] <;> rfl) | (simp [*, errW_none, errW_some] <;> rfl), by (with_reducible repeat (first | apply Kd.S_alloc | apply Kd.S_drewN | apply Kd.S_drew)); exact HO_14.out, by repeat (first | (with_reducible first | exact HB.out | apply below_alloc | apply pw_below_drewN | apply below_drew1) | exact HB.out)⟩
                 ·
                  replace c69 := Bool.eq_false_iff.mpr c69
                  subst c69
                  have H1 : ((impl_cloneTeams.f kj40 l0).bind fun t229 => (some (t229, false))) = some (r1, r2) := by rw [if_neg (show ¬ (false = true) by decide)] at H; exact H
                  clear H
                  have H := H1
                  clear H1
                  replace H := Option.bind_eq_some_iff.mp H
                  obtain ⟨t229, A750, H⟩ := H
                  replace H : (some (t229, false)) = some (r1, r2) := H
                  have A75 := Aside0.mk A750
                  clear A750
                  simp only [Option.some.injEq, Prod.mk.injEq] at H
                  obtain ⟨rfl, rfl⟩ := H
                  have p224 : 0 ≤ (t202 : Int) := of_decide_eq_true (by first | (with_reducible assumption) | assumption)
                  have q224 : t202 < (x14_40.length : Int) := of_decide_eq_true (by first | (with_reducible assumption) | assumption)
                  obtain ⟨ad224, A224_5, c224_5, e224, hx224_0, hx224_1, hx224_2, hx224_3, hx224_4, hx224_5, hl224_5, hi224_5⟩ := at_T61 (Kd.S_reads' HO_14.out).2.2 t202 p224 q224
                  obtain rfl : (⟨go43, 0, none⟩ : Addr) = ad224 := (by injection e224)
                  obtain ⟨ce224, hce224, hMe224, hcc224⟩ := Kd.S_get HO_14.out z61 t202 p224 (by first | exact q224 | exact of_decide_eq_true (by first | (with_reducible assumption) | assumption) | (have e_ := (Kd.S_reads' HO_14.out).1; omega))
                  obtain ⟨ve224_5, rfl, ge224_5⟩ := k61_openM hMe224
                  have hv224_5 := hcc224 5 _ rfl
                  rw [add_field _ _ 5 (by omega)] at hv224_5
                  replace hv224_5 := Option.some.inj (hv224_5.symm.trans hx224_5)
                  rw [hv224_5] at ge224_5
                  have HL224_5 := Aside0.mk (show Kd.R (Kd.int .i64) 3 _ _ _ _ ((rd_T61 x14_40 t202).f5) from ge224_5)
                  clear hv224_5 ge224_5
                  have HX224_5 := Aside0.mk hx224_5
                  clear hcc224 hce224
                  (first | simp only [add_plain] at hx224_0 | simp only [add_at] at hx224_0 | simp only [Addr.add, Nat.zero_add] at hx224_0 | skip)
                  (first | simp only [add_plain] at hx224_1 | simp only [add_at] at hx224_1 | simp only [Addr.add, Nat.zero_add] at hx224_1 | skip)
                  (first | simp only [add_plain] at hx224_2 | simp only [add_at] at hx224_2 | simp only [Addr.add, Nat.zero_add] at hx224_2 | skip)
                  (first | simp only [add_plain] at hx224_3 | simp only [add_at] at hx224_3 | simp only [Addr.add, Nat.zero_add] at hx224_3 | skip)
                  (first | simp only [add_plain] at hx224_4 | simp only [add_at] at hx224_4 | simp only [Addr.add, Nat.zero_add] at hx224_4 | skip)
                  (first | simp only [add_plain] at hx224_5 | simp only [add_at] at hx224_5 | simp only [Addr.add, Nat.zero_add] at hx224_5 | skip)
                  have HR224_5 := Aside0.mk hi224_5
                  have HC224_5 := Aside0.mk hl224_5
                  clear hi224_5 hl224_5
                  replace p224 := eq_true p224
                  replace q224 := eq_true q224
                  have p64 : 0 ≤ (t202 : Int) := of_decide_eq_true (by first | (with_reducible assumption) | assumption)
                  have q64 : (t202 : Int) < ((x14_40.length : Int) : Int) := of_decide_eq_true (by first | (with_reducible assumption) | assumption)
                  obtain ⟨_, ce64, hcl64, hM64, hcc64, hfr64, _, _⟩ := Kd.S_elem HO_14.out z61 (t202 : Int) p64 q64
                  obtain ⟨ve64_5, rfl, ge64_5⟩ := k61_openM hM64
                  have hx64_0 : wc.cell? ⟨go43, (t202 : Int).toNat * 6, none⟩ = some (.int .i64 ((rd_T61 x14_40 t202).f0)) := hcc64 0 _ rfl
                  have hx64_1 : wc.cell? ⟨go43, (t202 : Int).toNat * 6 + 1, none⟩ = some (.int .i64 ((rd_T61 x14_40 t202).f1)) := hcc64 1 _ rfl
                  have hx64_2 : wc.cell? ⟨go43, (t202 : Int).toNat * 6 + 2, none⟩ = some (.int .i64 ((rd_T61 x14_40 t202).f2)) := hcc64 2 _ rfl
                  have hx64_3 : wc.cell? ⟨go43, (t202 : Int).toNat * 6 + 3, none⟩ = some (.int .i64 ((rd_T61 x14_40 t202).f3)) := hcc64 3 _ rfl
                  have hx64_4 : wc.cell? ⟨go43, (t202 : Int).toNat * 6 + 4, none⟩ = some (.int .i64 ((rd_T61 x14_40 t202).f4)) := hcc64 4 _ rfl
                  have hx64_5 : wc.cell? ⟨go43, (t202 : Int).toNat * 6 + 5, none⟩ = some (ve64_5) := hcc64 5 _ rfl
                  have hf64_0 : wc.frozen? ⟨go43, (t202 : Int).toNat * 6, none⟩ = false := hfr64 0
                  have hf64_1 : wc.frozen? ⟨go43, (t202 : Int).toNat * 6 + 1, none⟩ = false := hfr64 1
                  have hf64_2 : wc.frozen? ⟨go43, (t202 : Int).toNat * 6 + 2, none⟩ = false := hfr64 2
                  have hf64_3 : wc.frozen? ⟨go43, (t202 : Int).toNat * 6 + 3, none⟩ = false := hfr64 3
                  have hf64_4 : wc.frozen? ⟨go43, (t202 : Int).toNat * 6 + 4, none⟩ = false := hfr64 4
                  have hf64_5 : wc.frozen? ⟨go43, (t202 : Int).toNat * 6 + 5, none⟩ = false := hfr64 5
                  clear hcl64 hcc64 hfr64 hM64
                  replace p64 := eq_true p64
                  replace q64 := eq_true q64
                  have HX76 := Aside0.mk (show Kd.S k61 61 wc w.heap.size (fun k_ => ((fun _ => True)) k_ ∧ ¬ ((fun _ => False)) k_) (.slice (some ⟨go43, 0, none⟩) x14_40.length co42) x14_40 from (by (with_reducible repeat (first | apply Kd.S_alloc | apply Kd.S_drewN | apply Kd.S_drew)); exact Kd.S_mono HO_14.out (fun k_ hk => ⟨trivial, fun e_ => e_⟩)))
                  obtain ⟨oki76, ce76, hcl76, hM76, hcc76, hfr76, hoki76, hH76⟩ := Kd.S_elem HX76.out z61 (t202 : Int) (of_decide_eq_true (by first | (with_reducible assumption) | assumption)) (by have h_ : (t202 : Int) < ((x14_40.length : Int) : Int) := of_decide_eq_true (by first | (with_reducible assumption) | assumption); first | exact h_ | (have e_ := (Kd.S_reads' HO_14.out).1; omega) | simpa using h_)
                  obtain ⟨ve76_5, rfl, ge76_5⟩ := k61_openM hM76
                  have HP76 := Kd.S_seg hH76 (of_decide_eq_true (by first | (with_reducible assumption) | assumption)) (by have h_ : (t202 : Int) < ((x14_40.length : Int) : Int) := of_decide_eq_true (by first | (with_reducible assumption) | assumption); first | exact h_ | (have e_ := (Kd.S_reads' HO_14.out).1; omega) | simpa using h_) (seg := [.int .i64 (wrap64 (((rd_T61 x14_40 t202).f3) + a4))]) (j := 3) (show 4 ≤ 6 from by decide) (x' := (⟨(rd_T61 x14_40 t202).f0, (rd_T61 x14_40 t202).f1, (rd_T61 x14_40 t202).f2, wrap64 (((rd_T61 x14_40 t202).f3) + a4), (rd_T61 x14_40 t202).f4, (rd_T61 x14_40 t202).f5⟩ : S61)) (k61_mkM _ _ _ (⟨(rd_T61 x14_40 t202).f0, (rd_T61 x14_40 t202).f1, (rd_T61 x14_40 t202).f2, wrap64 (((rd_T61 x14_40 t202).f3) + a4), (rd_T61 x14_40 t202).f4, (rd_T61 x14_40 t202).f5⟩ : S61) (Kd.R_mono ge76_5 (fun _ h_ => Or.inl h_))) (fun _ hk => hk) (fun k_ hk_ => hk_.elim)
                  have hx76_3 := hcc76 3 _ rfl
                  (try simp only [show (k61).sz = 6 from rfl, Nat.mul_one, Nat.add_zero] at hx76_3)
                  have hf76_3 := hfr76 3
                  (try simp only [show (k61).sz = 6 from rfl, Nat.mul_one, Nat.add_zero] at hf76_3)
                  clear hcl76 hcc76 hfr76 hM76 hoki76 hH76
                  go_wp2_with (first | ((with_reducible refine gate_store (t := 3) (p := 115) rfl ?_); refine store_event (t := 3) (p := 115) (v := ?vo_w77) (w1 := (wc.setCell ⟨go43, (t202 : Int).toNat * 6 + 3, none⟩ (.int .i64 (wrap64 (((rd_T61 x14_40 t202).f3) + a4))))) ?hg ?ho ?hn ?hr ?_; (case ho => rfl); (case hg => rfl); (case hn => rfl); (case hr => first | (go_simp; done) | (go_simp; rfl)); intro w77 hw; have hg : wc.grownBy w77 (some go43) := (by rw [hw]; exact HP76.2); have hp_ : Kd.S k61 61 w77 w.heap.size (fun _ => True) (.slice (some ⟨go43, 0, none⟩) x14_40.length co42) y225 := (by rw [hw, Ny225.out]; exact HP76.1); clear HP76; have n0_ := Aside0.mk (hp_); have n1_ := Aside0.mk (Kd.R_after (v := (.slice (some ⟨go43, 0, none⟩) x14_40.length co42)) (v1 := (.slice (some ⟨go43, 0, none⟩) x14_40.length co42)) (ok := (fun _ => True)) (by (with_reducible repeat (first | apply Kd.R_alloc | apply Kd.R_drewN | apply Kd.R_drew)); exact HL224_5.out) hg (.inl rfl)); have n2_ := Aside0.mk ((by rw [hw]; exact below_set (HB.out) GB43.out : Below w.heap.size w w77)); clear HO_14; clear HL224_5; clear HB; have HO_14 := n0_; have HL224_5 := n1_; have HB := n2_; clear n0_ n1_ n2_; clear hg hw hp_; have p226 : 0 ≤ (t203 : Int) := of_decide_eq_true (by first | (with_reducible assumption) | assumption); have q226 : t203 < (y225.length : Int) := (by have h_ : (t203 : Int) < ((x14_40.length : Int) : Int) := of_decide_eq_true (by first | (with_reducible assumption) | assumption); first | (have e_ := (Kd.S_reads' HO_14.out).1; omega) | simpa only [Ny225.out, List.length_set] using h_); have ql226 : ((t203 : Int) < ((x14_40.length : Int) : Int)) = True := eq_true (of_decide_eq_true (by first | (with_reducible assumption) | assumption)); obtain ⟨ad226, A226_5, c226_5, e226, hx226_0, hx226_1, hx226_2, hx226_3, hx226_4, hx226_5, hl226_5, hi226_5⟩ := at_T61 (Kd.S_reads' HO_14.out).2.2 t203 p226 q226; obtain rfl : (⟨go43, 0, none⟩ : Addr) = ad226 := (by injection e226); obtain ⟨ce226, hce226, hMe226, hcc226⟩ := Kd.S_get HO_14.out z61 t203 p226 (by first | exact q226 | exact of_decide_eq_true (by first | (with_reducible assumption) | assumption) | (have e_ := (Kd.S_reads' HO_14.out).1; omega)); obtain ⟨ve226_5, rfl, ge226_5⟩ := k61_openM hMe226; have hv226_5 := hcc226 5 _ rfl; rw [add_field _ _ 5 (by omega)] at hv226_5; replace hv226_5 := Option.some.inj (hv226_5.symm.trans hx226_5); rw [hv226_5] at ge226_5; have HL226_5 := Aside0.mk (show Kd.R (Kd.int .i64) 3 _ _ _ _ ((rd_T61 y225 t203).f5) from ge226_5); clear hv226_5 ge226_5; have HX226_5 := Aside0.mk hx226_5; clear hcc226 hce226; (first | simp only [add_plain] at hx226_0 | simp only [add_at] at hx226_0 | simp only [Addr.add, Nat.zero_add] at hx226_0 | skip); (first | simp only [add_plain] at hx226_1 | simp only [add_at] at hx226_1 | simp only [Addr.add, Nat.zero_add] at hx226_1 | skip); (first | simp only [add_plain] at hx226_2 | simp only [add_at] at hx226_2 | simp only [Addr.add, Nat.zero_add] at hx226_2 | skip); (first | simp only [add_plain] at hx226_3 | simp only [add_at] at hx226_3 | simp only [Addr.add, Nat.zero_add] at hx226_3 | skip); (first | simp only [add_plain] at hx226_4 | simp only [add_at] at hx226_4 | simp only [Addr.add, Nat.zero_add] at hx226_4 | skip); (first | simp only [add_plain] at hx226_5 | simp only [add_at] at hx226_5 | simp only [Addr.add, Nat.zero_add] at hx226_5 | skip); have HR226_5 := Aside0.mk hi226_5; have HC226_5 := Aside0.mk hl226_5; clear hi226_5 hl226_5; replace p226 := eq_true p226; replace q226 := eq_true q226; have p67 : 0 ≤ (t203 : Int) := of_decide_eq_true (by first | (with_reducible assumption) | assumption); have q67 : (t203 : Int) < ((x14_40.length : Int) : Int) := of_decide_eq_true (by first | (with_reducible assumption) | assumption); obtain ⟨_, ce67, hcl67, hM67, hcc67, hfr67, _, _⟩ := Kd.S_elem HO_14.out z61 (t203 : Int) p67 q67; obtain ⟨ve67_5, rfl, ge67_5⟩ := k61_openM hM67; have hx67_0 : w77.cell? ⟨go43, (t203 : Int).toNat * 6, none⟩ = some (.int .i64 ((rd_T61 y225 t203).f0)) := hcc67 0 _ rfl; have hx67_1 : w77.cell? ⟨go43, (t203 : Int).toNat * 6 + 1, none⟩ = some (.int .i64 ((rd_T61 y225 t203).f1)) := hcc67 1 _ rfl; have hx67_2 : w77.cell? ⟨go43, (t203 : Int).toNat * 6 + 2, none⟩ = some (.int .i64 ((rd_T61 y225 t203).f2)) := hcc67 2 _ rfl; have hx67_3 : w77.cell? ⟨go43, (t203 : Int).toNat * 6 + 3, none⟩ = some (.int .i64 ((rd_T61 y225 t203).f3)) := hcc67 3 _ rfl; have hx67_4 : w77.cell? ⟨go43, (t203 : Int).toNat * 6 + 4, none⟩ = some (.int .i64 ((rd_T61 y225 t203).f4)) := hcc67 4 _ rfl; have hx67_5 : w77.cell? ⟨go43, (t203 : Int).toNat * 6 + 5, none⟩ = some (ve67_5) := hcc67 5 _ rfl; have hf67_0 : w77.frozen? ⟨go43, (t203 : Int).toNat * 6, none⟩ = false := hfr67 0; have hf67_1 : w77.frozen? ⟨go43, (t203 : Int).toNat * 6 + 1, none⟩ = false := hfr67 1; have hf67_2 : w77.frozen? ⟨go43, (t203 : Int).toNat * 6 + 2, none⟩ = false := hfr67 2; have hf67_3 : w77.frozen? ⟨go43, (t203 : Int).toNat * 6 + 3, none⟩ = false := hfr67 3; have hf67_4 : w77.frozen? ⟨go43, (t203 : Int).toNat * 6 + 4, none⟩ = false := hfr67 4; have hf67_5 : w77.frozen? ⟨go43, (t203 : Int).toNat * 6 + 5, none⟩ = false := hfr67 5; clear hcl67 hcc67 hfr67 hM67; replace p67 := eq_true p67; replace q67 := eq_true q67; have HX78 := Aside0.mk (show Kd.S k61 61 w77 w.heap.size (fun k_ => ((fun _ => True)) k_ ∧ ¬ ((fun _ => False)) k_) (.slice (some ⟨go43, 0, none⟩) x14_40.length co42) y225 from (by (with_reducible repeat (first | apply Kd.S_alloc | apply Kd.S_drewN | apply Kd.S_drew)); exact Kd.S_mono HO_14.out (fun k_ hk => ⟨trivial, fun e_ => e_⟩))); obtain ⟨oki78, ce78, hcl78, hM78, hcc78, hfr78, hoki78, hH78⟩ := Kd.S_elem HX78.out z61 (t203 : Int) (of_decide_eq_true (by first | (with_reducible assumption) | assumption)) (by have h_ : (t203 : Int) < ((x14_40.length : Int) : Int) := of_decide_eq_true (by first | (with_reducible assumption) | assumption); first | exact h_ | (have e_ := (Kd.S_reads' HO_14.out).1; omega) | simpa using h_); obtain ⟨ve78_5, rfl, ge78_5⟩ := k61_openM hM78; have HP78 := Kd.S_seg hH78 (of_decide_eq_true (by first | (with_reducible assumption) | assumption)) (by have h_ : (t203 : Int) < ((x14_40.length : Int) : Int) := of_decide_eq_true (by first | (with_reducible assumption) | assumption); first | exact h_ | (have e_ := (Kd.S_reads' HO_14.out).1; omega) | simpa using h_) (seg := [.int .i64 (wrap64 (((rd_T61 y225 t203).f3) + a5))]) (j := 3) (show 4 ≤ 6 from by decide) (x' := (⟨(rd_T61 y225 t203).f0, (rd_T61 y225 t203).f1, (rd_T61 y225 t203).f2, wrap64 (((rd_T61 y225 t203).f3) + a5), (rd_T61 y225 t203).f4, (rd_T61 y225 t203).f5⟩ : S61)) (k61_mkM _ _ _ (⟨(rd_T61 y225 t203).f0, (rd_T61 y225 t203).f1, (rd_T61 y225 t203).f2, wrap64 (((rd_T61 y225 t203).f3) + a5), (rd_T61 y225 t203).f4, (rd_T61 y225 t203).f5⟩ : S61) (Kd.R_mono ge78_5 (fun _ h_ => Or.inl h_))) (fun _ hk => hk) (fun k_ hk_ => hk_.elim); have hx78_3 := hcc78 3 _ rfl; (try simp only [show (k61).sz = 6 from rfl, Nat.mul_one, Nat.add_zero] at hx78_3); have hf78_3 := hfr78 3; (try simp only [show (k61).sz = 6 from rfl, Nat.mul_one, Nat.add_zero] at hf78_3); clear hcl78 hcc78 hfr78 hM78 hoki78 hH78) | ((with_reducible refine gate_store (t := 3) (p := 124) rfl ?_); refine store_event (t := 3) (p := 124) (v := ?vo_w79) (w1 := (w77.setCell ⟨go43, (t203 : Int).toNat * 6 + 3, none⟩ (.int .i64 (wrap64 (((rd_T61 y225 t203).f3) + a5))))) ?hg ?ho ?hn ?hr ?_; (case ho => rfl); (case hg => rfl); (case hn => rfl); (case hr => first | (go_simp; done) | (go_simp; rfl)); intro w79 hw; have hg : w77.grownBy w79 (some go43) := (by rw [hw]; exact HP78.2); have hp_ : Kd.S k61 61 w79 w.heap.size (fun _ => True) (.slice (some ⟨go43, 0, none⟩) x14_40.length co42) y227 := (by rw [hw, Ny227.out]; exact HP78.1); clear HP78; have n0_ := Aside0.mk (hp_); have n1_ := Aside0.mk (Kd.R_after (v := (.slice (some ⟨go43, 0, none⟩) x14_40.length co42)) (v1 := (.slice (some ⟨go43, 0, none⟩) x14_40.length co42)) (ok := (fun _ => True)) (by (with_reducible repeat (first | apply Kd.R_alloc | apply Kd.R_drewN | apply Kd.R_drew)); exact HL224_5.out) hg (.inl rfl)); have n2_ := Aside0.mk (Kd.R_after (v := (.slice (some ⟨go43, 0, none⟩) x14_40.length co42)) (v1 := (.slice (some ⟨go43, 0, none⟩) x14_40.length co42)) (ok := (fun _ => True)) (by (with_reducible repeat (first | apply Kd.R_alloc | apply Kd.R_drewN | apply Kd.R_drew)); exact HL226_5.out) hg (.inl rfl)); have n3_ := Aside0.mk ((by rw [hw]; exact below_set (HB.out) GB43.out : Below w.heap.size w w79)); clear HO_14; clear HL224_5; clear HL226_5; clear HB; have HO_14 := n0_; have HL224_5 := n1_; have HL226_5 := n2_; have HB := n3_; clear n0_ n1_ n2_ n3_; clear hg hw hp_) | ((with_reducible refine gate_callee (f := 21) rfl ?_); refine goesL_ (some 126) rfl rfl Try.func21 (by kernel_rfl) rfl #[.slice (some ⟨go43, 0, none⟩) y227.length co42] rfl (by (try simp only [List.map_toArray, List.map_cons, List.map_nil]); first | done | (rw [show y227.length = x14_40.length from (Kd.S_reads' HO_14.out).1.symm] <;> rfl) | rfl | (simp only [List.length_drop, List.length_take]; rfl)) ?_; (with_reducible refine (impl_AreTeams.calls kj40 _ _ y227 false _ ?side1 ?side2 A68.out).mono ?_); (case side1 => repeat (first | exact (Kd.S_reads' HO_14.out).2.2 | (with_reducible refine Kd.C_alloc ?_ _) | (with_reducible refine Kd.C_drewN ?_ _) | (with_reducible refine Kd.C_drew ?_))); (case side2 => rw [show y227.length = x14_40.length from (Kd.S_reads' HO_14.out).1.symm]; exact (Kd.S_reads' HO_14.out).2.1); rintro e w80 ⟨rfl, hb⟩; refine ⟨_, rfl, ?_⟩; have n0_ := Aside0.mk (Kd.S_below (by (with_reducible repeat (first | apply Kd.S_alloc | apply Kd.S_drewN | apply Kd.S_drew)); exact HO_14.out) hb); have n1_ := Aside0.mk (Kd.R_below (by (with_reducible repeat (first | apply Kd.R_alloc | apply Kd.R_drewN | apply Kd.R_drew)); exact HL224_5.out) hb); have n2_ := Aside0.mk (Kd.R_below (by (with_reducible repeat (first | apply Kd.R_alloc | apply Kd.R_drewN | apply Kd.R_drew)); exact HL226_5.out) hb); have n3_ := Aside0.mk (below_step (by repeat (first | (with_reducible first | exact HB.out | apply below_alloc | apply pw_below_drewN | apply below_drew1) | exact HB.out)) hb); clear HO_14; clear HL224_5; clear HL226_5; clear HB; have HO_14 := n0_; have HL224_5 := n1_; have HL226_5 := n2_; have HB := n3_; clear n0_ n1_ n2_ n3_; (try clear hb); (try clear hb2); (try clear hk); (try clear hi)) | ((with_reducible refine gate_callee (f := 75) rfl ?_); refine goesL_ (some 129) rfl rfl Try.func75 (by kernel_rfl) rfl #[.slice A0 l0.length c0] rfl (by (try simp only [List.map_toArray, List.map_cons, List.map_nil]); first | done | rfl | (simp only [List.length_drop, List.length_take]; rfl)) ?_; (with_reducible refine (impl_cloneTeams.calls kj40 _ _ l0 t229 _ ?side1 ?side2 A75.out).mono ?_); (case side1 => repeat (first | exact (Kd.C_below HR0.out HB.out) | (with_reducible refine Kd.C_alloc ?_ _) | (with_reducible refine Kd.C_drewN ?_ _) | (with_reducible refine Kd.C_drew ?_))); (case side2 => exact HC0.out); rintro e w81 ⟨v230, rfl, ho0, hb⟩; refine ⟨_, rfl, ?_⟩; have n0_ := Aside0.mk (Kd.S_elder' (by (with_reducible repeat (first | apply Kd.S_alloc | apply Kd.S_drewN | apply Kd.S_drew)); exact HO_14.out) (Kd.S_base ho0) hb); have n1_ := Aside0.mk (Kd.R_below (by (with_reducible repeat (first | apply Kd.R_alloc | apply Kd.R_drewN | apply Kd.R_drew)); exact HL224_5.out) hb); have n2_ := Aside0.mk (Kd.R_below (by (with_reducible repeat (first | apply Kd.R_alloc | apply Kd.R_drewN | apply Kd.R_drew)); exact HL226_5.out) hb); have n3_ := Aside0.mk (Kd.S_lower (Kd.S_new' (Kd.S_new' (Kd.S_new' ho0 (Kd.S_lt (by (with_reducible repeat (first | apply Kd.S_alloc | apply Kd.S_drewN | apply Kd.S_drew)); exact HO_14.out))) (Kd.R_lt (by (with_reducible repeat (first | apply Kd.R_alloc | apply Kd.R_drewN | apply Kd.R_drew)); exact HL224_5.out))) (Kd.R_lt (by (with_reducible repeat (first | apply Kd.R_alloc | apply Kd.R_drewN | apply Kd.R_drew)); exact HL226_5.out))) (below_size (by repeat (first | (with_reducible first | exact HB.out | apply below_alloc | apply pw_below_drewN | apply below_drew1) | exact HB.out)))); have n4_ := Aside0.mk (below_step (by repeat (first | (with_reducible first | exact HB.out | apply below_alloc | apply pw_below_drewN | apply below_drew1) | exact HB.out)) hb); clear HO_14; clear HL224_5; clear HL226_5; clear HB; have HO_14 := n0_; have HL224_5 := n1_; have HL226_5 := n2_; have HO231 := n3_; have HB := n4_; clear n0_ n1_ n2_ n3_ n4_; (try clear hb); (try clear hb2); (try clear hk); (try clear hi); (try clear ho0)))
                  go_ret2
                  exact ⟨_, by first | rfl | (simp [errW_none, errW_some] <;> rfl) | (simp [*, errW_none, errW_some] <;> rfl), by (with_reducible repeat (first | apply Kd.S_alloc | apply Kd.S_drewN | apply Kd.S_drew)); exact Kd.S_mono HO231.out (fun _ hk => trivial), by repeat (first | (with_reducible first | exact HB.out | apply below_alloc | apply pw_below_drewN | apply below_drew1) | exact HB.out)⟩
                ·
                 rw [if_neg c66] at H
                 exact absurd H (by simp)
               ·
                rw [if_neg c65] at H
                exact absurd H (by simp)
              ·
               rw [if_neg c63] at H
               exact absurd H (by simp)
             ·
              rw [if_neg c62] at H
              exact absurd H (by simp)
         ·
          rw [if_neg c38] at H
          exact absurd H (by simp)
        ·
         rw [if_neg c37] at H
         exact absurd H (by simp)
       ·
        rw [if_neg c36] at H
        exact absurd H (by simp)
      ·
       rw [if_neg c34] at H
       exact absurd H (by simp)
     ·
      rw [if_neg c33] at H
      exact absurd H (by simp)
    ·
     rw [if_neg c32] at H
     exact absurd H (by simp)
end Go.Proofs.Ytiimiogpiflkdaa.A
end

section
namespace Go.Proofs.Ytiimiogpiflkdaa.A
open Go.RowKit Go.Proofs.YtiimiogpiflkdaaW.PrintWords Go.Proofs.YtiimiogpiflkdaaW.PrintLast Go.Proofs.YtiimiogpiflkdaaW.PrintMore
attribute [local go_sem] max2_int min2_int max_two min_two max_three min_three max_four min_four   -- for this text's walks alone
set_option linter.unusedVariables false
set_option linter.unusedSimpArgs false
def slices_Index_int_int.l0 : Nat → List Int → Int → Int → Int → Option (Int)
  | 0, _, _, _, _ => none
  | k + 1, x0, x1, x7, x8 => if x8 < x7 then (if 0 ≤ x8 then (if x8 < (x0.length : Int) then (if x1 = (rd x0 x8) then (some x8) else (slices_Index_int_int.l0 k x0 x1 x7 (wrap64 (x8 + 1)))) else (none)) else (none)) else (some (-1))
def slices_Index_int_int.f (k : Nat) (l0 : List Int) (a1 : Int) : Option (Int) := slices_Index_int_int.l0 k l0 a1 (l0.length : Int) 0
set_option maxHeartbeats 8000000 in
set_option maxRecDepth 100000 in
theorem slices_Index_int_int.calls (k : Nat) (A0 : Option Addr) (c0 : Nat) (l0 : List Int) (a1 : Int) (r : Int) (w : World) (hr0 : Kd.C (Kd.int .i64) w A0 l0.length l0) (hc0 : l0.length ≤ c0) (h : slices_Index_int_int.f k l0 a1 = some r) :
  Calls Try.prog 73 #[.slice A0 l0.length c0, .int .i64 a1] w fun e w' => e = .returned (.int .i64 r) ∧ Drawn0 w w' := by
 have HR0 := Aside0.mk hr0
 have HC0 := Aside0.mk hc0
 clear hr0 hc0
 have H : (slices_Index_int_int.l0 k l0 a1 (l0.length : Int) 0) = some r := h
 clear h
 have H' := Aside0.mk H
 clear H
 go_enter Try.func73, Try.ntmps73
 go_wp2
 go_loopg [8] k (fun kq v8 w' => ∃ (x8_1 : Int), v8 = .int .i64 x8_1 ∧ Aside0 (slices_Index_int_int.l0 kq l0 a1 (l0.length : Int) x8_1 = some r) ∧ Aside0 (kq ≤ k) ∧ Drawn0 w w')
 case atStart => exact ⟨(0), (by first | rfl | (simp; done) | (simp [*]; done)), H', ⟨Nat.le_refl _⟩, by repeat (first | exact Drawn0.refl _ | apply Drawn0.step)⟩
 case round =>
  clear H'
  try clear p2
  obtain ⟨x8_1, rfl, HA, HK1, ⟨m1, rfl⟩⟩ := hrel
  cases gk with
  | zero => exact absurd HA.out (by simp [slices_Index_int_int.l0])
  | succ k1 =>
   have H := HA.out
   clear HA
   simp only [slices_Index_int_int.l0] at H
   by_cases c3 : x8_1 < (l0.length : Int)
   ·
    rw [if_pos c3] at H
    have c3b0 : decide (x8_1 < (l0.length : Int)) = true := decide_eq_true c3
    clear c3
    by_cases c4 : 0 ≤ x8_1
    ·
     rw [if_pos c4] at H
     have c4b0 : decide (0 ≤ x8_1) = true := decide_eq_true c4
     clear c4
     by_cases c5 : x8_1 < (l0.length : Int)
     ·
      rw [if_pos c5] at H
      have c5b0 : decide (x8_1 < (l0.length : Int)) = true := decide_eq_true c5
      clear c5
      by_cases c6 : a1 = (rd l0 x8_1)
      ·
       rw [if_pos c6] at H
       have c6b0 : (a1 == (rd l0 x8_1)) = true := beq_iff_eq.mpr c6
       have c6b1 : (a1 != (rd l0 x8_1)) = false := bne_eq_false_iff_eq.mpr c6
       clear c6
       obtain rfl := Option.some.inj H
       have p306 : 0 ≤ (x8_1 : Int) := of_decide_eq_true (by first | (with_reducible assumption) | assumption)
       have q306 : x8_1 < (l0.length : Int) := of_decide_eq_true (by first | (with_reducible assumption) | assumption)
       obtain ⟨ad306, e306, hx306_0⟩ := Kd.at_int HR0.out x8_1 p306 q306
       cases e306
       replace p306 := eq_true p306
       replace q306 := eq_true q306
       go_wp2
       go_ret
       exact ⟨by first | rfl | (simp; done) | (simp [*]; done), by repeat (first | exact Drawn0.refl _ | apply Drawn0.step)⟩
      ·
       rw [if_neg c6] at H
       have c6b0 : (a1 == (rd l0 x8_1)) = false := beq_eq_false_iff_ne.mpr c6
       have c6b1 : (a1 != (rd l0 x8_1)) = true := bne_iff_ne.mpr c6
       have H' := Aside0.mk H
       clear H
       have p306 : 0 ≤ (x8_1 : Int) := of_decide_eq_true (by first | (with_reducible assumption) | assumption)
       have q306 : x8_1 < (l0.length : Int) := of_decide_eq_true (by first | (with_reducible assumption) | assumption)
       obtain ⟨ad306, e306, hx306_0⟩ := Kd.at_int HR0.out x8_1 p306 q306
       cases e306
       replace p306 := eq_true p306
       replace q306 := eq_true q306
       go_wp2
       go_roundg k1
       case measure => have := HK1.out; omega
       case rel => exact ⟨(wrap64 (x8_1 + 1)), (by first | rfl | (simp; done) | (simp [*]; done)), H', ⟨by have := HK1.out; omega⟩, by repeat (first | exact Drawn0.refl _ | apply Drawn0.step)⟩
     ·
      rw [if_neg c5] at H
      exact absurd H (by simp)
    ·
     rw [if_neg c4] at H
     exact absurd H (by simp)
   ·
    rw [if_neg c3] at H
    have c3b0 : decide (x8_1 < (l0.length : Int)) = false := decide_eq_false c3
    clear c3
    obtain rfl := Option.some.inj H
    go_wp2
    go_ret
    exact ⟨by first | rfl | (simp; done) | (simp [*]; done), by repeat (first | exact Drawn0.refl _ | apply Drawn0.step)⟩
end Go.Proofs.Ytiimiogpiflkdaa.A
end

section
namespace Go.Proofs.Ytiimiogpiflkdaa.A
open Go.RowKit Go.Proofs.YtiimiogpiflkdaaW.PrintWords Go.Proofs.YtiimiogpiflkdaaW.PrintLast Go.Proofs.YtiimiogpiflkdaaW.PrintMore
attribute [local go_sem] max2_int min2_int max_two min_two max_three min_three max_four min_four   -- for this text's walks alone
set_option linter.unusedVariables false
set_option linter.unusedSimpArgs false
def slices_Contains_int_int.f (k : Nat) (l0 : List Int) (a1 : Int) : Option (Bool) := (slices_Index_int_int.f k l0 a1).bind fun t307 => (some (decide (t307 ≥ 0)))
set_option maxHeartbeats 8000000 in
set_option maxRecDepth 100000 in
theorem slices_Contains_int_int.calls (k : Nat) (A0 : Option Addr) (c0 : Nat) (l0 : List Int) (a1 : Int) (r : Bool) (w : World) (hr0 : Kd.C (Kd.int .i64) w A0 l0.length l0) (hc0 : l0.length ≤ c0) (h : slices_Contains_int_int.f k l0 a1 = some r) :
  Calls Try.prog 64 #[.slice A0 l0.length c0, .int .i64 a1] w fun e w' => e = .returned (.bool r) ∧ Drawn0 w w' := by
 have HR0 := Aside0.mk hr0
 have HC0 := Aside0.mk hc0
 clear hr0 hc0
 have H : ((slices_Index_int_int.f k l0 a1).bind fun t307 => (some (decide (t307 ≥ 0)))) = some r := h
 clear h
 replace H := Option.bind_eq_some_iff.mp H
 obtain ⟨t307, A30, H⟩ := H
 replace H : (some (decide (t307 ≥ 0))) = some r := H
 have A3 := Aside0.mk A30
 clear A30
 obtain rfl := Option.some.inj H
 go_enter Try.func64, Try.ntmps64
 go_wp2_with (first | ((with_reducible refine gate_callee (f := 73) rfl ?_); refine goesL_ (some 7) rfl rfl Try.func73 (by kernel_rfl) rfl #[.slice A0 l0.length c0, .int .i64 a1] rfl (by (try simp only [List.map_toArray, List.map_cons, List.map_nil]); first | done | rfl | (simp only [List.length_drop, List.length_take]; rfl)) ?_; (with_reducible refine (slices_Index_int_int.calls k _ _ l0 a1 t307 _ ?side1 ?side2 A3.out).mono ?_); (case side1 => repeat (first | exact HR0.out | (with_reducible refine Kd.C_alloc ?_ _) | (with_reducible refine Kd.C_drewN ?_ _) | (with_reducible refine Kd.C_drew ?_))); (case side2 => exact HC0.out); rintro e w' ⟨rfl, ⟨nd, rfl⟩⟩; refine ⟨_, rfl, ?_⟩))
 go_ret
 exact ⟨by first | rfl | (simp; done) | (simp [*]; done), by repeat (first | exact Drawn0.refl _ | apply Drawn0.step)⟩
end Go.Proofs.Ytiimiogpiflkdaa.A
end

section
namespace Go.Proofs.Ytiimiogpiflkdaa.A
open Go.RowKit Go.Proofs.YtiimiogpiflkdaaW.PrintWords Go.Proofs.YtiimiogpiflkdaaW.PrintLast Go.Proofs.YtiimiogpiflkdaaW.PrintMore
attribute [local go_sem] max2_int min2_int max_two min_two max_three min_three max_four min_four   -- for this text's walks alone
set_option linter.unusedVariables false
set_option linter.unusedSimpArgs false
def impl_HaveMet.f (k : Nat) (l0 : List (S61)) (a1 : Int) (a2 : Int) : Option (Bool) := (impl_FindTeam.f l0 a1).bind fun t308 => (if t308 ≥ 0 then (if 0 ≤ t308 then (if t308 < (l0.length : Int) then ((slices_Contains_int_int.f k ((rd_T61 l0 t308).f5) a2).bind fun t310 => (some t310)) else (none)) else (none)) else (some false))
set_option maxHeartbeats 8000000 in
set_option maxRecDepth 100000 in
theorem impl_HaveMet.calls (k : Nat) (A0 : Option Addr) (c0 : Nat) (l0 : List (S61)) (a1 : Int) (a2 : Int) (r : Bool) (w : World) (hr0 : Kd.C k61 w A0 l0.length l0) (hc0 : l0.length ≤ c0) (h : impl_HaveMet.f k l0 a1 a2 = some r) :
  Calls Try.prog 23 #[.slice A0 l0.length c0, .int .i64 a1, .int .i64 a2] w fun e w' => e = .returned (.bool r) ∧ Below w.heap.size w w' := by
 have HR0 := Aside0.mk hr0
 have HC0 := Aside0.mk hc0
 clear hr0 hc0
 have HB := Aside0.mk (Below.refl w.heap.size w)
 have H : ((impl_FindTeam.f l0 a1).bind fun t308 => (if t308 ≥ 0 then (if 0 ≤ t308 then (if t308 < (l0.length : Int) then ((slices_Contains_int_int.f k ((rd_T61 l0 t308).f5) a2).bind fun t310 => (some t310)) else (none)) else (none)) else (some false))) = some r := h
 clear h
 replace H := Option.bind_eq_some_iff.mp H
 obtain ⟨t308, A40, H⟩ := H
 replace H : (if t308 ≥ 0 then (if 0 ≤ t308 then (if t308 < (l0.length : Int) then ((slices_Contains_int_int.f k ((rd_T61 l0 t308).f5) a2).bind fun t310 => (some t310)) else (none)) else (none)) else (some false)) = some r := H
 have A4 := Aside0.mk A40
 clear A40
 by_cases c5 : t308 ≥ 0
 ·
  rw [if_pos c5] at H
  have c5b0 : decide (0 ≤ t308) = true := decide_eq_true c5
  clear c5
  by_cases c6 : 0 ≤ t308
  ·
   rw [if_pos c6] at H
   have c6b0 : decide (0 ≤ t308) = true := decide_eq_true c6
   clear c6
   by_cases c7 : t308 < (l0.length : Int)
   ·
    rw [if_pos c7] at H
    have c7b0 : decide (t308 < (l0.length : Int)) = true := decide_eq_true c7
    clear c7
    replace H := Option.bind_eq_some_iff.mp H
    obtain ⟨t310, A80, H⟩ := H
    replace H : (some t310) = some r := H
    have A8 := Aside0.mk A80
    clear A80
    obtain rfl := Option.some.inj H
    go_enter Try.func23, Try.ntmps23
    go_wp2_with (first | ((with_reducible refine gate_callee (f := 18) rfl ?_); refine goesL_ (some 10) rfl rfl Try.func18 (by kernel_rfl) rfl #[.slice A0 l0.length c0, .int .i64 a1] rfl (by (try simp only [List.map_toArray, List.map_cons, List.map_nil]); first | done | rfl | (simp only [List.length_drop, List.length_take]; rfl)) ?_; (with_reducible refine (impl_FindTeam.calls _ _ l0 a1 t308 _ ?side1 ?side2 A4.out).mono ?_); (case side1 => repeat (first | exact HR0.out | (with_reducible refine Kd.C_alloc ?_ _) | (with_reducible refine Kd.C_drewN ?_ _) | (with_reducible refine Kd.C_drew ?_))); (case side2 => exact HC0.out); rintro e w9 ⟨rfl, hb⟩; refine ⟨_, rfl, ?_⟩; have n0_ := Aside0.mk (below_step (by repeat (first | (with_reducible first | exact HB.out | apply below_alloc | apply pw_below_drewN | apply below_drew1) | exact HB.out)) hb); clear HB; have HB := n0_; clear n0_; (try clear hb); (try clear hb2); (try clear hk); (try clear hi); have p309 : 0 ≤ (t308 : Int) := of_decide_eq_true (by first | (with_reducible assumption) | assumption); have q309 : t308 < (l0.length : Int) := of_decide_eq_true (by first | (with_reducible assumption) | assumption); obtain ⟨ad309, A309_5, c309_5, e309, hx309_0, hx309_1, hx309_2, hx309_3, hx309_4, hx309_5, hl309_5, hi309_5⟩ := at_T61 HR0.out t308 p309 q309; cases e309; replace hx309_0 := (HB.out.cell (World.block_lt_of_cell? w _ hx309_0)).trans hx309_0; replace hx309_1 := (HB.out.cell (World.block_lt_of_cell? w _ hx309_1)).trans hx309_1; replace hx309_2 := (HB.out.cell (World.block_lt_of_cell? w _ hx309_2)).trans hx309_2; replace hx309_3 := (HB.out.cell (World.block_lt_of_cell? w _ hx309_3)).trans hx309_3; replace hx309_4 := (HB.out.cell (World.block_lt_of_cell? w _ hx309_4)).trans hx309_4; replace hx309_5 := (HB.out.cell (World.block_lt_of_cell? w _ hx309_5)).trans hx309_5; have HR309_5 := Aside0.mk hi309_5; have HC309_5 := Aside0.mk hl309_5; clear hi309_5 hl309_5; replace p309 := eq_true p309; replace q309 := eq_true q309) | (go_at_call 64; (with_reducible refine (slices_Contains_int_int.calls k _ _ ((rd_T61 l0 t308).f5) a2 t310 _ ?side1 ?side2 A8.out).mono ?_); (case side1 => repeat (first | exact (Kd.C_below HR309_5.out HB.out) | (with_reducible refine Kd.C_alloc ?_ _) | (with_reducible refine Kd.C_drewN ?_ _) | (with_reducible refine Kd.C_drew ?_))); (case side2 => exact HC309_5.out); rintro e w' ⟨rfl, ⟨nd, rfl⟩⟩))
    go_ret
    exact ⟨by first | rfl | (simp [errW_none, errW_some] <;> rfl) | (simp [*, errW_none, errW_some] <;> rfl), by repeat (first | (with_reducible first | exact HB.out | apply below_alloc | apply pw_below_drewN | apply below_drew1) | exact HB.out)⟩
   ·
    rw [if_neg c7] at H
    exact absurd H (by simp)
  ·
   rw [if_neg c6] at H
   exact absurd H (by simp)
 ·
  rw [if_neg c5] at H
  have c5b0 : decide (0 ≤ t308) = false := decide_eq_false c5
  clear c5
  obtain rfl := Option.some.inj H
  go_enter Try.func23, Try.ntmps23
  go_wp2_with (first | ((with_reducible refine gate_callee (f := 18) rfl ?_); refine goesL_ (some 10) rfl rfl Try.func18 (by kernel_rfl) rfl #[.slice A0 l0.length c0, .int .i64 a1] rfl (by (try simp only [List.map_toArray, List.map_cons, List.map_nil]); first | done | rfl | (simp only [List.length_drop, List.length_take]; rfl)) ?_; (with_reducible refine (impl_FindTeam.calls _ _ l0 a1 t308 _ ?side1 ?side2 A4.out).mono ?_); (case side1 => repeat (first | exact HR0.out | (with_reducible refine Kd.C_alloc ?_ _) | (with_reducible refine Kd.C_drewN ?_ _) | (with_reducible refine Kd.C_drew ?_))); (case side2 => exact HC0.out); rintro e w10 ⟨rfl, hb⟩; refine ⟨_, rfl, ?_⟩; have n0_ := Aside0.mk (below_step (by repeat (first | (with_reducible first | exact HB.out | apply below_alloc | apply pw_below_drewN | apply below_drew1) | exact HB.out)) hb); clear HB; have HB := n0_; clear n0_; (try clear hb); (try clear hb2); (try clear hk); (try clear hi)))
  go_ret
  exact ⟨by first | rfl | (simp [errW_none, errW_some] <;> rfl) | (simp [*, errW_none, errW_some] <;> rfl), by repeat (first | (with_reducible first | exact HB.out | apply below_alloc | apply pw_below_drewN | apply below_drew1) | exact HB.out)⟩
end Go.Proofs.Ytiimiogpiflkdaa.A
end

section
namespace Go.Proofs.Ytiimiogpiflkdaa.A
open Go.RowKit Go.Proofs.YtiimiogpiflkdaaW.PrintWords Go.Proofs.YtiimiogpiflkdaaW.PrintLast Go.Proofs.YtiimiogpiflkdaaW.PrintMore
attribute [local go_sem] max2_int min2_int max_two min_two max_three min_three max_four min_four   -- for this text's walks alone
set_option linter.unusedVariables false
set_option linter.unusedSimpArgs false
def impl_TotalWins.l0 : Nat → Int → List (S61) → Int → Int → Option (Int)
  | 0, _, _, _, _ => none
  | k + 1, x3, x10, x11, x12 => if x12 < x11 then (if 0 ≤ x12 then (if x12 < (x10.length : Int) then (impl_TotalWins.l0 k (wrap64 (x3 + ((rd_T61 x10 x12).f2))) x10 x11 (wrap64 (x12 + 1))) else (none)) else (none)) else (some x3)
def impl_TotalWins.f (k : Nat) (l0 : List (S61)) : Option (Int) := (impl_AreTeams.f k l0).bind fun t410 => (if t410 = true then (impl_TotalWins.l0 k 0 l0 (l0.length : Int) 0) else (some 0))
set_option maxHeartbeats 8000000 in
set_option maxRecDepth 100000 in
theorem impl_TotalWins.calls (k : Nat) (A0 : Option Addr) (c0 : Nat) (l0 : List (S61)) (r : Int) (w : World) (hr0 : Kd.C k61 w A0 l0.length l0) (hc0 : l0.length ≤ c0) (h : impl_TotalWins.f k l0 = some r) :
  Calls Try.prog 25 #[.slice A0 l0.length c0] w fun e w' => e = .returned (.int .i64 r) ∧ Below w.heap.size w w' := by
 have hu61 := Try.underlying61
 have HR0 := Aside0.mk hr0
 have HC0 := Aside0.mk hc0
 clear hr0 hc0
 have HB := Aside0.mk (Below.refl w.heap.size w)
 have H : ((impl_AreTeams.f k l0).bind fun t410 => (if t410 = true then (impl_TotalWins.l0 k 0 l0 (l0.length : Int) 0) else (some 0))) = some r := h
 clear h
 replace H := Option.bind_eq_some_iff.mp H
 obtain ⟨t410, A20, H⟩ := H
 replace H : (if t410 = true then (impl_TotalWins.l0 k 0 l0 (l0.length : Int) 0) else (some 0)) = some r := H
 have A2 := Aside0.mk A20
 clear A20
 by_cases c3 : t410 = true
 ·
  subst c3
  have H1 : (impl_TotalWins.l0 k 0 l0 (l0.length : Int) 0) = some r := by rw [if_pos rfl] at H; exact H
  clear H
  have H := H1
  clear H1
  have H' := Aside0.mk H
  clear H
  go_enter Try.func25, Try.ntmps25
  go_wp2_with (first | ((with_reducible refine gate_callee (f := 21) rfl ?_); refine goesL_ (some 7) rfl rfl Try.func21 (by kernel_rfl) rfl #[.slice A0 l0.length c0] rfl (by (try simp only [List.map_toArray, List.map_cons, List.map_nil]); first | done | rfl | (simp only [List.length_drop, List.length_take]; rfl)) ?_; (with_reducible refine (impl_AreTeams.calls k _ _ l0 true _ ?side1 ?side2 A2.out).mono ?_); (case side1 => repeat (first | exact HR0.out | (with_reducible refine Kd.C_alloc ?_ _) | (with_reducible refine Kd.C_drewN ?_ _) | (with_reducible refine Kd.C_drew ?_))); (case side2 => exact HC0.out); rintro e w4 ⟨rfl, hb⟩; refine ⟨_, rfl, ?_⟩; have n0_ := Aside0.mk (below_step (by repeat (first | (with_reducible first | exact HB.out | apply below_alloc | apply pw_below_drewN | apply below_drew1) | exact HB.out)) hb); clear HB; have HB := n0_; clear n0_; (try clear hb); (try clear hb2); (try clear hk); (try clear hi)))
  go_loopg [3, 12] k (fun kq v3 v12 w' => ∃ (x3_1 : Int) (x12_1 : Int), v3 = .int .i64 x3_1 ∧ v12 = .int .i64 x12_1 ∧ Aside0 (impl_TotalWins.l0 kq x3_1 l0 (l0.length : Int) x12_1 = some r) ∧ Aside0 (kq ≤ k) ∧ Aside0 (Below w.heap.size w w'))
  case atStart => exact ⟨(0), (0), (by first | rfl | (simp; done) | (simp [*]; done)), (by first | rfl | (simp; done) | (simp [*]; done)), H', ⟨Nat.le_refl _⟩, ⟨by repeat (first | (with_reducible first | exact HB.out | apply below_alloc | apply pw_below_drewN | apply below_drew1) | exact HB.out)⟩⟩
  case round =>
   clear H'
   try clear c2
   try clear p2
   try clear c3
   obtain ⟨x3_1, x12_1, rfl, rfl, HA, HK1, HB⟩ := hrel
   cases gk with
   | zero => exact absurd HA.out (by simp [impl_TotalWins.l0])
   | succ k1 =>
    have H := HA.out
    clear HA
    simp only [impl_TotalWins.l0] at H
    by_cases c5 : x12_1 < (l0.length : Int)
    ·
     rw [if_pos c5] at H
     have c5b0 : decide (x12_1 < (l0.length : Int)) = true := decide_eq_true c5
     clear c5
     by_cases c6 : 0 ≤ x12_1
     ·
      rw [if_pos c6] at H
      have c6b0 : decide (0 ≤ x12_1) = true := decide_eq_true c6
      clear c6
      by_cases c7 : x12_1 < (l0.length : Int)
      ·
       rw [if_pos c7] at H
       have c7b0 : decide (x12_1 < (l0.length : Int)) = true := decide_eq_true c7
       clear c7
       have H' := Aside0.mk H
       clear H
       have p411 : 0 ≤ (x12_1 : Int) := of_decide_eq_true (by first | (with_reducible assumption) | assumption)
       have q411 : x12_1 < (l0.length : Int) := of_decide_eq_true (by first | (with_reducible assumption) | assumption)
       obtain ⟨ad411, A411_5, c411_5, e411, hx411_0, hx411_1, hx411_2, hx411_3, hx411_4, hx411_5, hl411_5, hi411_5⟩ := at_T61 HR0.out x12_1 p411 q411
       cases e411
       replace hx411_0 := (HB.out.cell (World.block_lt_of_cell? w _ hx411_0)).trans hx411_0
       replace hx411_1 := (HB.out.cell (World.block_lt_of_cell? w _ hx411_1)).trans hx411_1
       replace hx411_2 := (HB.out.cell (World.block_lt_of_cell? w _ hx411_2)).trans hx411_2
       replace hx411_3 := (HB.out.cell (World.block_lt_of_cell? w _ hx411_3)).trans hx411_3
       replace hx411_4 := (HB.out.cell (World.block_lt_of_cell? w _ hx411_4)).trans hx411_4
       replace hx411_5 := (HB.out.cell (World.block_lt_of_cell? w _ hx411_5)).trans hx411_5
       have HR411_5 := Aside0.mk hi411_5
       have HC411_5 := Aside0.mk hl411_5
       clear hi411_5 hl411_5
       replace p411 := eq_true p411
       replace q411 := eq_true q411
       go_wp2_with (first | ((with_reducible refine gate_dst (N := 5) rfl ?_); refine box_event ?hg (N := 5) ?hd (cs := #[.int .i64 0, .int .i64 0, .int .i64 0, .int .i64 0, .int .i64 0, .slice none 0 0]) (t := 61) ?hr ?_; (case hd => rfl); (case hg => rfl); (case hr => first | (go_simp; done) | (go_simp; rfl)); intro gb412 hg w8 hbox hb; have n0_ := Aside0.mk (below_step (by repeat (first | (with_reducible first | exact HB.out | apply below_alloc | apply pw_below_drewN | apply below_drew1) | exact HB.out)) hb); have n1_ := Aside0.mk (hbox); have n2_ := Aside0.mk ((by rw [hg]; exact (below_size (by repeat (first | (with_reducible first | exact HB.out | apply below_alloc | apply pw_below_drewN | apply below_drew1) | exact HB.out))) : w.heap.size ≤ gb412)); have n3_ := Aside0.mk ((by rw [hg]; exact (below_size (by repeat (first | (with_reducible first | exact HB.out | apply below_alloc | apply pw_below_drewN | apply below_drew1) | exact HB.out))) : w.heap.size ≤ gb412)); clear HB; have HB := n0_; have BK412 := n1_; have GW412 := n2_; have GE412 := n3_; clear n0_ n1_ n2_ n3_; clear hb hbox hg; have hcz9_0 : w8.cell? ⟨gb412, 0, none⟩ = some (.int .i64 0) := (blk_cell BK412.out 0).trans rfl; have hcz9_1 : w8.cell? ⟨gb412, 1, none⟩ = some (.int .i64 0) := (blk_cell BK412.out 1).trans rfl; have hcz9_2 : w8.cell? ⟨gb412, 2, none⟩ = some (.int .i64 0) := (blk_cell BK412.out 2).trans rfl; have hcz9_3 : w8.cell? ⟨gb412, 3, none⟩ = some (.int .i64 0) := (blk_cell BK412.out 3).trans rfl; have hcz9_4 : w8.cell? ⟨gb412, 4, none⟩ = some (.int .i64 0) := (blk_cell BK412.out 4).trans rfl; have hcz9_5 : w8.cell? ⟨gb412, 5, none⟩ = some (.slice none 0 0) := (blk_cell BK412.out 5).trans rfl; have hfz9_0 := blk_frozen BK412.out 0; have hfz9_1 := blk_frozen BK412.out 1; have hfz9_2 := blk_frozen BK412.out 2; have hfz9_3 := blk_frozen BK412.out 3; have hfz9_4 := blk_frozen BK412.out 4; have hfz9_5 := blk_frozen BK412.out 5))
       go_roundg k1
       case measure => have := HK1.out; omega
       case rel => exact ⟨(wrap64 (x3_1 + ((rd_T61 l0 x12_1).f2))), (wrap64 (x12_1 + 1)), (by first | rfl | (simp; done) | (simp [*]; done)), (by first | rfl | (simp; done) | (simp [*]; done)), H', ⟨by have := HK1.out; omega⟩, ⟨by repeat (first | (with_reducible first | exact HB.out | apply below_alloc | apply pw_below_drewN | apply below_drew1 | refine below_set ?_ GE412.out) | exact HB.out)⟩⟩
      ·
       rw [if_neg c7] at H
       exact absurd H (by simp)
     ·
      rw [if_neg c6] at H
      exact absurd H (by simp)
    ·
     rw [if_neg c5] at H
     have c5b0 : decide (x12_1 < (l0.length : Int)) = false := decide_eq_false c5
     clear c5
     obtain rfl := Option.some.inj H
     go_wp2
     go_ret
     exact ⟨by first | rfl | (simp [errW_none, errW_some] <;> rfl) | (simp [*, errW_none, errW_some] <;> rfl), by repeat (first | (with_reducible first | exact HB.out | apply below_alloc | apply pw_below_drewN | apply below_drew1) | exact HB.out)⟩
 ·
  replace c3 := Bool.eq_false_iff.mpr c3
  subst c3
  have H1 : (some 0) = some r := by rw [if_neg (show ¬ (false = true) by decide)] at H; exact H
  clear H
  have H := H1
  clear H1
  obtain rfl := Option.some.inj H
  go_enter Try.func25, Try.ntmps25
  go_wp2_with (first | ((with_reducible refine gate_callee (f := 21) rfl ?_); refine goesL_ (some 7) rfl rfl Try.func21 (by kernel_rfl) rfl #[.slice A0 l0.length c0] rfl (by (try simp only [List.map_toArray, List.map_cons, List.map_nil]); first | done | rfl | (simp only [List.length_drop, List.length_take]; rfl)) ?_; (with_reducible refine (impl_AreTeams.calls k _ _ l0 false _ ?side1 ?side2 A2.out).mono ?_); (case side1 => repeat (first | exact HR0.out | (with_reducible refine Kd.C_alloc ?_ _) | (with_reducible refine Kd.C_drewN ?_ _) | (with_reducible refine Kd.C_drew ?_))); (case side2 => exact HC0.out); rintro e w10 ⟨rfl, hb⟩; refine ⟨_, rfl, ?_⟩; have n0_ := Aside0.mk (below_step (by repeat (first | (with_reducible first | exact HB.out | apply below_alloc | apply pw_below_drewN | apply below_drew1) | exact HB.out)) hb); clear HB; have HB := n0_; clear n0_; (try clear hb); (try clear hb2); (try clear hk); (try clear hi)))
  go_ret
  exact ⟨by first | rfl | (simp [errW_none, errW_some] <;> rfl) | (simp [*, errW_none, errW_some] <;> rfl), by repeat (first | (with_reducible first | exact HB.out | apply below_alloc | apply pw_below_drewN | apply below_drew1) | exact HB.out)⟩
end Go.Proofs.Ytiimiogpiflkdaa.A
end

section
namespace Go.Proofs.Ytiimiogpiflkdaa.A
open Go.RowKit Go.Proofs.YtiimiogpiflkdaaW.PrintWords Go.Proofs.YtiimiogpiflkdaaW.PrintLast Go.Proofs.YtiimiogpiflkdaaW.PrintMore
attribute [local go_sem] max2_int min2_int max_two min_two max_three min_three max_four min_four   -- for this text's walks alone
set_option linter.unusedVariables false
set_option linter.unusedSimpArgs false
def laws_big.f (l0 : List Int) : Option (Bool) := some (decide ((l0.length : Int) > 1048576))
set_option maxHeartbeats 8000000 in
set_option maxRecDepth 100000 in
theorem laws_big.calls (A0 : Option Addr) (c0 : Nat) (l0 : List Int) (r : Bool) (w : World) (hr0 : Kd.C (Kd.int .u8) w A0 l0.length l0) (hc0 : l0.length ≤ c0) (h : laws_big.f l0 = some r) :
  Calls Try.prog 51 #[.slice A0 l0.length c0] w fun e w' => e = .returned (.bool r) ∧ Drawn0 w w' := by
 have HR0 := Aside0.mk hr0
 have HC0 := Aside0.mk hc0
 clear hr0 hc0
 have H : (some (decide ((l0.length : Int) > 1048576))) = some r := h
 clear h
 obtain rfl := Option.some.inj H
 go_enter Try.func51, Try.ntmps51
 go_wp2
 go_ret
 exact ⟨by first | rfl | (simp; done) | (simp [*]; done), by repeat (first | exact Drawn0.refl _ | apply Drawn0.step)⟩
end Go.Proofs.Ytiimiogpiflkdaa.A
end

section
namespace Go.Proofs.Ytiimiogpiflkdaa.A
open Go.RowKit Go.Proofs.YtiimiogpiflkdaaW.PrintWords Go.Proofs.YtiimiogpiflkdaaW.PrintLast Go.Proofs.YtiimiogpiflkdaaW.PrintMore
attribute [local go_sem] max2_int min2_int max_two min_two max_three min_three max_four min_four   -- for this text's walks alone
set_option linter.unusedVariables false
set_option linter.unusedSimpArgs false
def IsS91 (w0 W : World) (g : Nat) (f0 : List Int) (f1 : Int) (f2 : Int) : Prop := ∃ A0 c0, W.heap[g]? = some (.cells #[.slice A0 f0.length c0, .int .i64 f1, .int .i64 f2] 91 (0, 0)) ∧ w0.heap.size ≤ g ∧ Kd.C (Kd.int .u8) w0 A0 f0.length f0
theorem IsS91.grown {w0 W : World} {g : Nat} {f0 : List Int} {f1 : Int} {f2 : Int} {W1 : World} {row : Option Nat} (h : IsS91 w0 W g f0 f1 f2) (hw : W.grownBy W1 row) (hne : some g ≠ row) : IsS91 w0 W1 g f0 f1 f2 := by
  obtain ⟨A0, c0, hb, hg, hr0⟩ := h
  exact ⟨A0, c0, blk_grown hb hw hne, hg, hr0⟩
theorem IsS91.kept {w0 W : World} {g : Nat} {f0 : List Int} {f1 : Int} {f2 : Int} {W1 : World} {S : Nat → Prop} (h : IsS91 w0 W g f0 f1 f2) (hk : Kept W W1 S) (hne : ¬ S g) : IsS91 w0 W1 g f0 f1 f2 := by
  obtain ⟨A0, c0, hb, hg, hr0⟩ := h
  exact ⟨A0, c0, blk_kept hb hk hne, hg, hr0⟩
theorem IsS91.below {w0 W : World} {g : Nat} {f0 : List Int} {f1 : Int} {f2 : Int} {W1 : World} (h : IsS91 w0 W g f0 f1 f2) (hw : Below W.heap.size W W1) : IsS91 w0 W1 g f0 f1 f2 := h.grown (grown_of_below hw none) (by simp)
theorem IsS91.alloc {w0 W : World} {g : Nat} {f0 : List Int} {f1 : Int} {f2 : Int} (h : IsS91 w0 W g f0 f1 f2) (o : Obj) : IsS91 w0 (W.alloc o) g f0 f1 f2 := h.below (below_alloc (Below.refl _ _) o)
theorem IsS91.drewN {w0 W : World} {g : Nat} {f0 : List Int} {f1 : Int} {f2 : Int} (h : IsS91 w0 W g f0 f1 f2) (m : Nat) : IsS91 w0 (W.drewN m) g f0 f1 f2 := h
theorem IsS91.drew {w0 W : World} {g : Nat} {f0 : List Int} {f1 : Int} {f2 : Int} (h : IsS91 w0 W g f0 f1 f2) : IsS91 w0 W.drew g f0 f1 f2 := h
theorem IsS91.at_ {w0 W : World} {g : Nat} {f0 : List Int} {f1 : Int} {f2 : Int} {w' : World} {m : Nat} (hq : W.drewN m = w') (h : IsS91 w0 W g f0 f1 f2) : IsS91 w0 w' g f0 f1 f2 := by subst hq; exact IsS91.drewN h m
theorem IsS91.apart {w0 W : World} {g : Nat} {f0 : List Int} {f1 : Int} {f2 : Int} {α : Type} {d : Kd α} {e : Nat} {base : Nat} {ok : Nat → Prop} {v : Value} {xs : List α} (h : IsS91 w0 W g f0 f1 f2) (ho : d.R e W base ok v xs) (ht : ∀ q, q ∈ e :: d.E → q ≠ 91) : d.R e W base (fun k => ok k ∧ k ≠ g) v xs := by
  obtain ⟨A0, c0, hb, hg, hr0⟩ := h
  exact Kd.R_types ho hb ht
theorem IsS91.own_ne {w0 W : World} {g : Nat} {f0 : List Int} {f1 : Int} {f2 : Int} {α : Type} {d : Kd α} {e : Nat} {base : Nat} {ok : Nat → Prop} {v : Value} {xs : List α} (h : IsS91 w0 W g f0 f1 f2) (ho : d.R e W base ok v xs) (ht : e ≠ 91) : some g ≠ v.ownBlock := by
  obtain ⟨A0, c0, hb, hg, hr0⟩ := h
  exact Kd.R_ne ho hb ht
theorem IsS91.apartS {w0 W : World} {g : Nat} {f0 : List Int} {f1 : Int} {f2 : Int} {α : Type} {d : Kd α} {e : Nat} {base : Nat} {ok : Nat → Prop} {v : Value} {xs : List α} (h : IsS91 w0 W g f0 f1 f2) (ho : d.S e W base ok v xs) (ht : ∀ q, q ∈ e :: d.E → q ≠ 91) : d.S e W base (fun k => ok k ∧ k ≠ g) v xs := by
  obtain ⟨A0, c0, hb, hg, hr0⟩ := h
  exact Kd.S_types ho hb ht
theorem IsS91.own_neS {w0 W : World} {g : Nat} {f0 : List Int} {f1 : Int} {f2 : Int} {α : Type} {d : Kd α} {e : Nat} {base : Nat} {ok : Nat → Prop} {v : Value} {xs : List α} (h : IsS91 w0 W g f0 f1 f2) (ho : d.S e W base ok v xs) (ht : e ≠ 91) : some g ≠ v.ownBlock := by
  obtain ⟨A0, c0, hb, hg, hr0⟩ := h
  exact Kd.S_ne ho hb ht
theorem IsS91.ge {w0 W : World} {g : Nat} {f0 : List Int} {f1 : Int} {f2 : Int} (h : IsS91 w0 W g f0 f1 f2) : w0.heap.size ≤ g := by
  obtain ⟨A0, c0, hb, hg, hr0⟩ := h
  exact hg
theorem cellS91_0 {W : World} {g : Nat} {A0 : Option Addr} {c0 : Nat} {f0 : List Int} {f1 : Int} {f2 : Int} (h : W.heap[g]? = some (.cells #[.slice A0 f0.length c0, .int .i64 f1, .int .i64 f2] 91 (0, 0))) : W.cell? ⟨g, 0, none⟩ = some (.slice A0 f0.length c0) := (blk_cell h 0).trans rfl
theorem cellS91_1 {W : World} {g : Nat} {A0 : Option Addr} {c0 : Nat} {f0 : List Int} {f1 : Int} {f2 : Int} (h : W.heap[g]? = some (.cells #[.slice A0 f0.length c0, .int .i64 f1, .int .i64 f2] 91 (0, 0))) : W.cell? ⟨g, 1, none⟩ = some (.int .i64 f1) := (blk_cell h 1).trans rfl
theorem IsS91.set_1 {w0 W : World} {g : Nat} {f0 : List Int} {f1 : Int} {f2 : Int} (h : IsS91 w0 W g f0 f1 f2) (x : Int) : IsS91 w0 (W.setCell ⟨g, 1, none⟩ (.int .i64 x)) g f0 x f2 := by
  obtain ⟨A0, c0, hb, hg, hr0⟩ := h
  exact ⟨A0, c0, by simpa using blk_set hb 1 (.int .i64 x), hg, hr0⟩
theorem cellS91_2 {W : World} {g : Nat} {A0 : Option Addr} {c0 : Nat} {f0 : List Int} {f1 : Int} {f2 : Int} (h : W.heap[g]? = some (.cells #[.slice A0 f0.length c0, .int .i64 f1, .int .i64 f2] 91 (0, 0))) : W.cell? ⟨g, 2, none⟩ = some (.int .i64 f2) := (blk_cell h 2).trans rfl
theorem IsS91.set_2 {w0 W : World} {g : Nat} {f0 : List Int} {f1 : Int} {f2 : Int} (h : IsS91 w0 W g f0 f1 f2) (x : Int) : IsS91 w0 (W.setCell ⟨g, 2, none⟩ (.int .i64 x)) g f0 f1 x := by
  obtain ⟨A0, c0, hb, hg, hr0⟩ := h
  exact ⟨A0, c0, by simpa using blk_set hb 2 (.int .i64 x), hg, hr0⟩
theorem IsS91.new (w0 W : World) (A0 : Option Addr) (c0 : Nat) (f0 : List Int) (f1 : Int) (f2 : Int) (hB : Below w0.heap.size w0 W) (hr0 : Kd.C (Kd.int .u8) w0 A0 f0.length f0) : IsS91 w0 (W.alloc (.cells #[.slice A0 f0.length c0, .int .i64 f1, .int .i64 f2] 91)) W.heap.size f0 f1 f2 := ⟨A0, c0, by simpa using heap_alloc_new W _, hB.size, hr0⟩
def spec_l1New.l0 : Nat → List Int → Int → Int → Option (List Int × Int × Int)
  | 0, _, _, _ => none
  | k + 1, x0, x3, x4 => if x4 < (x0.length : Int) then (if x4 < 4000 then (if 0 ≤ x4 then (spec_l1New.l0 k x0 (Go.bits .and .i64 (wrap64 ((wrap64 ((wrap64 (x3 * 137)) + (wrap64 (rd x0 x4)))) + 11)) 1073741823) (wrap64 (x4 + 1))) else (none)) else (some (x0, 0, x3))) else (some (x0, 0, x3))
def spec_l1New.f (k : Nat) (l0 : List Int) : Option (List Int × Int × Int) := spec_l1New.l0 k l0 (wrap64 (193017 + (l0.length : Int))) 0
set_option maxHeartbeats 8000000 in
set_option maxRecDepth 100000 in
theorem spec_l1New.calls (k : Nat) (A0 : Option Addr) (c0 : Nat) (l0 : List Int) (r1 : List Int) (r2 : Int) (r3 : Int) (w0 w : World) (hB : Below w0.heap.size w0 w) (hr0 : Kd.C (Kd.int .u8) w0 A0 l0.length l0) (hc0 : l0.length ≤ c0) (h : spec_l1New.f k l0 = some (r1, r2, r3)) :
  Calls Try.prog 78 #[.slice A0 l0.length c0] w fun e w' => ∃ g_ : Nat, e = .returned (.pointer (some ⟨g_, 0, none⟩)) ∧ IsS91 w0 w' g_ r1 r2 r3 ∧ Below w0.heap.size w0 w' ∧ Below w.heap.size w w' := by
 have hu91 := Try.underlying91
 have HR0 := Aside0.mk hr0
 have HC0 := Aside0.mk hc0
 clear hr0 hc0
 have HBW := Aside0.mk (Below.refl w.heap.size w)
 have HW0 := Aside0.mk hB.size
 have HB := Aside0.mk hB
 clear hB
 have H : (spec_l1New.l0 k l0 (wrap64 (193017 + (l0.length : Int))) 0) = some (r1, r2, r3) := h
 clear h
 have H' := Aside0.mk H
 clear H
 go_enter Try.func78, Try.ntmps78
 go_wp2
 go_loopg [3, 4] k (fun kq v3 v4 w' => ∃ (x3_1 : Int) (x4_1 : Int), v3 = .int .i64 x3_1 ∧ v4 = .int .i64 x4_1 ∧ Aside0 (spec_l1New.l0 kq l0 x3_1 x4_1 = some (r1, r2, r3)) ∧ Aside0 (kq ≤ k) ∧ Aside0 (Below w0.heap.size w0 w') ∧ Aside0 (Below w.heap.size w w'))
 case atStart => exact ⟨(wrap64 (193017 + (l0.length : Int))), (0), (by first | rfl | (simp; done) | (simp [*]; done)), (by first | rfl | (simp; done) | (simp [*]; done)), H', ⟨Nat.le_refl _⟩, ⟨by repeat (first | (with_reducible first | exact HB.out | apply below_alloc | apply pw_below_drewN | apply below_drew1) | exact HB.out)⟩, ⟨by repeat (first | (with_reducible first | exact HBW.out | apply below_alloc | apply pw_below_drewN | apply below_drew1) | exact HBW.out)⟩⟩
 case round =>
  clear H'
  obtain ⟨x3_1, x4_1, rfl, rfl, HA, HK1, HB, HBW⟩ := hrel
  cases gk with
  | zero => exact absurd HA.out (by simp [spec_l1New.l0])
  | succ k1 =>
   have H := HA.out
   clear HA
   simp only [spec_l1New.l0] at H
   by_cases c2 : x4_1 < (l0.length : Int)
   ·
    rw [if_pos c2] at H
    have c2b0 : decide (x4_1 < (l0.length : Int)) = true := decide_eq_true c2
    clear c2
    by_cases c3 : x4_1 < 4000
    ·
     rw [if_pos c3] at H
     have c3b0 : decide (x4_1 < 4000) = true := decide_eq_true c3
     clear c3
     by_cases c4 : 0 ≤ x4_1
     ·
      rw [if_pos c4] at H
      have c4b0 : decide (0 ≤ x4_1) = true := decide_eq_true c4
      clear c4
      have H' := Aside0.mk H
      clear H
      have p413 : 0 ≤ (x4_1 : Int) := of_decide_eq_true (by first | (with_reducible assumption) | assumption)
      have q413 : x4_1 < (l0.length : Int) := of_decide_eq_true (by first | (with_reducible assumption) | assumption)
      obtain ⟨ad413, e413, hx413_0⟩ := Kd.at_int HR0.out x4_1 p413 q413
      cases e413
      replace hx413_0 := pw_cell_below HB.out hx413_0
      replace p413 := eq_true p413
      replace q413 := eq_true q413
      go_wp2
      go_roundg k1
      case measure => have := HK1.out; omega
      case rel => exact ⟨(Go.bits .and .i64 (wrap64 ((wrap64 ((wrap64 (x3_1 * 137)) + (wrap64 (rd l0 x4_1)))) + 11)) 1073741823), (wrap64 (x4_1 + 1)), (by first | rfl | (simp; done) | (simp [*]; done)), (by first | rfl | (simp; done) | (simp [*]; done)), H', ⟨by have := HK1.out; omega⟩, ⟨by repeat (first | (with_reducible first | exact HB.out | apply below_alloc | apply pw_below_drewN | apply below_drew1) | exact HB.out)⟩, ⟨by repeat (first | (with_reducible first | exact HBW.out | apply below_alloc | apply pw_below_drewN | apply below_drew1) | exact HBW.out)⟩⟩
     ·
      rw [if_neg c4] at H
      exact absurd H (by simp)
    ·
     rw [if_neg c3] at H
     have c3b0 : decide (x4_1 < 4000) = false := decide_eq_false c3
     clear c3
     simp only [Option.some.injEq, Prod.mk.injEq] at H
     obtain ⟨rfl, rfl, rfl⟩ := H
     go_wp2_with (first | ((with_reducible refine gate_dst (N := 31) rfl ?_); refine box_event ?hg (N := 31) ?hd (cs := #[.slice A0 l0.length c0, .int .i64 0, .int .i64 x3_1]) (t := 91) ?hr ?_; (case hd => rfl); (case hg => rfl); (case hr => first | (go_simp; done) | (go_simp; rfl)); intro gb414 hg w5 hbox hb; have n0_ := Aside0.mk (below_step HBW.out hb); have n1_ := Aside0.mk (below_step (by repeat (first | (with_reducible first | exact HB.out | apply below_alloc | apply pw_below_drewN | apply below_drew1) | exact HB.out)) hb); have n2_ := Aside0.mk (hbox); have n3_ := Aside0.mk ((by rw [hg]; exact (below_size (by repeat (first | (with_reducible first | exact HBW.out | apply below_alloc | apply pw_below_drewN | apply below_drew1) | exact HBW.out))) : w.heap.size ≤ gb414)); have n4_ := Aside0.mk ((Nat.le_trans HW0.out (by rw [hg]; exact (below_size (by repeat (first | (with_reducible first | exact HBW.out | apply below_alloc | apply pw_below_drewN | apply below_drew1) | exact HBW.out))) : w.heap.size ≤ gb414) : w0.heap.size ≤ gb414)); clear HBW; clear HB; have HBW := n0_; have HB := n1_; have BK414 := n2_; have GW414 := n3_; have GE414 := n4_; clear n0_ n1_ n2_ n3_ n4_; clear hb hbox hg))
     all_goals (go_ret; exact ⟨_, rfl, (show IsS91 w0 _ gb414 l0 0 x3_1 from ⟨_, _, by (with_reducible repeat (first | refine blk_drewN ?_ _ | refine blk_drew ?_ | refine blk_alloc ?_ _)); exact BK414.out, GE414.out, HR0.out⟩), by repeat (first | (with_reducible first | exact HB.out | apply below_alloc | apply pw_below_drewN | apply below_drew1 | refine below_set ?_ GE414.out) | exact HB.out), by repeat (first | (with_reducible first | exact HBW.out | apply below_alloc | apply pw_below_drewN | apply below_drew1 | refine below_set ?_ GW414.out) | exact HBW.out)⟩)
   ·
    rw [if_neg c2] at H
    have c2b0 : decide (x4_1 < (l0.length : Int)) = false := decide_eq_false c2
    clear c2
    simp only [Option.some.injEq, Prod.mk.injEq] at H
    obtain ⟨rfl, rfl, rfl⟩ := H
    go_wp2_with (first | ((with_reducible refine gate_dst (N := 31) rfl ?_); refine box_event ?hg (N := 31) ?hd (cs := #[.slice A0 l0.length c0, .int .i64 0, .int .i64 x3_1]) (t := 91) ?hr ?_; (case hd => rfl); (case hg => rfl); (case hr => first | (go_simp; done) | (go_simp; rfl)); intro gb415 hg w6 hbox hb; have n0_ := Aside0.mk (below_step HBW.out hb); have n1_ := Aside0.mk (below_step (by repeat (first | (with_reducible first | exact HB.out | apply below_alloc | apply pw_below_drewN | apply below_drew1) | exact HB.out)) hb); have n2_ := Aside0.mk (hbox); have n3_ := Aside0.mk ((by rw [hg]; exact (below_size (by repeat (first | (with_reducible first | exact HBW.out | apply below_alloc | apply pw_below_drewN | apply below_drew1) | exact HBW.out))) : w.heap.size ≤ gb415)); have n4_ := Aside0.mk ((Nat.le_trans HW0.out (by rw [hg]; exact (below_size (by repeat (first | (with_reducible first | exact HBW.out | apply below_alloc | apply pw_below_drewN | apply below_drew1) | exact HBW.out))) : w.heap.size ≤ gb415) : w0.heap.size ≤ gb415)); clear HBW; clear HB; have HBW := n0_; have HB := n1_; have BK415 := n2_; have GW415 := n3_; have GE415 := n4_; clear n0_ n1_ n2_ n3_ n4_; clear hb hbox hg))
    all_goals (go_ret; exact ⟨_, rfl, (show IsS91 w0 _ gb415 l0 0 x3_1 from ⟨_, _, by (with_reducible repeat (first | refine blk_drewN ?_ _ | refine blk_drew ?_ | refine blk_alloc ?_ _)); exact BK415.out, GE415.out, HR0.out⟩), by repeat (first | (with_reducible first | exact HB.out | apply below_alloc | apply pw_below_drewN | apply below_drew1 | refine below_set ?_ GE415.out) | exact HB.out), by repeat (first | (with_reducible first | exact HBW.out | apply below_alloc | apply pw_below_drewN | apply below_drew1 | refine below_set ?_ GW415.out) | exact HBW.out)⟩)
end Go.Proofs.Ytiimiogpiflkdaa.A
end

section
namespace Go.Proofs.Ytiimiogpiflkdaa.A
open Go.RowKit Go.Proofs.YtiimiogpiflkdaaW.PrintWords Go.Proofs.YtiimiogpiflkdaaW.PrintLast Go.Proofs.YtiimiogpiflkdaaW.PrintMore
attribute [local go_sem] max2_int min2_int max_two min_two max_three min_three max_four min_four   -- for this text's walks alone
set_option linter.unusedVariables false
set_option linter.unusedSimpArgs false
def spec_l1Byte.f (s0_0 : List Int) (s0_1 : Int) (s0_2 : Int) : Option (Int × Int × Int) := if s0_1 < (s0_0.length : Int) then (if 0 ≤ s0_1 then (some (Go.bits .and .i64 (wrap64 ((Go.bits .and .i64 (Go.bits .xor .i64 ((wrap64 ((wrap64 (s0_2 * 6364136223846793005)) + 1442695040888963407)) / 8589934592) ((wrap64 ((wrap64 (s0_2 * 6364136223846793005)) + 1442695040888963407)) / 140737488355328)) 255) + (wrap64 (rd s0_0 s0_1)))) 255, wrap64 (s0_1 + 1), wrap64 ((wrap64 (s0_2 * 6364136223846793005)) + 1442695040888963407))) else (none)) else (some (Go.bits .and .i64 (Go.bits .xor .i64 ((wrap64 ((wrap64 (s0_2 * 6364136223846793005)) + 1442695040888963407)) / 8589934592) ((wrap64 ((wrap64 (s0_2 * 6364136223846793005)) + 1442695040888963407)) / 140737488355328)) 255, s0_1, wrap64 ((wrap64 (s0_2 * 6364136223846793005)) + 1442695040888963407)))
set_option maxHeartbeats 8000000 in
set_option maxRecDepth 100000 in
theorem spec_l1Byte.calls (g : Nat) (s0_0 : List Int) (s0_1 : Int) (s0_2 : Int) (r1 : Int) (r2 : Int) (r3 : Int) (w0 w : World) (hI : IsS91 w0 w g s0_0 s0_1 s0_2) (hB : Below w0.heap.size w0 w) (h : spec_l1Byte.f s0_0 s0_1 s0_2 = some (r1, r2, r3)) :
  Calls Try.prog 91 #[.pointer (some ⟨g, 0, none⟩)] w fun e w' => e = .returned (.int .i64 r1) ∧ IsS91 w0 w' g s0_0 r2 r3 ∧ Below w0.heap.size w0 w' ∧ KeepBut w w' g none := by
 have HI0 := Aside0.mk hI
 have HK := Aside0.mk (KeepBut.refl w g none)
 have HL := Aside0.mk hB.size
 clear hI
 have HW0 := Aside0.mk hB.size
 have HB := Aside0.mk hB
 clear hB
 have H : (if s0_1 < (s0_0.length : Int) then (if 0 ≤ s0_1 then (some (Go.bits .and .i64 (wrap64 ((Go.bits .and .i64 (Go.bits .xor .i64 ((wrap64 ((wrap64 (s0_2 * 6364136223846793005)) + 1442695040888963407)) / 8589934592) ((wrap64 ((wrap64 (s0_2 * 6364136223846793005)) + 1442695040888963407)) / 140737488355328)) 255) + (wrap64 (rd s0_0 s0_1)))) 255, wrap64 (s0_1 + 1), wrap64 ((wrap64 (s0_2 * 6364136223846793005)) + 1442695040888963407))) else (none)) else (some (Go.bits .and .i64 (Go.bits .xor .i64 ((wrap64 ((wrap64 (s0_2 * 6364136223846793005)) + 1442695040888963407)) / 8589934592) ((wrap64 ((wrap64 (s0_2 * 6364136223846793005)) + 1442695040888963407)) / 140737488355328)) 255, s0_1, wrap64 ((wrap64 (s0_2 * 6364136223846793005)) + 1442695040888963407)))) = some (r1, r2, r3) := h
 clear h
 by_cases c2 : s0_1 < (s0_0.length : Int)
 ·
  rw [if_pos c2] at H
  have c2b0 : decide (s0_1 < (s0_0.length : Int)) = true := decide_eq_true c2
  clear c2
  by_cases c3 : 0 ≤ s0_1
  ·
   rw [if_pos c3] at H
   have c3b0 : decide (0 ≤ s0_1) = true := decide_eq_true c3
   clear c3
   simp only [Option.some.injEq, Prod.mk.injEq] at H
   obtain ⟨rfl, rfl, rfl⟩ := H
   obtain ⟨ASz4_0, cSz4_0, HGz4, hgz4, HSz4_0⟩ := HI0.out
   have hcz4_0 := cellS91_0 HGz4
   have hcz4_1 := cellS91_1 HGz4
   have hcz4_2 := cellS91_2 HGz4
   have hfz4_1 := blk_frozen HGz4 1
   have hfz4_2 := blk_frozen HGz4 2
   clear HGz4 hgz4
   have p416 : 0 ≤ (s0_1 : Int) := of_decide_eq_true (by first | (with_reducible assumption) | assumption)
   have q416 : s0_1 < (s0_0.length : Int) := of_decide_eq_true (by first | (with_reducible assumption) | assumption)
   obtain ⟨ad416, e416, hx416_0⟩ := Kd.at_int HSz4_0 s0_1 p416 q416
   cases e416
   have hn416_0 : ad416.block ≠ g := Nat.ne_of_lt (Nat.lt_of_lt_of_le (by have := World.block_lt_of_cell? _ _ hx416_0; first | rwa [add_block] at this | exact this) (IsS91.ge HI0.out))
   replace hx416_0 := pw_cell_below HB.out hx416_0
   replace hx416_0 := (cell_far (p := ⟨g, 2, none⟩) (by first | (rw [add_block]; exact hn416_0) | (show (Addr.add _ _).block ≠ _; rw [add_block]; exact hn416_0) | exact hn416_0) (.int .i64 (wrap64 ((wrap64 (s0_2 * 6364136223846793005)) + 1442695040888963407)))).trans hx416_0
   (try have hy416_0 := fun (n_ : Nat) => (show (((w.drewN n_).setCell ⟨g, 2, none⟩ (.int .i64 (wrap64 ((wrap64 (s0_2 * 6364136223846793005)) + 1442695040888963407))))).cell? _ = some _ from hx416_0))
   clear hn416_0
   replace p416 := eq_true p416
   replace q416 := eq_true q416
   go_enter Try.func91, Try.ntmps91
   go_wp2
   repeat (go_quiet (fail); try go_wp2)
   go_ret
   exact ⟨by first | rfl | (simp [errW_none, errW_some] <;> rfl) | (simp [*, errW_none, errW_some] <;> rfl), by repeat (first | (with_reducible first | exact HI0.out | apply IsS91.alloc | apply IsS91.drewN | apply IsS91.drew | apply IsS91.set_1 | apply IsS91.set_2) | exact HI0.out), by repeat (first | (with_reducible first | exact HB.out | apply below_alloc | apply pw_below_drewN | apply below_drew1 | refine below_set ?_ (IsS91.ge HI0.out)) | exact HB.out), by repeat (first | (with_reducible first | exact HK.out | apply KeepBut.set_ | apply keep_drewN | apply keep_drew | apply keep_alloc) | exact HK.out)⟩
  ·
   rw [if_neg c3] at H
   exact absurd H (by simp)
 ·
  rw [if_neg c2] at H
  have c2b0 : decide (s0_1 < (s0_0.length : Int)) = false := decide_eq_false c2
  clear c2
  simp only [Option.some.injEq, Prod.mk.injEq] at H
  obtain ⟨rfl, rfl, rfl⟩ := H
  obtain ⟨ASz5_0, cSz5_0, HGz5, hgz5, HSz5_0⟩ := HI0.out
  have hcz5_0 := cellS91_0 HGz5
  have hcz5_1 := cellS91_1 HGz5
  have hcz5_2 := cellS91_2 HGz5
  have hfz5_1 := blk_frozen HGz5 1
  have hfz5_2 := blk_frozen HGz5 2
  clear HGz5 hgz5
  go_enter Try.func91, Try.ntmps91
  go_wp2
  repeat (go_quiet (fail); try go_wp2)
  go_ret
  exact ⟨by first | rfl | (simp [errW_none, errW_some] <;> rfl) | (simp [*, errW_none, errW_some] <;> rfl), by repeat (first | (with_reducible first | exact HI0.out | apply IsS91.alloc | apply IsS91.drewN | apply IsS91.drew | apply IsS91.set_1 | apply IsS91.set_2) | exact HI0.out), by repeat (first | (with_reducible first | exact HB.out | apply below_alloc | apply pw_below_drewN | apply below_drew1 | refine below_set ?_ (IsS91.ge HI0.out)) | exact HB.out), by repeat (first | (with_reducible first | exact HK.out | apply KeepBut.set_ | apply keep_drewN | apply keep_drew | apply keep_alloc) | exact HK.out)⟩
end Go.Proofs.Ytiimiogpiflkdaa.A
end
