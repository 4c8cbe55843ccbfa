/- What the row FnExactPairRound rests on, put together: LHStandS, LSqz, A33, A34, A35, A31. No condition. -/
import Derived.Test.YtiimiogpiflkdaaSFnExactPairRoundx1
import Derived.Deep.RegionHeld3
import Derived.StillTailTactics
import Derived.BigQuiet
import Derived.Test.YtiimiogpiflkdaaSFnExactPairRoundx0
section
set_option linter.unusedVariables false
set_option linter.unusedSimpArgs false
namespace Go.Proofs.Ytiimiogpiflkdaa.A
open Go.RowKit Go.Proofs.YtiimiogpiflkdaaW.PrintWords Go.Proofs.YtiimiogpiflkdaaW.PrintLast Go.Proofs.YtiimiogpiflkdaaW.PrintMore Go.Shelf Go.Sort Go.Proofs.Ytiimiogpiflkdaa.L
def insKP (x : K3) (ys : List K3) : Nat → Nat
  | 0 => 0
  | k + 1 => if befK x (ys.getD k default) = true then insKP x ys k else k + 1
def insKK (ys : List K3) (x : K3) : List K3 := ys.take (insKP x ys ys.length) ++ [x] ++ ys.drop (insKP x ys ys.length)
def insP (x : TmA) (ys : List TmA) : Nat → Nat
  | 0 => 0
  | k + 1 => if befK (keyA x) (keyA (ys.getD k default)) = true then insP x ys k else k + 1
def insA (ys : List TmA) (x : TmA) : List TmA := ys.take (insP x ys ys.length) ++ [x] ++ ys.drop (insP x ys ys.length)
theorem insP_le (x : TmA) (ys : List TmA) : ∀ k, insP x ys k ≤ k
  | 0 => Nat.le_refl _
  | k + 1 => by
    rw [insP]
    split
    · have := insP_le x ys k; omega
    · exact Nat.le_refl _
theorem insA_len (ys : List TmA) (x : TmA) : (insA ys x).length = ys.length + 1 := by
  have := insP_le x ys ys.length
  unfold insA
  simp
  omega
theorem fold_len : ∀ (D ys : List TmA), (D.foldl insA ys).length = ys.length + D.length
  | [], ys => rfl
  | x :: D, ys => by
    rw [List.foldl_cons, fold_len D, insA_len, List.length_cons]
    omega
theorem insP_key (x : TmA) (ys : List TmA) : ∀ k, k ≤ ys.length → insP x ys k = insKP (keyA x) (ys.map keyA) k
  | 0, _ => rfl
  | k + 1, h => by
    have e : (ys.map keyA).getD k default = keyA (ys.getD k default) := by
      rw [List.getD_eq_getElem?_getD, List.getD_eq_getElem?_getD, List.getElem?_map, List.getElem?_eq_getElem (show k < ys.length by omega)]
      rfl
    rw [insP, insKP, e, insP_key x ys k (by omega)]
theorem insA_key (ys : List TmA) (x : TmA) : (insA ys x).map keyA = insKK (ys.map keyA) (keyA x) := by
  unfold insA insKK
  rw [List.length_map, ← insP_key x ys ys.length (Nat.le_refl _)]
  simp
theorem fold_key : ∀ (D ys : List TmA), (D.foldl insA ys).map keyA = (D.map keyA).foldl insKK (ys.map keyA)
  | [], ys => rfl
  | x :: D, ys => by rw [List.foldl_cons, fold_key D, List.map_cons, List.foldl_cons, insA_key]
def tcell (W : World) (p : Addr) (x : TmA) : Prop := W.cell? p = some (.int .i64 x.f0) ∧ W.cell? ⟨p.block, p.off + 1, none⟩ = some (.int .i64 x.f1) ∧ W.cell? ⟨p.block, p.off + 2, none⟩ = some (.int .i64 x.f2) ∧ W.cell? ⟨p.block, p.off + 3, none⟩ = some (.int .i64 x.f3) ∧ W.cell? ⟨p.block, p.off + 4, none⟩ = some (.int .i64 x.f4) ∧ W.cell? ⟨p.block, p.off + 5, none⟩ = some (.slice x.A x.n x.c)
theorem tcell.below {w W : World} {p : Addr} {x : TmA} (h : tcell w p x) (hb : Below w.heap.size w W) : tcell W p x := by
  obtain ⟨h0, h1, h2, h3, h4, h5⟩ := h
  have L : ∀ {q : Addr} {v : Value}, w.cell? q = some v → W.cell? q = some v := fun h => (hb.cell (World.block_lt_of_cell? w _ h)).trans h
  exact ⟨L h0, L h1, L h2, L h3, L h4, L h5⟩
theorem tcell_of {W : World} {A : Option Addr} {ys : List TmA} (h : Kd.C kTm W A ys.length ys) (j : Nat) (hj : j < ys.length) : ∃ ad, A = some ad ∧ tcell W (ad.add (j * 6)) ys[j] := by
  obtain ⟨ad, e, hc⟩ := h.2.2 (by omega)
  obtain ⟨c, _, hr, hcell⟩ := hc j ys[j] (List.getElem?_eq_getElem hj)
  have hr' : c = (ys[j]).cells := hr
  subst hr'
  have e1 : kTm.sz = 6 := rfl
  refine ⟨ad, e, ?_, ?_, ?_, ?_, ?_, ?_⟩
  · have := hcell 0 _ rfl
    simpa [e1] using this
  · have := hcell 1 _ rfl
    rw [e1, add_field ad (j * 6) 1 (by omega)] at this
    exact this
  · have := hcell 2 _ rfl
    rw [e1, add_field ad (j * 6) 2 (by omega)] at this
    exact this
  · have := hcell 3 _ rfl
    rw [e1, add_field ad (j * 6) 3 (by omega)] at this
    exact this
  · have := hcell 4 _ rfl
    rw [e1, add_field ad (j * 6) 4 (by omega)] at this
    exact this
  · have := hcell 5 _ rfl
    rw [e1, add_field ad (j * 6) 5 (by omega)] at this
    exact this
theorem rowsD {w : World} {A0 : Option Addr} {l0 : List S61} (h : Kd.C k61 w A0 l0.length l0) : ∃ D : List TmA, D.length = l0.length ∧ D.map keyA = l0.map keyS ∧ ∀ (i : Nat) (hi : i < D.length), ∃ ad, A0 = some ad ∧ tcell w (ad.add (i * 6)) D[i] := by
  obtain ⟨D, hD, hP⟩ := listOf l0.length (fun i (x : TmA) => (∀ hi : i < l0.length, keyA x = keyS l0[i]) ∧ ∃ ad, A0 = some ad ∧ tcell w (ad.add (i * 6)) x) (fun i hi => by
    obtain ⟨ad, A5, c5, e0, hat, _, _⟩ := tmAt_of h i hi
    have er : rdT l0 (i : Int) = l0[i] := rdTm hi
    rw [er] at hat
    exact ⟨⟨l0[i].f0, l0[i].f1, l0[i].f2, l0[i].f3, l0[i].f4, A5, l0[i].f5.length, c5⟩, fun _ => rfl, ad, e0, hat⟩)
  refine ⟨D, hD, ?_, fun i hi => (hP i hi).2⟩
  apply List.ext_getElem
  · simp [hD]
  · intro i h1 h2
    simp only [List.length_map] at h1 h2
    simp only [List.getElem_map]
    exact (hP i h1).1 h2
theorem madeT' {W : World} {base m : Nat} (hm : m = W.heap.size) (h : base ≤ W.heap.size) : Kd.R kTm 61 (W.alloc (.cells #[] 61)) base (fun _ => True) (.slice (some ⟨m, 0, none⟩) 0 0) [] := by
  subst hm
  exact ⟨fun _ _ => trivial, [], World.ownsRow_made (base := base) W #[] 0 h (Nat.zero_le _) rfl, Reps.none _ _⟩
theorem oneT_at {W : World} {m : Nat} {x : TmA} (en : W.heap[m]? = some (.cells x.cells.toArray 61 (0, 0))) : Kd.C kTm W (some ⟨m, 0, none⟩) 1 [x] := by
  refine ⟨rfl, by decide, fun _ => ⟨_, rfl, fun i z hz => ?_⟩⟩
  rcases i with _ | i
  · simp only [List.getElem?_cons_zero, Option.some.injEq] at hz
    subst hz
    refine ⟨x.cells, rfl, rfl, fun j u hj => ?_⟩
    have e1 : kTm.sz = 6 := rfl
    rw [e1, Nat.zero_mul, Nat.zero_add]
    rw [show (⟨m, 0, none⟩ : Addr).add j = ⟨m, j, none⟩ by rw [Addr.add_lit, Nat.zero_add]]
    rw [cell_of_row W m j _ _ (0, 0) en]
    simpa using hj
  · simp at hz
theorem oneT' {W : World} {m : Nat} {x : TmA} (hm : m = W.heap.size) : Kd.C kTm (W.alloc (.cells #[.int .i64 x.f0, .int .i64 x.f1, .int .i64 x.f2, .int .i64 x.f3, .int .i64 x.f4, .slice x.A x.n x.c] 61)) (some ⟨m, 0, none⟩) 1 [x] := by
  subst hm
  exact oneT_at (blk_new W _)
theorem oneT_kept {W w5 : World} {m : Nat} {x : TmA} {row : Option Nat} (h : W.heap[m]? = some (.cells #[.int .i64 x.f0, .int .i64 x.f1, .int .i64 x.f2, .int .i64 x.f3, .int .i64 x.f4, .slice x.A x.n x.c] 61 (0, 0))) (hg : W.grownBy w5 row) (hne : some m ≠ row) : Kd.C kTm w5 (some ⟨m, 0, none⟩) 1 [x] := oneT_at (blk_grown h hg hne)
theorem blk_newT {W : World} {o : Obj} {m : Nat} (hm : m = W.heap.size) : (W.alloc o).heap[m]? = some o := by
  subst hm
  exact blk_new W o
theorem gateT {P : Program} {ops : Array Oper} {o : Oper} {a : Act} {W : World} {Kc : Act → World → Prop} {Q : Exit → Act → World → Prop} (N : Tmp) (hd : o.dst = some N) (k : if Region.wanted o (yielded ops a.tmps) = true then Oper.wp P o a W Kc Q else Kc (a.put o.dst undef) W) : if Region.wanted o (yielded ops a.tmps) = true then Oper.wp P o a W Kc Q else Kc (a.put o.dst undef) W := k
def spec_Standing.f (k : Nat) (l0 : List S61) : Option (List Int) := (spec_AreTeams.f k l0).bind fun b => if b = true then (if l0.length ≤ 12 then some (((l0.map keyS).foldl insKK []).map fun q => q.2.2) else none) else some []
set_option maxHeartbeats 16000000 in
set_option maxRecDepth 100000 in
theorem spec_Standing.calls (k : Nat) (A0 : Option Addr) (c0 : Nat) (l0 : List S61) (r : List Int) (w : World) (hr0 : Kd.C k61 w A0 l0.length l0) (hc0 : l0.length ≤ c0) (h : spec_Standing.f k l0 = some r) :
    Calls Try.prog 33 #[.slice A0 l0.length c0] w fun e w' => ∃ v0_, e = .returned v0_ ∧ Kd.R (Kd.int .i64) 3 w' w.heap.size (fun _ => True) v0_ r ∧ Below w.heap.size w w' := by
  unfold spec_Standing.f at h
  replace h := Option.bind_eq_some_iff.mp h
  obtain ⟨b, hb, h⟩ := h
  cases b with
  | false =>
    rw [if_neg (by simp)] at h
    obtain rfl := Option.some.inj h
    have hpos : 0 < l0.length := by
      rcases Nat.eq_zero_or_pos l0.length with h0 | h0
      · have := List.eq_nil_of_length_eq_zero h0
        subst this
        unfold spec_AreTeams.f at hb
        have e : smallT ([] : List S61) = true := rfl
        rw [if_pos e] at hb
        have := Option.some.inj hb
        cases this
      · exact h0
    have hposb : (0 < (l0.length : Int)) = True := eq_true (by omega)
    have hposc : (0 < l0.length) = True := eq_true hpos
    have hA : ∀ W, Below w.heap.size w W → Calls Try.prog 20 #[.slice A0 l0.length c0] W fun e w' => e = .returned (.bool false) ∧ Below W.heap.size W w' := fun W hW => spec_AreTeams.calls k A0 c0 l0 false W (Kd.C_below hr0 hW) hc0 hb
    have HA := Aside0.mk hA
    clear hA hr0 hb h hpos
    go_enter Try.func33, Try.ntmps33
    go_wp2
    refine wp_loop_rounds 1 ?_
    rw [rounds_succ]
    go_wp2_with (go_at_call 20; refine (HA.out _ ?hw).mono ?_; (case hw => exact below_alloc (Below.refl _ _) _); rintro e w1 ⟨rfl, hb1⟩; have HB1 := Aside0.mk (below_step (below_alloc (Below.refl _ w) _) hb1); clear hb1)
    refine wp_loop_rounds 1 ?_
    rw [rounds_succ]
    go_wp2
    go_ret
    exact ⟨_, rfl, Kd.R_of_own (ok := fun _ => True) (e := 3) (enc := Value.int .i64) (h1 := fun _ => rfl) (xs := []) (World.ownsRow_made (base := w.heap.size) w1 #[] 0 HB1.out.size (Nat.zero_le _) rfl) (fun _ _ => trivial), below_alloc HB1.out _⟩
  | true =>
  rw [if_pos rfl] at h
  by_cases hl : l0.length ≤ 12
  rotate_left
  · rw [if_neg hl] at h
    cases h
  rw [if_pos hl] at h
  have hA : ∀ W, Below w.heap.size w W → Calls Try.prog 20 #[.slice A0 l0.length c0] W fun e w' => e = .returned (.bool true) ∧ Below W.heap.size W w' := fun W hW => spec_AreTeams.calls k A0 c0 l0 true W (Kd.C_below hr0 hW) hc0 hb
  obtain ⟨D, hDl, hDk, hDc⟩ := rowsD hr0
  have hres : r = (D.foldl insA []).map (fun x => x.f0) := by
    have h1 := Option.some.inj h
    have h2 := fold_key D []
    rw [← h1, ← hDk]
    rw [List.map_nil] at h2
    rw [← h2, List.map_map]
    rfl
  have HA := Aside0.mk hA
  have HL := Aside0.mk hl
  have HDL := Aside0.mk hDl
  have HDC := Aside0.mk hDc
  have HRES := Aside0.mk hres
  have hu61 := Try.underlying61
  have HO0 : Aside0 (Kd.R kTm 61 (w.alloc (.cells #[] 61)) w.heap.size (fun _ => True) (.slice (some ⟨w.heap.size, 0, none⟩) 0 0) []) := ⟨madeT' rfl (Nat.le_refl _)⟩
  clear hA hl hDl hDk hDc hres hr0 hb h
  go_enter Try.func33, Try.ntmps33
  go_wp2
  go_loopg [3, 4] l0.length (fun gg v3 v4 wr => ∃ i : Nat, v4 = .int .i64 i ∧ Aside0 (i ≤ l0.length ∧ l0.length - i ≤ gg) ∧ Aside0 (Kd.R kTm 61 wr w.heap.size (fun _ => True) v3 ((D.take i).foldl insA [])) ∧ Aside0 (Below w.heap.size w wr))
  case atStart => exact ⟨0, rfl, ⟨by omega⟩, HO0, ⟨below_alloc (Below.refl _ _) _⟩⟩
  case round =>
    clear HO0
    obtain ⟨i, rfl, HI, HO, HB⟩ := hrel
    by_cases hlt : i < l0.length
    · have hltb : ((i : Int) < (l0.length : Int)) = True := eq_true (by omega)
      have HLT := Aside0.mk hlt
      obtain ⟨ys, hys⟩ : ∃ ys, ys = (D.take i).foldl insA [] := ⟨_, rfl⟩
      have hyl : ys.length = i := by
        rw [hys, fold_len, List.length_take]
        have := HDL.out
        simp
        omega
      have hO := HO.out
      rw [← hys] at hO
      obtain ⟨A3, c3, e3⟩ := Kd.R_slice hO
      subst e3
      obtain ⟨x, hx⟩ : ∃ x, D[i]'(by rw [HDL.out]; exact hlt) = x := ⟨_, rfl⟩
      obtain ⟨ad, e0, hxc⟩ := HDC.out i (by rw [HDL.out]; exact hlt)
      rw [hx] at hxc
      subst e0
      have HNEXT : Aside0 ((D.take (i + 1)).foldl insA [] = insA ys x) := ⟨by rw [List.take_succ_eq_append_getElem (by rw [HDL.out]; exact hlt), List.foldl_append, ← hys, hx]; rfl⟩
      have HXC : Aside0 (∀ W, Below w.heap.size w W → tcell W (ad.add (i * 6)) x) := ⟨fun W hW => hxc.below hW⟩
      have HY := Aside0.mk hO
      have HYL := Aside0.mk hyl
      clear hO hys hyl hxc hx hlt HO
      go_wp2_with (go_at_call 20; refine (HA.out _ ?hw).mono ?_; (case hw => (repeat (first | (with_reducible first | exact HB.out | apply below_alloc | apply pw_below_drewN | apply below_drew) | exact HB.out))); rintro e w1 ⟨rfl, hb1⟩; have HB1 := Aside0.mk (below_step (by (repeat (first | (with_reducible first | exact HB.out | apply below_alloc | apply pw_below_drewN | apply below_drew) | exact HB.out))) hb1); have HY1 := Aside0.mk (Kd.R_below (by (with_reducible repeat (first | apply Kd.R_alloc | apply Kd.R_drewN | apply Kd.R_drew)); exact HY.out) hb1); clear hb1)
      go_loopg [5] ys.length (fun gg v5 wr => ∃ p : Nat, v5 = .int .i64 p ∧ Aside0 (p ≤ ys.length ∧ p ≤ gg) ∧ Aside0 (insP x ys p = insP x ys ys.length) ∧ Aside0 (Kd.R kTm 61 wr w.heap.size (fun _ => True) (.slice A3 ys.length c3) ys) ∧ Aside0 (Below w.heap.size w wr))
      case atStart => exact ⟨ys.length, rfl, ⟨by omega⟩, ⟨rfl⟩, HY1, HB1⟩
      case round =>
        clear HY1 HB1
        obtain ⟨p, rfl, HP, HIP, HY2, HB2⟩ := hrel
        cases p with
        | zero =>
          have hp0 : (0 < ((0 : Nat) : Int)) = False := eq_false (by omega)
          go_wp2
          go_quiet (fail)
          go_wp2
          rename World => wr0
          have HIP0 : Aside0 (0 = insP x ys ys.length) := ⟨by rw [← HIP.out]; rfl⟩
          obtain ⟨y1, hy1⟩ : ∃ y, y = ys.take 0 := ⟨_, rfl⟩
          obtain ⟨y2, hy2⟩ : ∃ y, y = ys.drop 0 := ⟨_, rfl⟩
          have hpl : 0 ≤ ys.length := HP.out.1
          have hroom : ys.length ≤ c3 := (Kd.R_reads' HY2.out).2.1
          have hpI : ((0 : Nat) : Int) ≤ ((ys.length : Nat) : Int) := by omega
          obtain ⟨i0, hi0, _, hsz0, _⟩ := info_parts info61
          have ht0 : (0 : Int) ≤ 0 := by omega
          have htn : (0 : Int).toNat = 0 := rfl
          have hcut1 := cut_to (P := Try.prog) 25 61 .i64 Try.underlying25 hi0 A3 ys.length c3 0 ht0 (by omega) hroom
          have hcut2 := cut_from (P := Try.prog) 25 61 .i64 Try.underlying25 hi0 6 hsz0 A3 ys.length c3 0 ht0 (by omega)
          have hyl1 : y1.length = (0 : Int).toNat := by rw [hy1, List.length_take]; omega
          have hyl2 : y2.length = ys.length - (0 : Int).toNat := by rw [hy2, List.length_drop]; omega
          obtain ⟨A6, hA6⟩ : ∃ A1, A1 = (if c3 = (0 : Int).toNat then A3 else (A3 : Option Addr).map (·.add ((0 : Int).toNat * 6))) := ⟨_, rfl⟩
          obtain ⟨c6, hc6⟩ : ∃ c_, c_ = c3 - (0 : Int).toNat := ⟨_, rfl⟩
          rw [← hyl1] at hcut1
          rw [← hyl2, ← hA6, ← hc6] at hcut2
          have HT1 : Aside0 (∀ W, Below wr0.heap.size wr0 W → Kd.C kTm W A3 y1.length y1) := ⟨fun W hW => by rw [hy1]; exact Kd.C_take (Kd.R_reads' (Kd.R_below HY2.out hW)).2.2 hpl⟩
          have HD1 : Aside0 (∀ W, Below wr0.heap.size wr0 W → Kd.C kTm W A6 y2.length y2) := ⟨fun W hW => by rw [hy2, hA6, htn]; exact Kd.C_drop (c := c3) (Kd.R_reads' (Kd.R_below HY2.out hW)).2.2 hpl hroom⟩
          have HINS : Aside0 (insA ys x = y1 ++ [x] ++ y2) := ⟨by unfold insA; rw [← HIP0.out, hy1, hy2]⟩
          have HY12 : Aside0 (y1.length + y2.length < 1000) := ⟨by have := HYL.out; have := HLT.out; have := HL.out; omega⟩
          have hxc := HXC.out _ HB2.out
          obtain ⟨x0, x1, x2, x3, x4, x5⟩ := hxc
          have hlb : ((0 : Int) ≤ (ys.length : Int)) = True := eq_true (by omega)
          have hil : ((i : Int) < (l0.length : Int)) = True := eq_true (by have := HLT.out; omega)
          have HWI : Aside0 (wrap64 ((i : Int) + 1) = ((i + 1 : Nat) : Int)) := ⟨by have := HLT.out; have := HL.out; unfold wrap64; omega⟩
          clear hpl hroom hpI hi0 hsz0 ht0 htn hyl1 hyl2 hA6 hc6 hy1 hy2
          go_region_held3 (fun w' => w'.cell? (ad.add (i * 6)) = some (.int .i64 x.f0) ∧ w'.cell? ⟨(ad.add (i * 6)).block, (ad.add (i * 6)).off + 1, none⟩ = some (.int .i64 x.f1) ∧ w'.cell? ⟨(ad.add (i * 6)).block, (ad.add (i * 6)).off + 2, none⟩ = some (.int .i64 x.f2) ∧ w'.cell? ⟨(ad.add (i * 6)).block, (ad.add (i * 6)).off + 3, none⟩ = some (.int .i64 x.f3) ∧ w'.cell? ⟨(ad.add (i * 6)).block, (ad.add (i * 6)).off + 4, none⟩ = some (.int .i64 x.f4) ∧ w'.cell? ⟨(ad.add (i * 6)).block, (ad.add (i * 6)).off + 5, none⟩ = some (.slice x.A x.n x.c))
            (first
              | go_keep
              | exact HXC.out _ (below_step HB2.out HB7.out)
              | exact HXC.out _ (below_step HB2.out HB6.out)
              | exact HXC.out _ (below_step HB2.out HB5.out))
            ((first
              | ((with_reducible refine gateT 41 rfl ?_); refine Kd.R_append_rows_step kTm (w0 := wr0) wr0.heap.size (by rfl) (.tmp 37) (.tmp 40) 25 61 (.agg #[.int .i64 0, .int .i64 0, .int .i64 0, .int .i64 0, .int .i64 0, .slice none 0 0]) 64 (by rfl) Try.underlying25 info61 rfl (by decide) (by omega) (.slice (some ⟨_, 0, none⟩) 0 0) [] y1 _ _ _ (fun _ => True) (fun _ => False) (by rfl) (by rfl) ?hO1 (HT1.out _ (show RowKit.Below wr0.heap.size wr0 _ from by (repeat (first | (with_reducible first | exact Below.refl _ _ | apply below_alloc | apply pw_below_drewN | apply below_drew) | exact Below.refl _ _)))) (fun _ _ h => h) (fun _ h => h.elim) (fun _ _ => trivial) (show RowKit.Below wr0.heap.size wr0 _ from by (repeat (first | (with_reducible first | exact Below.refl _ _ | apply below_alloc | apply pw_below_drewN | apply below_drew) | exact Below.refl _ _))) ((show RowKit.Below wr0.heap.size wr0 _ from by (repeat (first | (with_reducible first | exact Below.refl _ _ | apply below_alloc | apply pw_below_drewN | apply below_drew) | exact Below.refl _ _))).size) (by have := HY12.out; simp; omega) ?_; (case hO1 => (with_reducible repeat (first | refine madeT' ?_ ?_ | apply Kd.R_drew | apply Kd.R_drewN | apply Kd.R_alloc)); (focus (first | rfl | (simp; done))); exact ((show RowKit.Below wr0.heap.size wr0 _ from by (repeat (first | (with_reducible first | exact Below.refl _ _ | apply below_alloc | apply pw_below_drewN | apply below_drew) | exact Below.refl _ _))).size)); intro v5 w5 hr hb hg hat; have HR5 := Aside0.mk hr; have HB5 := Aside0.mk hb; have HG5 := Aside0.mk hg; clear hr hb hg hat)
              | ((with_reducible refine gateT 47 rfl ?_); refine Kd.R_append_rows_step kTm (w0 := wr0) wr0.heap.size (by rfl) (.tmp 41) (.tmp 46) 25 61 (.agg #[.int .i64 0, .int .i64 0, .int .i64 0, .int .i64 0, .int .i64 0, .slice none 0 0]) 64 (by rfl) Try.underlying25 info61 rfl (by decide) (by omega) _ ([] ++ y1) [x] _ _ _ (fun _ => True) (fun _ => False) (by rfl) (by rfl) ?hO2 ?hR2 (fun _ _ h => h) (fun _ h => h.elim) (fun _ _ => trivial) ?hB2 ?hS2 ?hL2 ?_; (case hO2 => repeat (first | (with_reducible first | exact HR5.out | apply Kd.R_drew | apply Kd.R_drewN | apply Kd.R_alloc) | exact HR5.out)); (case hR2 => refine (show Kd.C kTm _ _ _ [x] from ?_); first | ((with_reducible refine oneT' ?_); (first | rfl | (simp; done))) | ((with_reducible refine Kd.C_drew (oneT' ?_)); (first | rfl | (simp; done))) | ((with_reducible refine oneT_kept ?_ HG5.out ?_); (focus ((with_reducible repeat (first | refine blk_newT ?_ | refine blk_drewN ?_ _ | refine blk_drew ?_ | refine blk_alloc ?_ _)); (first | rfl | (simp; done)))); (simp [Value.ownBlock]))); (case hB2 => (repeat (first | (with_reducible first | exact HB5.out | apply below_alloc | apply pw_below_drewN | apply below_drew) | exact HB5.out))); (case hS2 => exact (show RowKit.Below wr0.heap.size wr0 _ from by (repeat (first | (with_reducible first | exact HB5.out | apply below_alloc | apply pw_below_drewN | apply below_drew) | exact HB5.out))).size); (case hL2 => have := HY12.out; simp; omega); intro v6 w6 hr hb hg hat; have HR6 := Aside0.mk hr; have HB6 := Aside0.mk hb; clear hr hb hg hat)
              | ((with_reducible refine gateT 51 rfl ?_); refine Kd.R_append_rows_step kTm (w0 := wr0) wr0.heap.size (by rfl) (.tmp 47) (.tmp 50) 25 61 (.agg #[.int .i64 0, .int .i64 0, .int .i64 0, .int .i64 0, .int .i64 0, .slice none 0 0]) 64 (by rfl) Try.underlying25 info61 rfl (by decide) (by omega) _ ([] ++ y1 ++ [x]) y2 _ _ _ (fun _ => True) (fun _ => False) (by rfl) (by rfl) ?hO3 ?hR3 (fun _ _ h => h) (fun _ h => h.elim) (fun _ _ => trivial) ?hB3 ?hS3 ?hL3 ?_; (case hO3 => repeat (first | (with_reducible first | exact HR6.out | apply Kd.R_drew | apply Kd.R_drewN | apply Kd.R_alloc) | exact HR6.out)); (case hR3 => exact HD1.out _ (by (repeat (first | (with_reducible first | exact HB6.out | apply below_alloc | apply pw_below_drewN | apply below_drew) | exact HB6.out)))); (case hB3 => (repeat (first | (with_reducible first | exact HB6.out | apply below_alloc | apply pw_below_drewN | apply below_drew) | exact HB6.out))); (case hS3 => exact (show RowKit.Below wr0.heap.size wr0 _ from by (repeat (first | (with_reducible first | exact HB6.out | apply below_alloc | apply pw_below_drewN | apply below_drew) | exact HB6.out))).size); (case hL3 => have := HY12.out; simp; omega); intro v7 w7 hr hb hg hat; have HR7 := Aside0.mk hr; have HB7 := Aside0.mk hb; clear hr hb hg hat)))
          all_goals (go_wp2; go_roundg (l0.length - (i + 1)); (case measure => have := HI.out; have := HLT.out; omega); (case rel => exact ⟨i + 1, by rw [HWI.out], ⟨by have := HLT.out; omega⟩, ⟨by rw [HNEXT.out, HINS.out]; have h_ := Kd.R_lower HR7.out HB2.out.size; rw [List.nil_append] at h_; exact h_⟩, ⟨below_step HB2.out HB7.out⟩⟩))
        | succ q =>
          have hq : q < ys.length := by have := HP.out; omega
          have hqb : (0 < ((q + 1 : Nat) : Int)) = True := eq_true (by omega)
          have hqb2 : (0 < (q : Int) + 1) = True := eq_true (by omega)
          have hw1 : wrap64 ((q + 1 : Nat) - 1 : Int) = (q : Int) := by have := HP.out; have := HYL.out; have := HLT.out; have := HL.out; unfold wrap64; omega
          have hw2 : wrap64 ((q : Int) + 1 - 1) = (q : Int) := by have := HP.out; have := HYL.out; have := HLT.out; have := HL.out; unfold wrap64; omega
          have hw3 : wrap64 (q : Int) = (q : Int) := by have := HP.out; have := HYL.out; have := HLT.out; have := HL.out; unfold wrap64; omega
          have hw4 : IntKind.i64.wrap (q : Int) = (q : Int) := (i64_w _).trans hw3
          have hql : ((q : Int) < (ys.length : Int)) = True := eq_true (by omega)
          have hil : ((i : Int) < (l0.length : Int)) = True := eq_true (by have := HLT.out; omega)
          obtain ⟨y, hy⟩ : ∃ y, ys[q] = y := ⟨_, rfl⟩
          obtain ⟨ad3, e3, hyc⟩ := tcell_of (Kd.R_reads' HY2.out).2.2 q hq
          rw [hy] at hyc
          have hgd : ys.getD q default = y := by rw [List.getD_eq_getElem?_getD, List.getElem?_eq_getElem hq, hy]; rfl
          have HSTEP : Aside0 (insP x ys (q + 1) = if befK (keyA x) (keyA y) = true then insP x ys q else q + 1) := ⟨by rw [insP, hgd]⟩
          have hxc := HXC.out _ HB2.out
          clear hgd hy hq
          subst e3
          rename World => W2
          go_wp2_with fail
          refine wp_region_still_tail 12 (by kernel_rfl) (by kernel_rfl) ?_
          show wpStill _ _ (World.drew _) (fun a' => wpList _ _ _ _ a' (World.drew _)) _ _
          obtain ⟨x0, x1, x2, x3, x4, x5⟩ := (show tcell W2.drew (ad.add (i * 6)) x from hxc)
          obtain ⟨y0, y1, y2, y3, y4, y5⟩ := (show tcell W2.drew (ad3.add (q * 6)) y from hyc)
          have HY3 : Aside0 (Kd.R kTm 61 W2.drew w.heap.size (fun _ => True) (.slice (some ad3) ys.length c3) ys) := ⟨Kd.R_drew HY2.out⟩
          have HB3 : Aside0 (Below w.heap.size w W2.drew) := ⟨below_drew HB2.out⟩
          generalize W2.drew = w3 at x0 x1 x2 x3 x4 x5 y0 y1 y2 y3 y4 y5 HY3 HB3 ⊢
          clear hxc hyc
          simp only [List.take_succ_cons, List.take_zero, List.drop_succ_cons, List.drop_zero]
          repeat (first | still_step)
          refine wpStill_nil ?_
          cases hbf : befK (keyA x) (keyA y) with
          | true =>
            have hBC := Before_calls x y
            rw [hbf] at hBC
            have HST := HSTEP.out
            rw [if_pos hbf] at HST
            have HST2 := Aside0.mk HST
            clear HST hbf
            go_wp2_with (go_at_call 67; refine (hBC _).mono ?_; rintro e w4 ⟨rfl, hb4⟩; have HB4 := Aside0.mk (below_step HB3.out hb4); have HY4 := Aside0.mk (Kd.R_below HY3.out hb4); clear hb4)
            go_roundg q
            case measure => have := HP.out; omega
            case rel => exact ⟨q, by first | rfl | rw [hw3] | rw [hw1] | rw [hw2], ⟨by have := HP.out; omega⟩, ⟨by rw [← HST2.out]; exact HIP.out⟩, HY4, HB4⟩
          | false =>
            have hBC := Before_calls x y
            rw [hbf] at hBC
            have HST := HSTEP.out
            rw [if_neg (by rw [hbf]; simp)] at HST
            have HIP2 : Aside0 (q + 1 = insP x ys ys.length) := ⟨by rw [← HIP.out]; exact HST.symm⟩
            clear HST hbf
            go_wp2_with (go_at_call 67; refine (hBC _).mono ?_; rintro e w4 ⟨rfl, hb4⟩; have HB4 := Aside0.mk (below_step HB3.out hb4); have HY4 := Aside0.mk (Kd.R_below HY3.out hb4); clear hb4)
            obtain ⟨y1, hy1⟩ : ∃ y, y = ys.take (q + 1) := ⟨_, rfl⟩
            obtain ⟨y2, hy2⟩ : ∃ y, y = ys.drop (q + 1) := ⟨_, rfl⟩
            have hpl : (q + 1) ≤ ys.length := HP.out.1
            have hroom : ys.length ≤ c3 := (Kd.R_reads' HY4.out).2.1
            have hpI : (((q + 1) : Nat) : Int) ≤ ((ys.length : Nat) : Int) := by omega
            obtain ⟨i0, hi0, _, hsz0, _⟩ := info_parts info61
            obtain ⟨t, ht⟩ : ∃ t : Int, t = (((q + 1) : Nat) : Int) := ⟨_, rfl⟩
            have ht0 : 0 ≤ t := by omega
            have htn : t.toNat = (q + 1) := by omega
            have hcut1 := cut_to (P := Try.prog) 25 61 .i64 Try.underlying25 hi0 (some ad3) ys.length c3 t ht0 (by omega) hroom
            have hcut2 := cut_from (P := Try.prog) 25 61 .i64 Try.underlying25 hi0 6 hsz0 (some ad3) ys.length c3 t ht0 (by omega)
            have hyl1 : y1.length = t.toNat := by rw [hy1, List.length_take]; omega
            have hyl2 : y2.length = ys.length - t.toNat := by rw [hy2, List.length_drop]; omega
            obtain ⟨A6, hA6⟩ : ∃ A1, A1 = (if c3 = t.toNat then (some ad3) else ((some ad3) : Option Addr).map (·.add (t.toNat * 6))) := ⟨_, rfl⟩
            obtain ⟨c6, hc6⟩ : ∃ c_, c_ = c3 - t.toNat := ⟨_, rfl⟩
            rw [← hyl1] at hcut1
            rw [← hyl2, ← hA6, ← hc6] at hcut2
            have HT1 : Aside0 (∀ W, Below w4.heap.size w4 W → Kd.C kTm W (some ad3) y1.length y1) := ⟨fun W hW => by rw [hy1]; exact Kd.C_take (Kd.R_reads' (Kd.R_below HY4.out hW)).2.2 hpl⟩
            have HD1 : Aside0 (∀ W, Below w4.heap.size w4 W → Kd.C kTm W A6 y2.length y2) := ⟨fun W hW => by rw [hy2, hA6, htn]; exact Kd.C_drop (c := c3) (Kd.R_reads' (Kd.R_below HY4.out hW)).2.2 hpl hroom⟩
            have HINS : Aside0 (insA ys x = y1 ++ [x] ++ y2) := ⟨by unfold insA; rw [← HIP2.out, hy1, hy2]⟩
            have HY12 : Aside0 (y1.length + y2.length < 1000) := ⟨by have := HYL.out; have := HLT.out; have := HL.out; omega⟩
            have hxc := HXC.out _ HB4.out
            obtain ⟨x0, x1, x2, x3, x4, x5⟩ := hxc
            have hlb : (t ≤ (ys.length : Int)) = True := eq_true (by omega)
            have h0b : (0 ≤ t) = True := eq_true ht0
            have hil : ((i : Int) < (l0.length : Int)) = True := eq_true (by have := HLT.out; omega)
            have HWI : Aside0 (wrap64 ((i : Int) + 1) = ((i + 1 : Nat) : Int)) := ⟨by have := HLT.out; have := HL.out; unfold wrap64; omega⟩
            have ht2 : (q : Int) + 1 = t := by omega
            try simp only [← ht]
            try simp only [ht2]
            clear ht ht2 hqb hqb2 hw1 hw2 hw3 hw4 hql
            clear hpl hroom hpI hi0 hsz0 ht0 htn hyl1 hyl2 hA6 hc6 hy1 hy2
            go_region_held3 (fun w' => w'.cell? (ad.add (i * 6)) = some (.int .i64 x.f0) ∧ w'.cell? ⟨(ad.add (i * 6)).block, (ad.add (i * 6)).off + 1, none⟩ = some (.int .i64 x.f1) ∧ w'.cell? ⟨(ad.add (i * 6)).block, (ad.add (i * 6)).off + 2, none⟩ = some (.int .i64 x.f2) ∧ w'.cell? ⟨(ad.add (i * 6)).block, (ad.add (i * 6)).off + 3, none⟩ = some (.int .i64 x.f3) ∧ w'.cell? ⟨(ad.add (i * 6)).block, (ad.add (i * 6)).off + 4, none⟩ = some (.int .i64 x.f4) ∧ w'.cell? ⟨(ad.add (i * 6)).block, (ad.add (i * 6)).off + 5, none⟩ = some (.slice x.A x.n x.c))
              (first
                | go_keep
                | exact HXC.out _ (below_step HB4.out HB7.out)
                | exact HXC.out _ (below_step HB4.out HB6.out)
                | exact HXC.out _ (below_step HB4.out HB5.out))
              ((first
                | ((with_reducible refine gateT 41 rfl ?_); refine Kd.R_append_rows_step kTm (w0 := w4) w4.heap.size (by rfl) (.tmp 37) (.tmp 40) 25 61 (.agg #[.int .i64 0, .int .i64 0, .int .i64 0, .int .i64 0, .int .i64 0, .slice none 0 0]) 64 (by rfl) Try.underlying25 info61 rfl (by decide) (by omega) (.slice (some ⟨_, 0, none⟩) 0 0) [] y1 _ _ _ (fun _ => True) (fun _ => False) (by rfl) (by rfl) ?hO1 (HT1.out _ (show RowKit.Below w4.heap.size w4 _ from by (repeat (first | (with_reducible first | exact Below.refl _ _ | apply below_alloc | apply pw_below_drewN | apply below_drew) | exact Below.refl _ _)))) (fun _ _ h => h) (fun _ h => h.elim) (fun _ _ => trivial) (show RowKit.Below w4.heap.size w4 _ from by (repeat (first | (with_reducible first | exact Below.refl _ _ | apply below_alloc | apply pw_below_drewN | apply below_drew) | exact Below.refl _ _))) ((show RowKit.Below w4.heap.size w4 _ from by (repeat (first | (with_reducible first | exact Below.refl _ _ | apply below_alloc | apply pw_below_drewN | apply below_drew) | exact Below.refl _ _))).size) (by have := HY12.out; simp; omega) ?_; (case hO1 => (with_reducible repeat (first | refine madeT' ?_ ?_ | apply Kd.R_drew | apply Kd.R_drewN | apply Kd.R_alloc)); (focus (first | rfl | (simp; done))); exact ((show RowKit.Below w4.heap.size w4 _ from by (repeat (first | (with_reducible first | exact Below.refl _ _ | apply below_alloc | apply pw_below_drewN | apply below_drew) | exact Below.refl _ _))).size)); intro v5 w5 hr hb hg hat; have HR5 := Aside0.mk hr; have HB5 := Aside0.mk hb; have HG5 := Aside0.mk hg; clear hr hb hg hat)
                | ((with_reducible refine gateT 47 rfl ?_); refine Kd.R_append_rows_step kTm (w0 := w4) w4.heap.size (by rfl) (.tmp 41) (.tmp 46) 25 61 (.agg #[.int .i64 0, .int .i64 0, .int .i64 0, .int .i64 0, .int .i64 0, .slice none 0 0]) 64 (by rfl) Try.underlying25 info61 rfl (by decide) (by omega) _ ([] ++ y1) [x] _ _ _ (fun _ => True) (fun _ => False) (by rfl) (by rfl) ?hO2 ?hR2 (fun _ _ h => h) (fun _ h => h.elim) (fun _ _ => trivial) ?hB2 ?hS2 ?hL2 ?_; (case hO2 => repeat (first | (with_reducible first | exact HR5.out | apply Kd.R_drew | apply Kd.R_drewN | apply Kd.R_alloc) | exact HR5.out)); (case hR2 => refine (show Kd.C kTm _ _ _ [x] from ?_); first | ((with_reducible refine oneT' ?_); (first | rfl | (simp; done))) | ((with_reducible refine Kd.C_drew (oneT' ?_)); (first | rfl | (simp; done))) | ((with_reducible refine oneT_kept ?_ HG5.out ?_); (focus ((with_reducible repeat (first | refine blk_newT ?_ | refine blk_drewN ?_ _ | refine blk_drew ?_ | refine blk_alloc ?_ _)); (first | rfl | (simp; done)))); (simp [Value.ownBlock]))); (case hB2 => (repeat (first | (with_reducible first | exact HB5.out | apply below_alloc | apply pw_below_drewN | apply below_drew) | exact HB5.out))); (case hS2 => exact (show RowKit.Below w4.heap.size w4 _ from by (repeat (first | (with_reducible first | exact HB5.out | apply below_alloc | apply pw_below_drewN | apply below_drew) | exact HB5.out))).size); (case hL2 => have := HY12.out; simp; omega); intro v6 w6 hr hb hg hat; have HR6 := Aside0.mk hr; have HB6 := Aside0.mk hb; clear hr hb hg hat)
                | ((with_reducible refine gateT 51 rfl ?_); refine Kd.R_append_rows_step kTm (w0 := w4) w4.heap.size (by rfl) (.tmp 47) (.tmp 50) 25 61 (.agg #[.int .i64 0, .int .i64 0, .int .i64 0, .int .i64 0, .int .i64 0, .slice none 0 0]) 64 (by rfl) Try.underlying25 info61 rfl (by decide) (by omega) _ ([] ++ y1 ++ [x]) y2 _ _ _ (fun _ => True) (fun _ => False) (by rfl) (by rfl) ?hO3 ?hR3 (fun _ _ h => h) (fun _ h => h.elim) (fun _ _ => trivial) ?hB3 ?hS3 ?hL3 ?_; (case hO3 => repeat (first | (with_reducible first | exact HR6.out | apply Kd.R_drew | apply Kd.R_drewN | apply Kd.R_alloc) | exact HR6.out)); (case hR3 => exact HD1.out _ (by (repeat (first | (with_reducible first | exact HB6.out | apply below_alloc | apply pw_below_drewN | apply below_drew) | exact HB6.out)))); (case hB3 => (repeat (first | (with_reducible first | exact HB6.out | apply below_alloc | apply pw_below_drewN | apply below_drew) | exact HB6.out))); (case hS3 => exact (show RowKit.Below w4.heap.size w4 _ from by (repeat (first | (with_reducible first | exact HB6.out | apply below_alloc | apply pw_below_drewN | apply below_drew) | exact HB6.out))).size); (case hL3 => have := HY12.out; simp; omega); intro v7 w7 hr hb hg hat; have HR7 := Aside0.mk hr; have HB7 := Aside0.mk hb; clear hr hb hg hat)))
            all_goals (go_wp2; go_roundg (l0.length - (i + 1)); (case measure => have := HI.out; have := HLT.out; omega); (case rel => exact ⟨i + 1, by rw [HWI.out], ⟨by have := HLT.out; omega⟩, ⟨by rw [HNEXT.out, HINS.out]; have h_ := Kd.R_lower HR7.out HB4.out.size; rw [List.nil_append] at h_; exact h_⟩, ⟨below_step HB4.out HB7.out⟩⟩))
    · have hltb : ((i : Int) < (l0.length : Int)) = False := eq_false (by omega)
      have HS : Aside0 (Kd.R kTm 61 wr w.heap.size (fun _ => True) _ (D.foldl insA [])) := ⟨by
        have e : D.take i = D := List.take_of_length_le (by have := HDL.out; omega)
        have := HO.out
        rw [e] at this
        exact this⟩
      obtain ⟨ss, hss⟩ : ∃ ss, ss = D.foldl insA [] := ⟨_, rfl⟩
      have hS := HS.out
      rw [← hss] at hS
      obtain ⟨A3, c3, e3⟩ := Kd.R_slice hS
      subst e3
      have HSL : Aside0 (ss.length ≤ 12) := ⟨by rw [hss, fold_len]; have := HDL.out; have := HL.out; simp; omega⟩
      have HRS : Aside0 (r = ss.map (fun x => x.f0)) := ⟨by rw [HRES.out, hss]⟩
      have HS9 := Aside0.mk hS
      rename World => W9
      have HO9 : Aside0 (Kd.R (Kd.int .i64) 3 (W9.alloc (.cells #[] 3)) W9.heap.size (fun _ => True) (.slice (some ⟨W9.heap.size, 0, none⟩) 0 0) []) := ⟨Kd.R_of_own (ok := fun _ => True) (e := 3) (enc := Value.int .i64) (h1 := fun _ => rfl) (xs := []) (World.ownsRow_made (base := W9.heap.size) W9 #[] 0 (Nat.le_refl _) (Nat.zero_le _) rfl) (fun _ _ => trivial)⟩
      clear hlt hS hss HS HO
      go_wp2
      go_loopg [6, 7] ss.length (fun gg v6 v7 wr => ∃ j : Nat, v7 = .int .i64 j ∧ Aside0 (j ≤ ss.length ∧ ss.length - j ≤ gg) ∧ Aside0 (Kd.R (Kd.int .i64) 3 wr W9.heap.size (fun _ => True) v6 ((ss.map (fun x => x.f0)).take j)) ∧ Aside0 (Below W9.heap.size W9 wr))
      case atStart => exact ⟨0, rfl, ⟨by omega⟩, HO9, ⟨below_alloc (Below.refl _ _) _⟩⟩
      case round =>
        clear HO9
        obtain ⟨j, rfl, HJ, HV, HBV⟩ := hrel
        by_cases hj : j < ss.length
        · have hjb : ((j : Int) < (ss.length : Int)) = True := eq_true (by omega)
          obtain ⟨ad3, e3, hyc⟩ := tcell_of (Kd.R_reads' (Kd.R_below HS9.out HBV.out)).2.2 j hj
          subst e3
          obtain ⟨y, hy⟩ : ∃ y, ss[j] = y := ⟨_, rfl⟩
          rw [hy] at hyc
          obtain ⟨y0, _⟩ := hyc
          obtain ⟨vs, hvs⟩ : ∃ vs, vs = (ss.map (fun x => x.f0)).take j := ⟨_, rfl⟩
          have hV := HV.out
          rw [← hvs] at hV
          have hvl : vs.length ≤ 12 := by rw [hvs, List.length_take]; have := HSL.out; simp; omega
          obtain ⟨A6, c6, e6⟩ := Kd.R_slice hV
          subst e6
          have HV2 := Aside0.mk hV
          have HVL := Aside0.mk hvl
          have HVN : Aside0 ((ss.map (fun x => x.f0)).take (j + 1) = vs ++ [y.f0]) := ⟨by rw [List.take_succ_eq_append_getElem (by simpa using hj), ← hvs]; simp [hy]⟩
          have HJL := Aside0.mk hj
          have HWJ : Aside0 (wrap64 ((j : Int) + 1) = ((j + 1 : Nat) : Int)) := ⟨by have := HSL.out; unfold wrap64; omega⟩
          clear hV hvs hvl hy hj HV
          go_wp2_with (at_builtin; refine Kd.R_append (Kd.int .i64) (w0 := W9) W9.heap.size rfl (.tmp 59) (.tmp 65) 41 3 (.int .i64 0) 8 rfl Try.underlying41 (by kernel_rfl) rfl (by decide) (by omega) (.slice A6 vs.length c6) vs y.f0 [.int .i64 y.f0] (fun _ => True) (fun _ => False) rfl ?hx ?aP (fun _ h => h.elim) ?aF ?hO ?hB ?hs ?hl ?_; (case hx => exact rfl); (case aP => exact rfl); (case aF => exact fun _ _ => trivial); (case hO => exact HV2.out); (case hB => exact HBV.out); (case hs => exact HBV.out.size); (case hl => have := HVL.out; omega); intro v1 w4 hr hb hg hat; have H4 := Aside0.mk hr; have HB4 := Aside0.mk hb; clear hr hb hg hat)
          go_roundg (ss.length - (j + 1))
          case measure => have := HJ.out; have := HJL.out; omega
          case rel => exact ⟨j + 1, by rw [HWJ.out], ⟨by have := HJL.out; omega⟩, ⟨by rw [HVN.out]; exact H4.out⟩, HB4⟩
        · have hjb : ((j : Int) < (ss.length : Int)) = False := eq_false (by omega)
          have HE : Aside0 ((ss.map (fun x => x.f0)).take j = r) := ⟨by rw [HRS.out]; exact List.take_of_length_le (by simp; omega)⟩
          clear hj
          go_wp2
          go_ret
          have hV := HV.out
          rw [HE.out] at hV
          exact ⟨_, rfl, Kd.R_lower hV HB.out.size, below_step HB.out HBV.out⟩
end Go.Proofs.Ytiimiogpiflkdaa.A
end

section
namespace Go.Proofs.Ytiimiogpiflkdaa.A
open Go.RowKit Go.Proofs.YtiimiogpiflkdaaW.PrintWords Go.Proofs.YtiimiogpiflkdaaW.PrintLast Go.Proofs.YtiimiogpiflkdaaW.PrintMore
def bvL : Nat → Nat → List Bool
  | 0, _ => []
  | n + 1, m => (m % 2 == 1) :: bvL n (m / 2)
def bv (n m : Nat) : Array Bool := (bvL n m).toArray
theorem Z1 {α : Type} {l : List α} {i : Nat} {a : α} : l.toArray.setIfInBounds i a = (l.set i a).toArray := List.setIfInBounds_toArray ..
theorem Z2 {α : Type} {x : α} {l : List α} {a : α} : (x :: l).set 0 a = a :: l := rfl
theorem Z3 {α : Type} {x : α} {l : List α} {i : Nat} {a : α} : (x :: l).set (i + 1) a = x :: l.set i a := rfl
section
variable {P : Program} {ops : Array Oper} {Q : Exit → Act → World → Prop} {S : World → Prop} {ds : List Nat} {T : Bool × List (List Nat × List Nat)} {B : List Nat}
theorem pu_ (n i : Nat) (N : Tmp) (m : Nat) {oi : Oper} {fuel : Nat} {l : Array Bool} {a a' : Act} {w : World} (hi : ops[i]? = some oi) (hN : oi.dst = some N) (hT : Aside0 (rtab .any ops = T))
    (h : wpAnyLast P .any ops Q S ds fuel (bv n m) a' w)
    (hc : anyT T l.toList (bv n m).toList i = true := by kernel_rfl)
    (hQ : ∀ c a w, Q (.panic c) (a.put oi.dst undef) w → Q (.panic c) a w := by exact fun _ _ _ h => h)
    (hu : Region.wanted oi (yielded ops a.tmps) = false := by rfl)
    (ha : a.put (some N) undef = a' := by simp only [Act.put, Z1, Z2, Z3, i64_w, i32_w]; rfl) : wpAnyLast P .any ops Q S ds (fuel + 1) l a w :=
  pure_ (bv n m) hi hN (any_of hT.out hc) hQ (.inr ⟨hu, rfl⟩) ha h
theorem pv_ (n i : Nat) (N : Tmp) (m : Nat) {oi : Oper} {v : Value} {fuel : Nat} {l : Array Bool} {a a' : Act} {w : World} (hi : ops[i]? = some oi) (hN : oi.dst = some N) (hT : Aside0 (rtab .any ops = T))
    (h : wpAnyLast P .any ops Q S ds fuel (bv n m) a' w)
    (hc : anyT T l.toList (bv n m).toList i = true := by kernel_rfl)
    (hu : Region.wanted oi (yielded ops a.tmps) = true := by rfl)
    (hy : ∀ w, (execOp a.eval oi).run P w = .ok (.value v) w := by intro w'; go_simp; with_reducible rfl)
    (hQ : ∀ c a w, Q (.panic c) (a.put oi.dst v) w → Q (.panic c) a w := by exact fun _ _ _ h => h)
    (ha : a.put (some N) v = a' := by simp only [Act.put, Z1, Z2, Z3, i64_w, i32_w]; rfl) : wpAnyLast P .any ops Q S ds (fuel + 1) l a w :=
  pure_ (bv n m) hi hN (any_of hT.out hc) hQ (.inl ⟨hu, hy⟩) ha h
theorem tv_ (n i : Nat) (N : Tmp) (m : Nat) {oi : Oper} {v : Value} {fuel : Nat} {l : Array Bool} {a a' : Act} {w : World} (hi : ops[i]? = some oi) (hN : oi.dst = some N) (hT : Aside0 (rtab .any ops = T)) (hW : Aside0 (waitsOk T.2 B = true)) (hS : S w)
    (hy : ∀ w, S w → (execOp a.eval oi).run P w = .ok (.value v) w)
    (h : wpAnyLast P .any ops Q S ds fuel (bv n m) a' w)
    (hc : takeW T B ds l.toList (bv n m).toList i = true := by kernel_rfl)
    (hu : Region.wanted oi (yielded ops a.tmps) = true := by rfl)
    (hQ : ∀ c a w, Q (.panic c) (a.put oi.dst v) w → Q (.panic c) a w := by exact fun _ _ _ h => h)
    (ha : a.put (some N) v = a' := by simp only [Act.put, Z1, Z2, Z3, i64_w, i32_w]; rfl) : wpAnyLast P .any ops Q S ds (fuel + 1) l a w :=
  take_ (bv n m) hi hN (take_ofW hT.out hW.out hc) hQ (.inl ⟨hu, hy⟩) hS ha h
theorem nm_ (N : Tmp) {v : Value} {fuel : Nat} {l : Array Bool} {a a' : Act} {w : World} (h : wpAnyLast P .any ops Q S ds fuel l a' w)
    (ha : Act.put a (some N) v = a' := by simp only [Act.put, Z1, Z2, Z3, i64_w, i32_w]; rfl) : wpAnyLast P .any ops Q S ds fuel l (a.put (some N) v) w := norm_ ha h
end
end Go.Proofs.Ytiimiogpiflkdaa.A
end

section
namespace Go.Proofs.Ytiimiogpiflkdaa.A
open Go.RowKit Go.Proofs.YtiimiogpiflkdaaW.PrintWords Go.Proofs.YtiimiogpiflkdaaW.PrintLast Go.Proofs.YtiimiogpiflkdaaW.PrintMore
attribute [local go_sem] max2_int min2_int max_two min_two max_three min_three max_four min_four   -- for this text's walks alone
set_option linter.unusedVariables false
set_option linter.unusedSimpArgs false
def spec_l4Has.l0 : Nat → List Int → Int → Int → Option (Bool)
  | 0, _, _, _ => none
  | k + 1, x0, x1, x5 => if x5 < (x0.length : Int) then (if 0 ≤ x5 then (if (rd x0 x5) = x1 then (some true) else (spec_l4Has.l0 k x0 x1 (wrap64 (x5 + 1)))) else (none)) else (some false)
def spec_l4Has.f (k : Nat) (l0 : List Int) (a1 : Int) : Option (Bool) := spec_l4Has.l0 k l0 a1 0
set_option maxHeartbeats 8000000 in
set_option maxRecDepth 100000 in
theorem spec_l4Has.calls (k : Nat) (A0 : Option Addr) (c0 : Nat) (l0 : List Int) (a1 : Int) (r : Bool) (w : World) (hr0 : Kd.C (Kd.int .i64) w A0 l0.length l0) (hc0 : l0.length ≤ c0) (h : spec_l4Has.f k l0 a1 = some r) :
  Calls Try.prog 63 #[.slice A0 l0.length c0, .int .i64 a1] w fun e w' => e = .returned (.bool r) ∧ Drawn0 w w' := by
 have HR0 := Aside0.mk hr0
 have HC0 := Aside0.mk hc0
 clear hr0 hc0
 have H : (spec_l4Has.l0 k l0 a1 0) = some r := h
 clear h
 have H' := Aside0.mk H
 clear H
 go_enter Try.func63, Try.ntmps63
 go_wp2
 go_loopg [5] k (fun kq v5 w' => ∃ (x5_1 : Int), v5 = .int .i64 x5_1 ∧ Aside0 (spec_l4Has.l0 kq l0 a1 x5_1 = some r) ∧ Aside0 (kq ≤ k) ∧ Drawn0 w w')
 case atStart => exact ⟨(0), (by first | rfl | (simp; done) | (simp [*]; done)), H', ⟨Nat.le_refl _⟩, by repeat (first | exact Drawn0.refl _ | apply Drawn0.step)⟩
 case round =>
  clear H'
  try clear p2
  obtain ⟨x5_1, rfl, HA, HK1, ⟨m1, rfl⟩⟩ := hrel
  cases gk with
  | zero => exact absurd HA.out (by simp [spec_l4Has.l0])
  | succ k1 =>
   have H := HA.out
   clear HA
   simp only [spec_l4Has.l0] at H
   by_cases c3 : x5_1 < (l0.length : Int)
   ·
    rw [if_pos c3] at H
    have c3b0 : decide (x5_1 < (l0.length : Int)) = true := decide_eq_true c3
    clear c3
    by_cases c4 : 0 ≤ x5_1
    ·
     rw [if_pos c4] at H
     have c4b0 : decide (0 ≤ x5_1) = true := decide_eq_true c4
     clear c4
     by_cases c5 : (rd l0 x5_1) = a1
     ·
      rw [if_pos c5] at H
      have c5b0 : ((rd l0 x5_1) == a1) = true := beq_iff_eq.mpr c5
      have c5b1 : ((rd l0 x5_1) != a1) = false := bne_eq_false_iff_eq.mpr c5
      clear c5
      obtain rfl := Option.some.inj H
      have p238 : 0 ≤ (x5_1 : Int) := of_decide_eq_true (by first | (with_reducible assumption) | assumption)
      have q238 : x5_1 < (l0.length : Int) := of_decide_eq_true (by first | (with_reducible assumption) | assumption)
      obtain ⟨ad238, e238, hx238_0⟩ := Kd.at_int HR0.out x5_1 p238 q238
      cases e238
      replace p238 := eq_true p238
      replace q238 := eq_true q238
      go_wp2
      go_ret
      exact ⟨by first | rfl | (simp; done) | (simp [*]; done), by repeat (first | exact Drawn0.refl _ | apply Drawn0.step)⟩
     ·
      rw [if_neg c5] at H
      have c5b0 : ((rd l0 x5_1) == a1) = false := beq_eq_false_iff_ne.mpr c5
      have c5b1 : ((rd l0 x5_1) != a1) = true := bne_iff_ne.mpr c5
      have H' := Aside0.mk H
      clear H
      have p238 : 0 ≤ (x5_1 : Int) := of_decide_eq_true (by first | (with_reducible assumption) | assumption)
      have q238 : x5_1 < (l0.length : Int) := of_decide_eq_true (by first | (with_reducible assumption) | assumption)
      obtain ⟨ad238, e238, hx238_0⟩ := Kd.at_int HR0.out x5_1 p238 q238
      cases e238
      replace p238 := eq_true p238
      replace q238 := eq_true q238
      go_wp2
      go_roundg k1
      case measure => have := HK1.out; omega
      case rel => exact ⟨(wrap64 (x5_1 + 1)), (by first | rfl | (simp; done) | (simp [*]; done)), H', ⟨by have := HK1.out; omega⟩, by repeat (first | exact Drawn0.refl _ | apply Drawn0.step)⟩
    ·
     rw [if_neg c4] at H
     exact absurd H (by simp)
   ·
    rw [if_neg c3] at H
    have c3b0 : decide (x5_1 < (l0.length : Int)) = false := decide_eq_false c3
    clear c3
    obtain rfl := Option.some.inj H
    go_wp2
    go_ret
    exact ⟨by first | rfl | (simp; done) | (simp [*]; done), by repeat (first | exact Drawn0.refl _ | apply Drawn0.step)⟩
end Go.Proofs.Ytiimiogpiflkdaa.A
end

section
namespace Go.Proofs.Ytiimiogpiflkdaa.A
open Go.RowKit Go.Proofs.YtiimiogpiflkdaaW.PrintWords Go.Proofs.YtiimiogpiflkdaaW.PrintLast Go.Proofs.YtiimiogpiflkdaaW.PrintMore
attribute [local go_sem] max2_int min2_int max_two min_two max_three min_three max_four min_four   -- for this text's walks alone
set_option linter.unusedVariables false
set_option linter.unusedSimpArgs false
def spec_HaveMet.f (k : Nat) (l0 : List (S61)) (a1 : Int) (a2 : Int) : Option (Bool) := (spec_FindTeam.f k l0 a1).bind fun t239 => (if t239 ≥ 0 then (if 0 ≤ t239 then (if t239 < (l0.length : Int) then ((spec_l4Has.f k ((rd_T61 l0 t239).f5) a2).bind fun t241 => (some t241)) else (none)) else (none)) else (some false))
set_option maxHeartbeats 8000000 in
set_option maxRecDepth 100000 in
theorem spec_HaveMet.calls (k : Nat) (A0 : Option Addr) (c0 : Nat) (l0 : List (S61)) (a1 : Int) (a2 : Int) (r : Bool) (w : World) (hr0 : Kd.C k61 w A0 l0.length l0) (hc0 : l0.length ≤ c0) (h : spec_HaveMet.f k l0 a1 a2 = some r) :
  Calls Try.prog 22 #[.slice A0 l0.length c0, .int .i64 a1, .int .i64 a2] w fun e w' => e = .returned (.bool r) ∧ Drawn0 w w' := by
 have HR0 := Aside0.mk hr0
 have HC0 := Aside0.mk hc0
 clear hr0 hc0
 have H : ((spec_FindTeam.f k l0 a1).bind fun t239 => (if t239 ≥ 0 then (if 0 ≤ t239 then (if t239 < (l0.length : Int) then ((spec_l4Has.f k ((rd_T61 l0 t239).f5) a2).bind fun t241 => (some t241)) else (none)) else (none)) else (some false))) = some r := h
 clear h
 replace H := Option.bind_eq_some_iff.mp H
 obtain ⟨t239, A40, H⟩ := H
 replace H : (if t239 ≥ 0 then (if 0 ≤ t239 then (if t239 < (l0.length : Int) then ((spec_l4Has.f k ((rd_T61 l0 t239).f5) a2).bind fun t241 => (some t241)) else (none)) else (none)) else (some false)) = some r := H
 have A4 := Aside0.mk A40
 clear A40
 by_cases c5 : t239 ≥ 0
 ·
  rw [if_pos c5] at H
  have c5b0 : decide (0 ≤ t239) = true := decide_eq_true c5
  clear c5
  by_cases c6 : 0 ≤ t239
  ·
   rw [if_pos c6] at H
   have c6b0 : decide (0 ≤ t239) = true := decide_eq_true c6
   clear c6
   by_cases c7 : t239 < (l0.length : Int)
   ·
    rw [if_pos c7] at H
    have c7b0 : decide (t239 < (l0.length : Int)) = true := decide_eq_true c7
    clear c7
    replace H := Option.bind_eq_some_iff.mp H
    obtain ⟨t241, A80, H⟩ := H
    replace H : (some t241) = some r := H
    have A8 := Aside0.mk A80
    clear A80
    obtain rfl := Option.some.inj H
    go_enter Try.func22, Try.ntmps22
    go_wp2_with (first | ((with_reducible refine gate_callee (f := 16) rfl ?_); refine goesL_ (some 10) rfl rfl Try.func16 (by kernel_rfl) rfl #[.slice A0 l0.length c0, .int .i64 a1] rfl (by (try simp only [List.map_toArray, List.map_cons, List.map_nil]); first | done | rfl | (simp only [List.length_drop, List.length_take]; rfl)) ?_; (with_reducible refine (spec_FindTeam.calls k _ _ l0 a1 t239 _ ?side1 ?side2 A4.out).mono ?_); (case side1 => repeat (first | exact HR0.out | (with_reducible refine Kd.C_alloc ?_ _) | (with_reducible refine Kd.C_drewN ?_ _) | (with_reducible refine Kd.C_drew ?_))); (case side2 => exact HC0.out); rintro e w' ⟨rfl, ⟨nd, rfl⟩⟩; refine ⟨_, rfl, ?_⟩; have p240 : 0 ≤ (t239 : Int) := of_decide_eq_true (by first | (with_reducible assumption) | assumption); have q240 : t239 < (l0.length : Int) := of_decide_eq_true (by first | (with_reducible assumption) | assumption); obtain ⟨ad240, A240_5, c240_5, e240, hx240_0, hx240_1, hx240_2, hx240_3, hx240_4, hx240_5, hl240_5, hi240_5⟩ := at_T61 HR0.out t239 p240 q240; cases e240; have HR240_5 := Aside0.mk hi240_5; have HC240_5 := Aside0.mk hl240_5; clear hi240_5 hl240_5; replace p240 := eq_true p240; replace q240 := eq_true q240) | (go_at_call 63; (with_reducible refine (spec_l4Has.calls k _ _ ((rd_T61 l0 t239).f5) a2 t241 _ ?side1 ?side2 A8.out).mono ?_); (case side1 => repeat (first | exact HR240_5.out | (with_reducible refine Kd.C_alloc ?_ _) | (with_reducible refine Kd.C_drewN ?_ _) | (with_reducible refine Kd.C_drew ?_))); (case side2 => exact HC240_5.out); rintro e w' ⟨rfl, ⟨nd, rfl⟩⟩))
    go_ret
    exact ⟨by first | rfl | (simp; done) | (simp [*]; done), by repeat (first | exact Drawn0.refl _ | apply Drawn0.step)⟩
   ·
    rw [if_neg c7] at H
    exact absurd H (by simp)
  ·
   rw [if_neg c6] at H
   exact absurd H (by simp)
 ·
  rw [if_neg c5] at H
  have c5b0 : decide (0 ≤ t239) = false := decide_eq_false c5
  clear c5
  obtain rfl := Option.some.inj H
  go_enter Try.func22, Try.ntmps22
  go_wp2_with (first | ((with_reducible refine gate_callee (f := 16) rfl ?_); refine goesL_ (some 10) rfl rfl Try.func16 (by kernel_rfl) rfl #[.slice A0 l0.length c0, .int .i64 a1] rfl (by (try simp only [List.map_toArray, List.map_cons, List.map_nil]); first | done | rfl | (simp only [List.length_drop, List.length_take]; rfl)) ?_; (with_reducible refine (spec_FindTeam.calls k _ _ l0 a1 t239 _ ?side1 ?side2 A4.out).mono ?_); (case side1 => repeat (first | exact HR0.out | (with_reducible refine Kd.C_alloc ?_ _) | (with_reducible refine Kd.C_drewN ?_ _) | (with_reducible refine Kd.C_drew ?_))); (case side2 => exact HC0.out); rintro e w' ⟨rfl, ⟨nd, rfl⟩⟩; refine ⟨_, rfl, ?_⟩))
  go_ret
  exact ⟨by first | rfl | (simp; done) | (simp [*]; done), by repeat (first | exact Drawn0.refl _ | apply Drawn0.step)⟩
end Go.Proofs.Ytiimiogpiflkdaa.A
end

section
namespace Go.Proofs.Ytiimiogpiflkdaa.A
open Go.RowKit Go.Proofs.YtiimiogpiflkdaaW.PrintWords Go.Proofs.YtiimiogpiflkdaaW.PrintLast Go.Proofs.YtiimiogpiflkdaaW.PrintMore
attribute [local go_sem] max2_int min2_int max_two min_two max_three min_three max_four min_four   -- for this text's walks alone
set_option linter.unusedVariables false
set_option linter.unusedSimpArgs false
def spec_MayMeet.f (k : Nat) (l0 : List (S61)) (a1 : Int) (a2 : Int) : Option (Bool) := (spec_FindTeam.f k l0 a1).bind fun t242 => ((spec_FindTeam.f k l0 a2).bind fun t243 => ((spec_AreTeams.f k l0).bind fun t244 => (if t244 = true then (if t242 ≥ 0 then (if t243 ≥ 0 then (if t242 = t243 then (some false) else (if 0 ≤ t242 then (if t242 < (l0.length : Int) then (if 0 ≤ t243 then (if t243 < (l0.length : Int) then (if ((rd_T61 l0 t242).f1) = ((rd_T61 l0 t243).f1) then (some false) else ((spec_HaveMet.f k l0 a1 a2).bind fun t247 => (some (!t247)))) else (none)) else (none)) else (none)) else (none))) else (some false)) else (some false)) else (some false))))
def spec_MayMeet.T3 : Bool × List (List Nat × List Nat) := (true, [([], []), ([0], [0]), ([1, 1], [1]), ([2], [2]), ([3, 2], [2, 3]), ([2, 4], [2, 4]), ([5, 2], [5]), ([6], [6]), ([7, 6], [6, 7]), ([6, 8], [6, 8]), ([9, 6], [9]), ([10], [10]), ([10], [10]), ([11, 12, 10], [10, 11, 12]), ([10, 13], [10, 13]), ([14, 10], [14]), ([15], [15]), ([15], [15]), ([16, 17, 15], [15, 16, 17]), ([18, 15], [15, 18]), ([19, 15], [15, 19]), ([15], [15]), ([15], [15]), ([21, 22, 15], [15, 21, 22]), ([23, 15], [15, 23]), ([24, 15], [15, 24]), ([20, 25, 15], [15, 20, 25]), ([15, 26], [15, 26]), ([27, 15], [27]), ([28], [28]), ([28], [28]), ([28], [28]), ([29, 30, 31, 28, 28], [28, 29, 30, 31]), ([32, 28], [28, 32]), ([28, 33], [28, 33]), ([34, 32, 0, 1, 2, 3, 4, 5, 6, 7, 8, 9, 10, 11, 12, 13, 14, 15, 16, 17, 18, 19, 20, 21, 22, 23, 24, 25, 26, 27, 28, 29, 30, 31, 32, 33, 34], [34])])
def spec_MayMeet.B3 : List Nat := [0, 1, 3, 7, 15, 31, 63, 127, 255, 511, 1023, 2047, 2047, 8191, 16383, 32767, 65535, 65535, 262143, 524287, 1048575, 65535, 65535, 6356991, 14745599, 31522815, 67108863, 134217727, 268435455, 536870911, 536870911, 536870911, 4294967295, 8589934591, 17179869183, 34359738367]
theorem spec_MayMeet.tab3 : rtab .any (opsOf Try.f26 3) = spec_MayMeet.T3 := by kernel_rfl
theorem spec_MayMeet.bits3 : waitsOk spec_MayMeet.T3.2 spec_MayMeet.B3 = true := by kernel_rfl
set_option maxHeartbeats 8000000 in
set_option maxRecDepth 100000 in
theorem spec_MayMeet.calls (k : Nat) (A0 : Option Addr) (c0 : Nat) (l0 : List (S61)) (a1 : Int) (a2 : Int) (r : Bool) (w : World) (hr0 : Kd.C k61 w A0 l0.length l0) (hc0 : l0.length ≤ c0) (h : spec_MayMeet.f k l0 a1 a2 = some r) :
  Calls Try.prog 26 #[.slice A0 l0.length c0, .int .i64 a1, .int .i64 a2] w fun e w' => e = .returned (.bool r) ∧ Below w.heap.size w w' := by
 have HR0 := Aside0.mk hr0
 have HC0 := Aside0.mk hc0
 clear hr0 hc0
 have HB := Aside0.mk (Below.refl w.heap.size w)
 have H : ((spec_FindTeam.f k l0 a1).bind fun t242 => ((spec_FindTeam.f k l0 a2).bind fun t243 => ((spec_AreTeams.f k l0).bind fun t244 => (if t244 = true then (if t242 ≥ 0 then (if t243 ≥ 0 then (if t242 = t243 then (some false) else (if 0 ≤ t242 then (if t242 < (l0.length : Int) then (if 0 ≤ t243 then (if t243 < (l0.length : Int) then (if ((rd_T61 l0 t242).f1) = ((rd_T61 l0 t243).f1) then (some false) else ((spec_HaveMet.f k l0 a1 a2).bind fun t247 => (some (!t247)))) else (none)) else (none)) else (none)) else (none))) else (some false)) else (some false)) else (some false))))) = some r := h
 clear h
 replace H := Option.bind_eq_some_iff.mp H
 obtain ⟨t242, A40, H⟩ := H
 replace H : ((spec_FindTeam.f k l0 a2).bind fun t243 => ((spec_AreTeams.f k l0).bind fun t244 => (if t244 = true then (if t242 ≥ 0 then (if t243 ≥ 0 then (if t242 = t243 then (some false) else (if 0 ≤ t242 then (if t242 < (l0.length : Int) then (if 0 ≤ t243 then (if t243 < (l0.length : Int) then (if ((rd_T61 l0 t242).f1) = ((rd_T61 l0 t243).f1) then (some false) else ((spec_HaveMet.f k l0 a1 a2).bind fun t247 => (some (!t247)))) else (none)) else (none)) else (none)) else (none))) else (some false)) else (some false)) else (some false)))) = some r := H
 have A4 := Aside0.mk A40
 clear A40
 replace H := Option.bind_eq_some_iff.mp H
 obtain ⟨t243, A50, H⟩ := H
 replace H : ((spec_AreTeams.f k l0).bind fun t244 => (if t244 = true then (if t242 ≥ 0 then (if t243 ≥ 0 then (if t242 = t243 then (some false) else (if 0 ≤ t242 then (if t242 < (l0.length : Int) then (if 0 ≤ t243 then (if t243 < (l0.length : Int) then (if ((rd_T61 l0 t242).f1) = ((rd_T61 l0 t243).f1) then (some false) else ((spec_HaveMet.f k l0 a1 a2).bind fun t247 => (some (!t247)))) else (none)) else (none)) else (none)) else (none))) else (some false)) else (some false)) else (some false))) = some r := H
 have A5 := Aside0.mk A50
 clear A50
 replace H := Option.bind_eq_some_iff.mp H
 obtain ⟨t244, A60, H⟩ := H
 replace H : (if t244 = true then (if t242 ≥ 0 then (if t243 ≥ 0 then (if t242 = t243 then (some false) else (if 0 ≤ t242 then (if t242 < (l0.length : Int) then (if 0 ≤ t243 then (if t243 < (l0.length : Int) then (if ((rd_T61 l0 t242).f1) = ((rd_T61 l0 t243).f1) then (some false) else ((spec_HaveMet.f k l0 a1 a2).bind fun t247 => (some (!t247)))) else (none)) else (none)) else (none)) else (none))) else (some false)) else (some false)) else (some false)) = some r := H
 have A6 := Aside0.mk A60
 clear A60
 by_cases c7 : t244 = true
 rotate_left
 ·
  replace c7 := Bool.eq_false_iff.mpr c7
  subst c7
  have H1 : (some false) = some r := by rw [if_neg (show ¬ (false = true) by decide)] at H; exact H
  clear H
  have H := H1
  clear H1
  obtain rfl := Option.some.inj H
  go_enter Try.func26, Try.ntmps26
  try go_wp2_with (first | ((with_reducible refine gate_callee (f := 16) rfl ?_); refine goesL_ (some 11) rfl rfl Try.func16 (by kernel_rfl) rfl #[.slice A0 l0.length c0, .int .i64 a1] rfl (by (try simp only [List.map_toArray, List.map_cons, List.map_nil]); first | done | rfl | (simp only [List.length_drop, List.length_take]; rfl)) ?_; (with_reducible refine (spec_FindTeam.calls k _ _ l0 a1 t242 _ ?side1 ?side2 A4.out).mono ?_); (case side1 => repeat (first | exact HR0.out | (with_reducible refine Kd.C_alloc ?_ _) | (with_reducible refine Kd.C_drewN ?_ _) | (with_reducible refine Kd.C_drew ?_))); (case side2 => exact HC0.out); rintro e w' ⟨rfl, ⟨nd, rfl⟩⟩; refine ⟨_, rfl, ?_⟩) | ((with_reducible refine gate_callee (f := 16) rfl ?_); refine goesL_ (some 14) rfl rfl Try.func16 (by kernel_rfl) rfl #[.slice A0 l0.length c0, .int .i64 a2] rfl (by (try simp only [List.map_toArray, List.map_cons, List.map_nil]); first | done | rfl | (simp only [List.length_drop, List.length_take]; rfl)) ?_; (with_reducible refine (spec_FindTeam.calls k _ _ l0 a2 t243 _ ?side1 ?side2 A5.out).mono ?_); (case side1 => repeat (first | exact HR0.out | (with_reducible refine Kd.C_alloc ?_ _) | (with_reducible refine Kd.C_drewN ?_ _) | (with_reducible refine Kd.C_drew ?_))); (case side2 => exact HC0.out); rintro e w' ⟨rfl, ⟨nd, rfl⟩⟩; refine ⟨_, rfl, ?_⟩))
  generalize hq_ : World.drewN _ _ = wq
  have n0_ : Aside0 (Below w.heap.size w wq) := ⟨by rw [← hq_]; repeat (first | exact HB.out | apply below_drew1 | apply pw_below_drewN)⟩
  clear HB hq_
  have HB := n0_
  clear n0_
  have n0_ := Aside0.mk (below_drew1 HB.out)
  clear HB
  have HB := n0_
  clear n0_
  refine start_ (n := 36) (S := fun w' => True) (ds := []) (bv 36 0) (by kernel_rfl) rfl rfl trivial (fun hHeld => ?_); refine with_tabW spec_MayMeet.tab3 spec_MayMeet.bits3 (fun HT_ HW_ => ?_)
  generalize wq.drew = w27 at HB hHeld ⊢
  refine pv_ 36 0 15 1 rfl rfl HT_ ?_
  refine one_ (i := 1) (N := some 16) (bv 36 3) rfl rfl (one_of HT_.out (by kernel_rfl)) (by decide) (fun K hK => ?_)
  refine goes_ Try.func20 (by kernel_rfl) rfl #[.slice A0 l0.length c0] (by rfl) rfl rfl (by (try simp only [List.map_toArray, List.map_cons, List.map_nil]); first | done | rfl | (simp only [List.length_drop, List.length_take]; rfl)) ?_
  with_reducible refine (spec_AreTeams.calls k _ _ l0 false _ ?side1 ?side2 A6.out).mono ?_
  (case side1 => repeat (first | exact (Kd.C_below HR0.out HB.out) | (with_reducible refine Kd.C_alloc ?_ _) | (with_reducible refine Kd.C_drewN ?_ _) | (with_reducible refine Kd.C_drew ?_)))
  (case side2 => exact HC0.out)
  rintro e w28 ⟨rfl, hb⟩
  refine ⟨_, rfl, ?_⟩
  have n0_ := Aside0.mk (below_step (by repeat (first | (with_reducible first | exact HB.out | apply below_alloc | apply pw_below_drewN | apply below_drew1) | exact HB.out)) hb)
  clear HB
  have HB := n0_
  clear n0_
  (try clear hb)
  (try clear hb2)
  (try clear hk)
  (try clear hi)
  refine hK.out _ _ trivial (fun hHeld => ?_)
  clear hK K
  refine nm_ 16 ?_
  refine pv_ 36 2 17 7 rfl rfl HT_ ?_; refine pu_ 36 3 18 15 rfl rfl HT_ ?_; refine pu_ 36 4 19 31 rfl rfl HT_ ?_; refine pv_ 36 5 20 63 rfl rfl HT_ ?_; refine pv_ 36 6 21 127 rfl rfl HT_ ?_; refine pu_ 36 7 22 255 rfl rfl HT_ ?_; refine pu_ 36 8 23 511 rfl rfl HT_ ?_; refine pv_ 36 9 24 1023 rfl rfl HT_ ?_; refine pv_ 36 10 25 2047 rfl rfl HT_ ?_; refine pu_ 36 11 26 4095 rfl rfl HT_ ?_; refine pu_ 36 12 27 8191 rfl rfl HT_ ?_; refine pu_ 36 13 28 16383 rfl rfl HT_ ?_; refine pv_ 36 14 29 32767 rfl rfl HT_ ?_; refine pv_ 36 15 30 65535 rfl rfl HT_ ?_; refine pu_ 36 16 31 131071 rfl rfl HT_ ?_; refine pu_ 36 17 32 262143 rfl rfl HT_ ?_; refine pu_ 36 18 33 524287 rfl rfl HT_ ?_; refine pu_ 36 19 34 1048575 rfl rfl HT_ ?_; refine pu_ 36 20 35 2097151 rfl rfl HT_ ?_; refine pu_ 36 21 36 4194303 rfl rfl HT_ ?_; refine pu_ 36 22 37 8388607 rfl rfl HT_ ?_; refine pu_ 36 23 38 16777215 rfl rfl HT_ ?_
  refine pu_ 36 24 39 33554431 rfl rfl HT_ ?_; refine pu_ 36 25 40 67108863 rfl rfl HT_ ?_; refine pu_ 36 26 41 134217727 rfl rfl HT_ ?_; refine pv_ 36 27 42 268435455 rfl rfl HT_ ?_; refine pv_ 36 28 43 536870911 rfl rfl HT_ ?_; refine pu_ 36 29 44 1073741823 rfl rfl HT_ ?_; refine pu_ 36 30 45 2147483647 rfl rfl HT_ ?_; refine pu_ 36 31 46 4294967295 rfl rfl HT_ ?_; refine pu_ 36 32 47 8589934591 rfl rfl HT_ ?_; refine pu_ 36 33 48 17179869183 rfl rfl HT_ ?_; refine pv_ 36 34 49 34359738367 rfl rfl HT_ ?_; refine pv_ 36 35 6 68719476735 rfl rfl HT_ ?_
  refine done_ (done_of HT_.out (by kernel_rfl)) ?_
  try go_wp2
  go_ret
  exact ⟨by first | rfl | (simp [errW_none, errW_some] <;> rfl) | (simp [*, errW_none, errW_some] <;> rfl), by repeat (first | (with_reducible first | exact HB.out | apply below_alloc | apply pw_below_drewN | apply below_drew1) | exact HB.out)⟩

 subst c7
 have H1 : (if t242 ≥ 0 then (if t243 ≥ 0 then (if t242 = t243 then (some false) else (if 0 ≤ t242 then (if t242 < (l0.length : Int) then (if 0 ≤ t243 then (if t243 < (l0.length : Int) then (if ((rd_T61 l0 t242).f1) = ((rd_T61 l0 t243).f1) then (some false) else ((spec_HaveMet.f k l0 a1 a2).bind fun t247 => (some (!t247)))) else (none)) else (none)) else (none)) else (none))) else (some false)) else (some false)) = some r := by rw [if_pos rfl] at H; exact H
 clear H
 have H := H1
 clear H1
 by_cases c8 : t242 ≥ 0
 rotate_left
 ·
  rw [if_neg c8] at H
  have c8b0 : decide (0 ≤ t242) = false := decide_eq_false c8
  clear c8
  obtain rfl := Option.some.inj H
  go_enter Try.func26, Try.ntmps26
  try go_wp2_with (first | ((with_reducible refine gate_callee (f := 16) rfl ?_); refine goesL_ (some 11) rfl rfl Try.func16 (by kernel_rfl) rfl #[.slice A0 l0.length c0, .int .i64 a1] rfl (by (try simp only [List.map_toArray, List.map_cons, List.map_nil]); first | done | rfl | (simp only [List.length_drop, List.length_take]; rfl)) ?_; (with_reducible refine (spec_FindTeam.calls k _ _ l0 a1 t242 _ ?side1 ?side2 A4.out).mono ?_); (case side1 => repeat (first | exact HR0.out | (with_reducible refine Kd.C_alloc ?_ _) | (with_reducible refine Kd.C_drewN ?_ _) | (with_reducible refine Kd.C_drew ?_))); (case side2 => exact HC0.out); rintro e w' ⟨rfl, ⟨nd, rfl⟩⟩; refine ⟨_, rfl, ?_⟩) | ((with_reducible refine gate_callee (f := 16) rfl ?_); refine goesL_ (some 14) rfl rfl Try.func16 (by kernel_rfl) rfl #[.slice A0 l0.length c0, .int .i64 a2] rfl (by (try simp only [List.map_toArray, List.map_cons, List.map_nil]); first | done | rfl | (simp only [List.length_drop, List.length_take]; rfl)) ?_; (with_reducible refine (spec_FindTeam.calls k _ _ l0 a2 t243 _ ?side1 ?side2 A5.out).mono ?_); (case side1 => repeat (first | exact HR0.out | (with_reducible refine Kd.C_alloc ?_ _) | (with_reducible refine Kd.C_drewN ?_ _) | (with_reducible refine Kd.C_drew ?_))); (case side2 => exact HC0.out); rintro e w' ⟨rfl, ⟨nd, rfl⟩⟩; refine ⟨_, rfl, ?_⟩))
  generalize hq_ : World.drewN _ _ = wq
  have n0_ : Aside0 (Below w.heap.size w wq) := ⟨by rw [← hq_]; repeat (first | exact HB.out | apply below_drew1 | apply pw_below_drewN)⟩
  clear HB hq_
  have HB := n0_
  clear n0_
  have n0_ := Aside0.mk (below_drew1 HB.out)
  clear HB
  have HB := n0_
  clear n0_
  refine start_ (n := 36) (S := fun w' => True) (ds := []) (bv 36 0) (by kernel_rfl) rfl rfl trivial (fun hHeld => ?_); refine with_tabW spec_MayMeet.tab3 spec_MayMeet.bits3 (fun HT_ HW_ => ?_)
  generalize wq.drew = w25 at HB hHeld ⊢
  refine pv_ 36 0 15 1 rfl rfl HT_ ?_
  refine one_ (i := 1) (N := some 16) (bv 36 3) rfl rfl (one_of HT_.out (by kernel_rfl)) (by decide) (fun K hK => ?_)
  refine goes_ Try.func20 (by kernel_rfl) rfl #[.slice A0 l0.length c0] (by rfl) rfl rfl (by (try simp only [List.map_toArray, List.map_cons, List.map_nil]); first | done | rfl | (simp only [List.length_drop, List.length_take]; rfl)) ?_
  with_reducible refine (spec_AreTeams.calls k _ _ l0 true _ ?side1 ?side2 A6.out).mono ?_
  (case side1 => repeat (first | exact (Kd.C_below HR0.out HB.out) | (with_reducible refine Kd.C_alloc ?_ _) | (with_reducible refine Kd.C_drewN ?_ _) | (with_reducible refine Kd.C_drew ?_)))
  (case side2 => exact HC0.out)
  rintro e w26 ⟨rfl, hb⟩
  refine ⟨_, rfl, ?_⟩
  have n0_ := Aside0.mk (below_step (by repeat (first | (with_reducible first | exact HB.out | apply below_alloc | apply pw_below_drewN | apply below_drew1) | exact HB.out)) hb)
  clear HB
  have HB := n0_
  clear n0_
  (try clear hb)
  (try clear hb2)
  (try clear hk)
  (try clear hi)
  refine hK.out _ _ trivial (fun hHeld => ?_)
  clear hK K
  refine nm_ 16 ?_
  refine pv_ 36 2 17 7 rfl rfl HT_ ?_; refine pv_ 36 3 18 15 rfl rfl HT_ ?_; refine pv_ 36 4 19 31 rfl rfl HT_ ?_; refine pv_ 36 5 20 63 rfl rfl HT_ ?_; refine pv_ 36 6 21 127 rfl rfl HT_ ?_; refine pu_ 36 7 22 255 rfl rfl HT_ ?_; refine pu_ 36 8 23 511 rfl rfl HT_ ?_; refine pv_ 36 9 24 1023 rfl rfl HT_ ?_; refine pv_ 36 10 25 2047 rfl rfl HT_ ?_; refine pu_ 36 11 26 4095 rfl rfl HT_ ?_; refine pu_ 36 12 27 8191 rfl rfl HT_ ?_; refine pu_ 36 13 28 16383 rfl rfl HT_ ?_; refine pv_ 36 14 29 32767 rfl rfl HT_ ?_; refine pv_ 36 15 30 65535 rfl rfl HT_ ?_; refine pu_ 36 16 31 131071 rfl rfl HT_ ?_; refine pu_ 36 17 32 262143 rfl rfl HT_ ?_; refine pu_ 36 18 33 524287 rfl rfl HT_ ?_; refine pu_ 36 19 34 1048575 rfl rfl HT_ ?_; refine pu_ 36 20 35 2097151 rfl rfl HT_ ?_; refine pu_ 36 21 36 4194303 rfl rfl HT_ ?_; refine pu_ 36 22 37 8388607 rfl rfl HT_ ?_; refine pu_ 36 23 38 16777215 rfl rfl HT_ ?_
  refine pu_ 36 24 39 33554431 rfl rfl HT_ ?_; refine pu_ 36 25 40 67108863 rfl rfl HT_ ?_; refine pu_ 36 26 41 134217727 rfl rfl HT_ ?_; refine pv_ 36 27 42 268435455 rfl rfl HT_ ?_; refine pv_ 36 28 43 536870911 rfl rfl HT_ ?_; refine pu_ 36 29 44 1073741823 rfl rfl HT_ ?_; refine pu_ 36 30 45 2147483647 rfl rfl HT_ ?_; refine pu_ 36 31 46 4294967295 rfl rfl HT_ ?_; refine pu_ 36 32 47 8589934591 rfl rfl HT_ ?_; refine pu_ 36 33 48 17179869183 rfl rfl HT_ ?_; refine pv_ 36 34 49 34359738367 rfl rfl HT_ ?_; refine pv_ 36 35 6 68719476735 rfl rfl HT_ ?_
  refine done_ (done_of HT_.out (by kernel_rfl)) ?_
  try go_wp2
  go_ret
  exact ⟨by first | rfl | (simp [errW_none, errW_some] <;> rfl) | (simp [*, errW_none, errW_some] <;> rfl), by repeat (first | (with_reducible first | exact HB.out | apply below_alloc | apply pw_below_drewN | apply below_drew1) | exact HB.out)⟩
 rw [if_pos c8] at H
 have c8b0 : decide (0 ≤ t242) = true := decide_eq_true c8
 clear c8
 by_cases c9 : t243 ≥ 0
 rotate_left
 ·
  rw [if_neg c9] at H
  have c9b0 : decide (0 ≤ t243) = false := decide_eq_false c9
  clear c9
  obtain rfl := Option.some.inj H
  go_enter Try.func26, Try.ntmps26
  try go_wp2_with (first | ((with_reducible refine gate_callee (f := 16) rfl ?_); refine goesL_ (some 11) rfl rfl Try.func16 (by kernel_rfl) rfl #[.slice A0 l0.length c0, .int .i64 a1] rfl (by (try simp only [List.map_toArray, List.map_cons, List.map_nil]); first | done | rfl | (simp only [List.length_drop, List.length_take]; rfl)) ?_; (with_reducible refine (spec_FindTeam.calls k _ _ l0 a1 t242 _ ?side1 ?side2 A4.out).mono ?_); (case side1 => repeat (first | exact HR0.out | (with_reducible refine Kd.C_alloc ?_ _) | (with_reducible refine Kd.C_drewN ?_ _) | (with_reducible refine Kd.C_drew ?_))); (case side2 => exact HC0.out); rintro e w' ⟨rfl, ⟨nd, rfl⟩⟩; refine ⟨_, rfl, ?_⟩) | ((with_reducible refine gate_callee (f := 16) rfl ?_); refine goesL_ (some 14) rfl rfl Try.func16 (by kernel_rfl) rfl #[.slice A0 l0.length c0, .int .i64 a2] rfl (by (try simp only [List.map_toArray, List.map_cons, List.map_nil]); first | done | rfl | (simp only [List.length_drop, List.length_take]; rfl)) ?_; (with_reducible refine (spec_FindTeam.calls k _ _ l0 a2 t243 _ ?side1 ?side2 A5.out).mono ?_); (case side1 => repeat (first | exact HR0.out | (with_reducible refine Kd.C_alloc ?_ _) | (with_reducible refine Kd.C_drewN ?_ _) | (with_reducible refine Kd.C_drew ?_))); (case side2 => exact HC0.out); rintro e w' ⟨rfl, ⟨nd, rfl⟩⟩; refine ⟨_, rfl, ?_⟩))
  generalize hq_ : World.drewN _ _ = wq
  have n0_ : Aside0 (Below w.heap.size w wq) := ⟨by rw [← hq_]; repeat (first | exact HB.out | apply below_drew1 | apply pw_below_drewN)⟩
  clear HB hq_
  have HB := n0_
  clear n0_
  have n0_ := Aside0.mk (below_drew1 HB.out)
  clear HB
  have HB := n0_
  clear n0_
  refine start_ (n := 36) (S := fun w' => True) (ds := []) (bv 36 0) (by kernel_rfl) rfl rfl trivial (fun hHeld => ?_); refine with_tabW spec_MayMeet.tab3 spec_MayMeet.bits3 (fun HT_ HW_ => ?_)
  generalize wq.drew = w23 at HB hHeld ⊢
  refine pv_ 36 0 15 1 rfl rfl HT_ ?_
  refine one_ (i := 1) (N := some 16) (bv 36 3) rfl rfl (one_of HT_.out (by kernel_rfl)) (by decide) (fun K hK => ?_)
  refine goes_ Try.func20 (by kernel_rfl) rfl #[.slice A0 l0.length c0] (by rfl) rfl rfl (by (try simp only [List.map_toArray, List.map_cons, List.map_nil]); first | done | rfl | (simp only [List.length_drop, List.length_take]; rfl)) ?_
  with_reducible refine (spec_AreTeams.calls k _ _ l0 true _ ?side1 ?side2 A6.out).mono ?_
  (case side1 => repeat (first | exact (Kd.C_below HR0.out HB.out) | (with_reducible refine Kd.C_alloc ?_ _) | (with_reducible refine Kd.C_drewN ?_ _) | (with_reducible refine Kd.C_drew ?_)))
  (case side2 => exact HC0.out)
  rintro e w24 ⟨rfl, hb⟩
  refine ⟨_, rfl, ?_⟩
  have n0_ := Aside0.mk (below_step (by repeat (first | (with_reducible first | exact HB.out | apply below_alloc | apply pw_below_drewN | apply below_drew1) | exact HB.out)) hb)
  clear HB
  have HB := n0_
  clear n0_
  (try clear hb)
  (try clear hb2)
  (try clear hk)
  (try clear hi)
  refine hK.out _ _ trivial (fun hHeld => ?_)
  clear hK K
  refine nm_ 16 ?_
  refine pv_ 36 2 17 7 rfl rfl HT_ ?_; refine pv_ 36 3 18 15 rfl rfl HT_ ?_; refine pv_ 36 4 19 31 rfl rfl HT_ ?_; refine pv_ 36 5 20 63 rfl rfl HT_ ?_; refine pv_ 36 6 21 127 rfl rfl HT_ ?_; refine pv_ 36 7 22 255 rfl rfl HT_ ?_; refine pv_ 36 8 23 511 rfl rfl HT_ ?_; refine pv_ 36 9 24 1023 rfl rfl HT_ ?_; refine pv_ 36 10 25 2047 rfl rfl HT_ ?_; refine pu_ 36 11 26 4095 rfl rfl HT_ ?_; refine pu_ 36 12 27 8191 rfl rfl HT_ ?_; refine pu_ 36 13 28 16383 rfl rfl HT_ ?_; refine pv_ 36 14 29 32767 rfl rfl HT_ ?_; refine pv_ 36 15 30 65535 rfl rfl HT_ ?_; refine pu_ 36 16 31 131071 rfl rfl HT_ ?_; refine pu_ 36 17 32 262143 rfl rfl HT_ ?_; refine pu_ 36 18 33 524287 rfl rfl HT_ ?_; refine pu_ 36 19 34 1048575 rfl rfl HT_ ?_; refine pu_ 36 20 35 2097151 rfl rfl HT_ ?_; refine pu_ 36 21 36 4194303 rfl rfl HT_ ?_; refine pu_ 36 22 37 8388607 rfl rfl HT_ ?_; refine pu_ 36 23 38 16777215 rfl rfl HT_ ?_
  refine pu_ 36 24 39 33554431 rfl rfl HT_ ?_; refine pu_ 36 25 40 67108863 rfl rfl HT_ ?_; refine pu_ 36 26 41 134217727 rfl rfl HT_ ?_; refine pv_ 36 27 42 268435455 rfl rfl HT_ ?_; refine pv_ 36 28 43 536870911 rfl rfl HT_ ?_; refine pu_ 36 29 44 1073741823 rfl rfl HT_ ?_; refine pu_ 36 30 45 2147483647 rfl rfl HT_ ?_; refine pu_ 36 31 46 4294967295 rfl rfl HT_ ?_; refine pu_ 36 32 47 8589934591 rfl rfl HT_ ?_; refine pu_ 36 33 48 17179869183 rfl rfl HT_ ?_; refine pv_ 36 34 49 34359738367 rfl rfl HT_ ?_; refine pv_ 36 35 6 68719476735 rfl rfl HT_ ?_
  refine done_ (done_of HT_.out (by kernel_rfl)) ?_
  try go_wp2
  go_ret
  exact ⟨by first | rfl | (simp [errW_none, errW_some] <;> rfl) | (simp [*, errW_none, errW_some] <;> rfl), by repeat (first | (with_reducible first | exact HB.out | apply below_alloc | apply pw_below_drewN | apply below_drew1) | exact HB.out)⟩
 rw [if_pos c9] at H
 have c9b0 : decide (0 ≤ t243) = true := decide_eq_true c9
 clear c9
 by_cases c10 : t242 = t243
 rotate_left
 ·
  rw [if_neg c10] at H
  have c10b0 : (t242 == t243) = false := beq_eq_false_iff_ne.mpr c10
  have c10b1 : (t242 != t243) = true := bne_iff_ne.mpr c10
  by_cases c13 : 0 ≤ t242
  rotate_left
  ·
   rw [if_neg c13] at H
   exact absurd H (by simp)
  rw [if_pos c13] at H
  have c13b0 : decide (0 ≤ t242) = true := decide_eq_true c13
  clear c13
  by_cases c14 : t242 < (l0.length : Int)
  rotate_left
  ·
   rw [if_neg c14] at H
   exact absurd H (by simp)
  rw [if_pos c14] at H
  have c14b0 : decide (t242 < (l0.length : Int)) = true := decide_eq_true c14
  clear c14
  by_cases c15 : 0 ≤ t243
  rotate_left
  ·
   rw [if_neg c15] at H
   exact absurd H (by simp)
  rw [if_pos c15] at H
  have c15b0 : decide (0 ≤ t243) = true := decide_eq_true c15
  clear c15
  by_cases c16 : t243 < (l0.length : Int)
  rotate_left
  ·
   rw [if_neg c16] at H
   exact absurd H (by simp)
  rw [if_pos c16] at H
  have c16b0 : decide (t243 < (l0.length : Int)) = true := decide_eq_true c16
  clear c16
  by_cases c17 : ((rd_T61 l0 t242).f1) = ((rd_T61 l0 t243).f1)
  rotate_left
  ·
   rw [if_neg c17] at H
   have c17b0 : (((rd_T61 l0 t242).f1) == ((rd_T61 l0 t243).f1)) = false := beq_eq_false_iff_ne.mpr c17
   have c17b1 : (((rd_T61 l0 t242).f1) != ((rd_T61 l0 t243).f1)) = true := bne_iff_ne.mpr c17
   replace H := Option.bind_eq_some_iff.mp H
   obtain ⟨t247, A200, H⟩ := H
   replace H : (some (!t247)) = some r := H
   have A20 := Aside0.mk A200
   clear A200
   obtain rfl := Option.some.inj H
   go_enter Try.func26, Try.ntmps26
   try go_wp2_with (first | ((with_reducible refine gate_callee (f := 16) rfl ?_); refine goesL_ (some 11) rfl rfl Try.func16 (by kernel_rfl) rfl #[.slice A0 l0.length c0, .int .i64 a1] rfl (by (try simp only [List.map_toArray, List.map_cons, List.map_nil]); first | done | rfl | (simp only [List.length_drop, List.length_take]; rfl)) ?_; (with_reducible refine (spec_FindTeam.calls k _ _ l0 a1 t242 _ ?side1 ?side2 A4.out).mono ?_); (case side1 => repeat (first | exact HR0.out | (with_reducible refine Kd.C_alloc ?_ _) | (with_reducible refine Kd.C_drewN ?_ _) | (with_reducible refine Kd.C_drew ?_))); (case side2 => exact HC0.out); rintro e w' ⟨rfl, ⟨nd, rfl⟩⟩; refine ⟨_, rfl, ?_⟩) | ((with_reducible refine gate_callee (f := 16) rfl ?_); refine goesL_ (some 14) rfl rfl Try.func16 (by kernel_rfl) rfl #[.slice A0 l0.length c0, .int .i64 a2] rfl (by (try simp only [List.map_toArray, List.map_cons, List.map_nil]); first | done | rfl | (simp only [List.length_drop, List.length_take]; rfl)) ?_; (with_reducible refine (spec_FindTeam.calls k _ _ l0 a2 t243 _ ?side1 ?side2 A5.out).mono ?_); (case side1 => repeat (first | exact HR0.out | (with_reducible refine Kd.C_alloc ?_ _) | (with_reducible refine Kd.C_drewN ?_ _) | (with_reducible refine Kd.C_drew ?_))); (case side2 => exact HC0.out); rintro e w' ⟨rfl, ⟨nd, rfl⟩⟩; refine ⟨_, rfl, ?_⟩))
   generalize hq_ : World.drewN _ _ = wq
   have n0_ : Aside0 (Below w.heap.size w wq) := ⟨by rw [← hq_]; repeat (first | exact HB.out | apply below_drew1 | apply pw_below_drewN)⟩
   clear HB hq_
   have HB := n0_
   clear n0_
   have n0_ := Aside0.mk (below_drew1 HB.out)
   clear HB
   have HB := n0_
   clear n0_
   have p245 : 0 ≤ (t242 : Int) := of_decide_eq_true (by first | (with_reducible assumption) | assumption)
   have q245 : t242 < (l0.length : Int) := of_decide_eq_true (by first | (with_reducible assumption) | assumption)
   obtain ⟨ad245, A245_5, c245_5, e245, hx245_0, hx245_1, hx245_2, hx245_3, hx245_4, hx245_5, hl245_5, hi245_5⟩ := at_T61 HR0.out t242 p245 q245
   have hw245_5 := hx245_5
   have hw245_4 := hx245_4
   have hw245_3 := hx245_3
   have hw245_2 := hx245_2
   have hw245_1 := hx245_1
   have hw245_0 := hx245_0
   cases e245
   replace hx245_0 := (HB.out.cell (World.block_lt_of_cell? w _ hx245_0)).trans hx245_0
   replace hx245_1 := (HB.out.cell (World.block_lt_of_cell? w _ hx245_1)).trans hx245_1
   replace hx245_2 := (HB.out.cell (World.block_lt_of_cell? w _ hx245_2)).trans hx245_2
   replace hx245_3 := (HB.out.cell (World.block_lt_of_cell? w _ hx245_3)).trans hx245_3
   replace hx245_4 := (HB.out.cell (World.block_lt_of_cell? w _ hx245_4)).trans hx245_4
   replace hx245_5 := (HB.out.cell (World.block_lt_of_cell? w _ hx245_5)).trans hx245_5
   have HR245_5 := Aside0.mk hi245_5
   have HC245_5 := Aside0.mk hl245_5
   clear hi245_5 hl245_5
   replace p245 := eq_true p245
   replace q245 := eq_true q245
   have p246 : 0 ≤ (t243 : Int) := of_decide_eq_true (by first | (with_reducible assumption) | assumption)
   have q246 : t243 < (l0.length : Int) := of_decide_eq_true (by first | (with_reducible assumption) | assumption)
   obtain ⟨ad246, A246_5, c246_5, e246, hx246_0, hx246_1, hx246_2, hx246_3, hx246_4, hx246_5, hl246_5, hi246_5⟩ := at_T61 HR0.out t243 p246 q246
   have hw246_5 := hx246_5
   have hw246_4 := hx246_4
   have hw246_3 := hx246_3
   have hw246_2 := hx246_2
   have hw246_1 := hx246_1
   have hw246_0 := hx246_0
   obtain rfl : ad245 = ad246 := (by injection e246)
   replace hx246_0 := (HB.out.cell (World.block_lt_of_cell? w _ hx246_0)).trans hx246_0
   replace hx246_1 := (HB.out.cell (World.block_lt_of_cell? w _ hx246_1)).trans hx246_1
   replace hx246_2 := (HB.out.cell (World.block_lt_of_cell? w _ hx246_2)).trans hx246_2
   replace hx246_3 := (HB.out.cell (World.block_lt_of_cell? w _ hx246_3)).trans hx246_3
   replace hx246_4 := (HB.out.cell (World.block_lt_of_cell? w _ hx246_4)).trans hx246_4
   replace hx246_5 := (HB.out.cell (World.block_lt_of_cell? w _ hx246_5)).trans hx246_5
   have HR246_5 := Aside0.mk hi246_5
   have HC246_5 := Aside0.mk hl246_5
   clear hi246_5 hl246_5
   replace p246 := eq_true p246
   replace q246 := eq_true q246
   refine start_ (n := 36) (S := fun w' => w'.cell? (ad245.add ((t242).toNat * 6)) = some (.int .i64 ((rd_T61 l0 t242).f0)) ∧ w'.cell? ⟨(ad245.add ((t242).toNat * 6)).block, (ad245.add ((t242).toNat * 6)).off + 1, none⟩ = some (.int .i64 ((rd_T61 l0 t242).f1)) ∧ w'.cell? ⟨(ad245.add ((t242).toNat * 6)).block, (ad245.add ((t242).toNat * 6)).off + 2, none⟩ = some (.int .i64 ((rd_T61 l0 t242).f2)) ∧ w'.cell? ⟨(ad245.add ((t242).toNat * 6)).block, (ad245.add ((t242).toNat * 6)).off + 3, none⟩ = some (.int .i64 ((rd_T61 l0 t242).f3)) ∧ w'.cell? ⟨(ad245.add ((t242).toNat * 6)).block, (ad245.add ((t242).toNat * 6)).off + 4, none⟩ = some (.int .i64 ((rd_T61 l0 t242).f4)) ∧ w'.cell? ⟨(ad245.add ((t242).toNat * 6)).block, (ad245.add ((t242).toNat * 6)).off + 5, none⟩ = some (.slice A245_5 ((rd_T61 l0 t242).f5).length c245_5) ∧ w'.cell? (ad245.add ((t243).toNat * 6)) = some (.int .i64 ((rd_T61 l0 t243).f0)) ∧ w'.cell? ⟨(ad245.add ((t243).toNat * 6)).block, (ad245.add ((t243).toNat * 6)).off + 1, none⟩ = some (.int .i64 ((rd_T61 l0 t243).f1)) ∧ w'.cell? ⟨(ad245.add ((t243).toNat * 6)).block, (ad245.add ((t243).toNat * 6)).off + 2, none⟩ = some (.int .i64 ((rd_T61 l0 t243).f2)) ∧ w'.cell? ⟨(ad245.add ((t243).toNat * 6)).block, (ad245.add ((t243).toNat * 6)).off + 3, none⟩ = some (.int .i64 ((rd_T61 l0 t243).f3)) ∧ w'.cell? ⟨(ad245.add ((t243).toNat * 6)).block, (ad245.add ((t243).toNat * 6)).off + 4, none⟩ = some (.int .i64 ((rd_T61 l0 t243).f4)) ∧ w'.cell? ⟨(ad245.add ((t243).toNat * 6)).block, (ad245.add ((t243).toNat * 6)).off + 5, none⟩ = some (.slice A246_5 ((rd_T61 l0 t243).f5).length c246_5)) (ds := []) (bv 36 0) (by kernel_rfl) rfl rfl ⟨((HB.out.cell (World.block_lt_of_cell? w _ hw245_0)).trans hw245_0), ((HB.out.cell (World.block_lt_of_cell? w _ hw245_1)).trans hw245_1), ((HB.out.cell (World.block_lt_of_cell? w _ hw245_2)).trans hw245_2), ((HB.out.cell (World.block_lt_of_cell? w _ hw245_3)).trans hw245_3), ((HB.out.cell (World.block_lt_of_cell? w _ hw245_4)).trans hw245_4), ((HB.out.cell (World.block_lt_of_cell? w _ hw245_5)).trans hw245_5), ((HB.out.cell (World.block_lt_of_cell? w _ hw246_0)).trans hw246_0), ((HB.out.cell (World.block_lt_of_cell? w _ hw246_1)).trans hw246_1), ((HB.out.cell (World.block_lt_of_cell? w _ hw246_2)).trans hw246_2), ((HB.out.cell (World.block_lt_of_cell? w _ hw246_3)).trans hw246_3), ((HB.out.cell (World.block_lt_of_cell? w _ hw246_4)).trans hw246_4), ((HB.out.cell (World.block_lt_of_cell? w _ hw246_5)).trans hw246_5)⟩ (fun hHeld => ?_); refine with_tabW spec_MayMeet.tab3 spec_MayMeet.bits3 (fun HT_ HW_ => ?_)
   generalize wq.drew = w21 at HB HR245_5 HR246_5 hx245_0 hx245_1 hx245_2 hx245_3 hx245_4 hx245_5 hx246_0 hx246_1 hx246_2 hx246_3 hx246_4 hx246_5 hHeld ⊢
   refine pv_ 36 0 15 1 rfl rfl HT_ ?_
   refine one_ (i := 1) (N := some 16) (bv 36 3) rfl rfl (one_of HT_.out (by kernel_rfl)) (by decide) (fun K hK => ?_)
   refine goes_ Try.func20 (by kernel_rfl) rfl #[.slice (some ad245) l0.length c0] (by rfl) rfl rfl (by (try simp only [List.map_toArray, List.map_cons, List.map_nil]); first | done | rfl | (simp only [List.length_drop, List.length_take]; rfl)) ?_
   with_reducible refine (spec_AreTeams.calls k _ _ l0 true _ ?side1 ?side2 A6.out).mono ?_
   (case side1 => repeat (first | exact (Kd.C_below HR0.out HB.out) | (with_reducible refine Kd.C_alloc ?_ _) | (with_reducible refine Kd.C_drewN ?_ _) | (with_reducible refine Kd.C_drew ?_)))
   (case side2 => exact HC0.out)
   rintro e w22 ⟨rfl, hb⟩
   refine ⟨_, rfl, ?_⟩
   have n0_ := Aside0.mk (below_step (by repeat (first | (with_reducible first | exact HB.out | apply below_alloc | apply pw_below_drewN | apply below_drew1) | exact HB.out)) hb)
   clear HB
   have HB := n0_
   clear n0_
   (try clear hb)
   (try clear hb2)
   (try clear hk)
   (try clear hi)
   refine hK.out _ _ ⟨((HB.out.cell (World.block_lt_of_cell? w _ hw245_0)).trans hw245_0), ((HB.out.cell (World.block_lt_of_cell? w _ hw245_1)).trans hw245_1), ((HB.out.cell (World.block_lt_of_cell? w _ hw245_2)).trans hw245_2), ((HB.out.cell (World.block_lt_of_cell? w _ hw245_3)).trans hw245_3), ((HB.out.cell (World.block_lt_of_cell? w _ hw245_4)).trans hw245_4), ((HB.out.cell (World.block_lt_of_cell? w _ hw245_5)).trans hw245_5), ((HB.out.cell (World.block_lt_of_cell? w _ hw246_0)).trans hw246_0), ((HB.out.cell (World.block_lt_of_cell? w _ hw246_1)).trans hw246_1), ((HB.out.cell (World.block_lt_of_cell? w _ hw246_2)).trans hw246_2), ((HB.out.cell (World.block_lt_of_cell? w _ hw246_3)).trans hw246_3), ((HB.out.cell (World.block_lt_of_cell? w _ hw246_4)).trans hw246_4), ((HB.out.cell (World.block_lt_of_cell? w _ hw246_5)).trans hw246_5)⟩ (fun hHeld => ?_)
   clear hK K
   refine nm_ 16 ?_
   refine pv_ 36 2 17 7 rfl rfl HT_ ?_; refine pv_ 36 3 18 15 rfl rfl HT_ ?_; refine pv_ 36 4 19 31 rfl rfl HT_ ?_; refine pv_ 36 5 20 63 rfl rfl HT_ ?_; refine pv_ 36 6 21 127 rfl rfl HT_ ?_; refine pv_ 36 7 22 255 rfl rfl HT_ ?_; refine pv_ 36 8 23 511 rfl rfl HT_ ?_; refine pv_ 36 9 24 1023 rfl rfl HT_ ?_; refine pv_ 36 10 25 2047 rfl rfl HT_ ?_; refine pv_ 36 11 26 4095 rfl rfl HT_ ?_; refine pv_ 36 12 27 8191 rfl rfl HT_ ?_; refine pv_ 36 13 28 16383 rfl rfl HT_ ?_; refine pv_ 36 14 29 32767 rfl rfl HT_ ?_; refine pv_ 36 15 30 65535 rfl rfl HT_ ?_; refine pv_ 36 16 31 131071 rfl rfl HT_ ?_; refine pv_ 36 17 32 262143 rfl rfl HT_ ?_; refine pv_ 36 18 33 524287 rfl rfl HT_ ?_; refine pv_ 36 19 34 1048575 rfl rfl HT_ ?_; refine pv_ 36 21 36 3145727 rfl rfl HT_ ?_; refine pv_ 36 22 37 7340031 rfl rfl HT_ ?_; refine pv_ 36 23 38 15728639 rfl rfl HT_ ?_; refine pv_ 36 24 39 32505855 rfl rfl HT_ ?_
   refine tv_ 36 20 35 33554431 rfl rfl HT_ HW_ hHeld (by rintro w' ⟨s0, s1, s2, s3, s4, s5, s6, s7, s8, s9, s10, s11⟩; go_simp; with_reducible rfl) ?_
   refine tv_ 36 25 40 67108863 rfl rfl HT_ HW_ hHeld (by rintro w' ⟨s0, s1, s2, s3, s4, s5, s6, s7, s8, s9, s10, s11⟩; go_simp; with_reducible rfl) ?_
   refine pv_ 36 26 41 134217727 rfl rfl HT_ ?_; refine pv_ 36 27 42 268435455 rfl rfl HT_ ?_; refine pv_ 36 28 43 536870911 rfl rfl HT_ ?_; refine pv_ 36 29 44 1073741823 rfl rfl HT_ ?_; refine pv_ 36 30 45 2147483647 rfl rfl HT_ ?_; refine pv_ 36 31 46 4294967295 rfl rfl HT_ ?_
   refine one_ (i := 32) (N := some 47) (bv 36 8589934591) rfl rfl (one_of HT_.out (by kernel_rfl)) (by decide) (fun K hK => ?_)
   refine goes_ Try.func22 (by kernel_rfl) rfl #[.slice (some ad245) l0.length c0, .int .i64 a1, .int .i64 a2] (by rfl) rfl rfl (by (try simp only [List.map_toArray, List.map_cons, List.map_nil]); first | done | rfl | (simp only [List.length_drop, List.length_take]; rfl)) ?_
   with_reducible refine (spec_HaveMet.calls k _ _ l0 a1 a2 t247 _ ?side1 ?side2 A20.out).mono ?_
   (case side1 => repeat (first | exact (Kd.C_below HR0.out HB.out) | (with_reducible refine Kd.C_alloc ?_ _) | (with_reducible refine Kd.C_drewN ?_ _) | (with_reducible refine Kd.C_drew ?_)))
   (case side2 => exact HC0.out)
   rintro e w' ⟨rfl, ⟨nd, rfl⟩⟩
   refine ⟨_, rfl, ?_⟩
   refine hK.out _ _ ⟨((HB.out.cell (World.block_lt_of_cell? w _ hw245_0)).trans hw245_0), ((HB.out.cell (World.block_lt_of_cell? w _ hw245_1)).trans hw245_1), ((HB.out.cell (World.block_lt_of_cell? w _ hw245_2)).trans hw245_2), ((HB.out.cell (World.block_lt_of_cell? w _ hw245_3)).trans hw245_3), ((HB.out.cell (World.block_lt_of_cell? w _ hw245_4)).trans hw245_4), ((HB.out.cell (World.block_lt_of_cell? w _ hw245_5)).trans hw245_5), ((HB.out.cell (World.block_lt_of_cell? w _ hw246_0)).trans hw246_0), ((HB.out.cell (World.block_lt_of_cell? w _ hw246_1)).trans hw246_1), ((HB.out.cell (World.block_lt_of_cell? w _ hw246_2)).trans hw246_2), ((HB.out.cell (World.block_lt_of_cell? w _ hw246_3)).trans hw246_3), ((HB.out.cell (World.block_lt_of_cell? w _ hw246_4)).trans hw246_4), ((HB.out.cell (World.block_lt_of_cell? w _ hw246_5)).trans hw246_5)⟩ (fun hHeld => ?_)
   clear hK K
   refine nm_ 47 ?_
   refine pv_ 36 33 48 17179869183 rfl rfl HT_ ?_; refine pv_ 36 34 49 34359738367 rfl rfl HT_ ?_; refine pv_ 36 35 6 68719476735 rfl rfl HT_ ?_
   refine done_ (done_of HT_.out (by kernel_rfl)) ?_
   try go_wp2
   go_ret
   exact ⟨by first | rfl | (simp [errW_none, errW_some] <;> rfl) | (simp [*, errW_none, errW_some] <;> rfl), by repeat (first | (with_reducible first | exact HB.out | apply below_alloc | apply pw_below_drewN | apply below_drew1) | exact HB.out)⟩
  rw [if_pos c17] at H
  have c17b0 : (((rd_T61 l0 t242).f1) == ((rd_T61 l0 t243).f1)) = true := beq_iff_eq.mpr c17
  have c17b1 : (((rd_T61 l0 t242).f1) != ((rd_T61 l0 t243).f1)) = false := bne_eq_false_iff_eq.mpr c17
  clear c17
  obtain rfl := Option.some.inj H
  go_enter Try.func26, Try.ntmps26
  try go_wp2_with (first | ((with_reducible refine gate_callee (f := 16) rfl ?_); refine goesL_ (some 11) rfl rfl Try.func16 (by kernel_rfl) rfl #[.slice A0 l0.length c0, .int .i64 a1] rfl (by (try simp only [List.map_toArray, List.map_cons, List.map_nil]); first | done | rfl | (simp only [List.length_drop, List.length_take]; rfl)) ?_; (with_reducible refine (spec_FindTeam.calls k _ _ l0 a1 t242 _ ?side1 ?side2 A4.out).mono ?_); (case side1 => repeat (first | exact HR0.out | (with_reducible refine Kd.C_alloc ?_ _) | (with_reducible refine Kd.C_drewN ?_ _) | (with_reducible refine Kd.C_drew ?_))); (case side2 => exact HC0.out); rintro e w' ⟨rfl, ⟨nd, rfl⟩⟩; refine ⟨_, rfl, ?_⟩) | ((with_reducible refine gate_callee (f := 16) rfl ?_); refine goesL_ (some 14) rfl rfl Try.func16 (by kernel_rfl) rfl #[.slice A0 l0.length c0, .int .i64 a2] rfl (by (try simp only [List.map_toArray, List.map_cons, List.map_nil]); first | done | rfl | (simp only [List.length_drop, List.length_take]; rfl)) ?_; (with_reducible refine (spec_FindTeam.calls k _ _ l0 a2 t243 _ ?side1 ?side2 A5.out).mono ?_); (case side1 => repeat (first | exact HR0.out | (with_reducible refine Kd.C_alloc ?_ _) | (with_reducible refine Kd.C_drewN ?_ _) | (with_reducible refine Kd.C_drew ?_))); (case side2 => exact HC0.out); rintro e w' ⟨rfl, ⟨nd, rfl⟩⟩; refine ⟨_, rfl, ?_⟩))
  generalize hq_ : World.drewN _ _ = wq
  have n0_ : Aside0 (Below w.heap.size w wq) := ⟨by rw [← hq_]; repeat (first | exact HB.out | apply below_drew1 | apply pw_below_drewN)⟩
  clear HB hq_
  have HB := n0_
  clear n0_
  have n0_ := Aside0.mk (below_drew1 HB.out)
  clear HB
  have HB := n0_
  clear n0_
  have p245 : 0 ≤ (t242 : Int) := of_decide_eq_true (by first | (with_reducible assumption) | assumption)
  have q245 : t242 < (l0.length : Int) := of_decide_eq_true (by first | (with_reducible assumption) | assumption)
  obtain ⟨ad245, A245_5, c245_5, e245, hx245_0, hx245_1, hx245_2, hx245_3, hx245_4, hx245_5, hl245_5, hi245_5⟩ := at_T61 HR0.out t242 p245 q245
  have hw245_5 := hx245_5
  have hw245_4 := hx245_4
  have hw245_3 := hx245_3
  have hw245_2 := hx245_2
  have hw245_1 := hx245_1
  have hw245_0 := hx245_0
  cases e245
  replace hx245_0 := (HB.out.cell (World.block_lt_of_cell? w _ hx245_0)).trans hx245_0
  replace hx245_1 := (HB.out.cell (World.block_lt_of_cell? w _ hx245_1)).trans hx245_1
  replace hx245_2 := (HB.out.cell (World.block_lt_of_cell? w _ hx245_2)).trans hx245_2
  replace hx245_3 := (HB.out.cell (World.block_lt_of_cell? w _ hx245_3)).trans hx245_3
  replace hx245_4 := (HB.out.cell (World.block_lt_of_cell? w _ hx245_4)).trans hx245_4
  replace hx245_5 := (HB.out.cell (World.block_lt_of_cell? w _ hx245_5)).trans hx245_5
  have HR245_5 := Aside0.mk hi245_5
  have HC245_5 := Aside0.mk hl245_5
  clear hi245_5 hl245_5
  replace p245 := eq_true p245
  replace q245 := eq_true q245
  have p246 : 0 ≤ (t243 : Int) := of_decide_eq_true (by first | (with_reducible assumption) | assumption)
  have q246 : t243 < (l0.length : Int) := of_decide_eq_true (by first | (with_reducible assumption) | assumption)
  obtain ⟨ad246, A246_5, c246_5, e246, hx246_0, hx246_1, hx246_2, hx246_3, hx246_4, hx246_5, hl246_5, hi246_5⟩ := at_T61 HR0.out t243 p246 q246
  have hw246_5 := hx246_5
  have hw246_4 := hx246_4
  have hw246_3 := hx246_3
  have hw246_2 := hx246_2
  have hw246_1 := hx246_1
  have hw246_0 := hx246_0
  obtain rfl : ad245 = ad246 := (by injection e246)
  replace hx246_0 := (HB.out.cell (World.block_lt_of_cell? w _ hx246_0)).trans hx246_0
  replace hx246_1 := (HB.out.cell (World.block_lt_of_cell? w _ hx246_1)).trans hx246_1
  replace hx246_2 := (HB.out.cell (World.block_lt_of_cell? w _ hx246_2)).trans hx246_2
  replace hx246_3 := (HB.out.cell (World.block_lt_of_cell? w _ hx246_3)).trans hx246_3
  replace hx246_4 := (HB.out.cell (World.block_lt_of_cell? w _ hx246_4)).trans hx246_4
  replace hx246_5 := (HB.out.cell (World.block_lt_of_cell? w _ hx246_5)).trans hx246_5
  have HR246_5 := Aside0.mk hi246_5
  have HC246_5 := Aside0.mk hl246_5
  clear hi246_5 hl246_5
  replace p246 := eq_true p246
  replace q246 := eq_true q246
  refine start_ (n := 36) (S := fun w' => w'.cell? (ad245.add ((t242).toNat * 6)) = some (.int .i64 ((rd_T61 l0 t242).f0)) ∧ w'.cell? ⟨(ad245.add ((t242).toNat * 6)).block, (ad245.add ((t242).toNat * 6)).off + 1, none⟩ = some (.int .i64 ((rd_T61 l0 t242).f1)) ∧ w'.cell? ⟨(ad245.add ((t242).toNat * 6)).block, (ad245.add ((t242).toNat * 6)).off + 2, none⟩ = some (.int .i64 ((rd_T61 l0 t242).f2)) ∧ w'.cell? ⟨(ad245.add ((t242).toNat * 6)).block, (ad245.add ((t242).toNat * 6)).off + 3, none⟩ = some (.int .i64 ((rd_T61 l0 t242).f3)) ∧ w'.cell? ⟨(ad245.add ((t242).toNat * 6)).block, (ad245.add ((t242).toNat * 6)).off + 4, none⟩ = some (.int .i64 ((rd_T61 l0 t242).f4)) ∧ w'.cell? ⟨(ad245.add ((t242).toNat * 6)).block, (ad245.add ((t242).toNat * 6)).off + 5, none⟩ = some (.slice A245_5 ((rd_T61 l0 t242).f5).length c245_5) ∧ w'.cell? (ad245.add ((t243).toNat * 6)) = some (.int .i64 ((rd_T61 l0 t243).f0)) ∧ w'.cell? ⟨(ad245.add ((t243).toNat * 6)).block, (ad245.add ((t243).toNat * 6)).off + 1, none⟩ = some (.int .i64 ((rd_T61 l0 t243).f1)) ∧ w'.cell? ⟨(ad245.add ((t243).toNat * 6)).block, (ad245.add ((t243).toNat * 6)).off + 2, none⟩ = some (.int .i64 ((rd_T61 l0 t243).f2)) ∧ w'.cell? ⟨(ad245.add ((t243).toNat * 6)).block, (ad245.add ((t243).toNat * 6)).off + 3, none⟩ = some (.int .i64 ((rd_T61 l0 t243).f3)) ∧ w'.cell? ⟨(ad245.add ((t243).toNat * 6)).block, (ad245.add ((t243).toNat * 6)).off + 4, none⟩ = some (.int .i64 ((rd_T61 l0 t243).f4)) ∧ w'.cell? ⟨(ad245.add ((t243).toNat * 6)).block, (ad245.add ((t243).toNat * 6)).off + 5, none⟩ = some (.slice A246_5 ((rd_T61 l0 t243).f5).length c246_5)) (ds := []) (bv 36 0) (by kernel_rfl) rfl rfl ⟨((HB.out.cell (World.block_lt_of_cell? w _ hw245_0)).trans hw245_0), ((HB.out.cell (World.block_lt_of_cell? w _ hw245_1)).trans hw245_1), ((HB.out.cell (World.block_lt_of_cell? w _ hw245_2)).trans hw245_2), ((HB.out.cell (World.block_lt_of_cell? w _ hw245_3)).trans hw245_3), ((HB.out.cell (World.block_lt_of_cell? w _ hw245_4)).trans hw245_4), ((HB.out.cell (World.block_lt_of_cell? w _ hw245_5)).trans hw245_5), ((HB.out.cell (World.block_lt_of_cell? w _ hw246_0)).trans hw246_0), ((HB.out.cell (World.block_lt_of_cell? w _ hw246_1)).trans hw246_1), ((HB.out.cell (World.block_lt_of_cell? w _ hw246_2)).trans hw246_2), ((HB.out.cell (World.block_lt_of_cell? w _ hw246_3)).trans hw246_3), ((HB.out.cell (World.block_lt_of_cell? w _ hw246_4)).trans hw246_4), ((HB.out.cell (World.block_lt_of_cell? w _ hw246_5)).trans hw246_5)⟩ (fun hHeld => ?_); refine with_tabW spec_MayMeet.tab3 spec_MayMeet.bits3 (fun HT_ HW_ => ?_)
  generalize wq.drew = w18 at HB HR245_5 HR246_5 hx245_0 hx245_1 hx245_2 hx245_3 hx245_4 hx245_5 hx246_0 hx246_1 hx246_2 hx246_3 hx246_4 hx246_5 hHeld ⊢
  refine pv_ 36 0 15 1 rfl rfl HT_ ?_
  refine one_ (i := 1) (N := some 16) (bv 36 3) rfl rfl (one_of HT_.out (by kernel_rfl)) (by decide) (fun K hK => ?_)
  refine goes_ Try.func20 (by kernel_rfl) rfl #[.slice (some ad245) l0.length c0] (by rfl) rfl rfl (by (try simp only [List.map_toArray, List.map_cons, List.map_nil]); first | done | rfl | (simp only [List.length_drop, List.length_take]; rfl)) ?_
  with_reducible refine (spec_AreTeams.calls k _ _ l0 true _ ?side1 ?side2 A6.out).mono ?_
  (case side1 => repeat (first | exact (Kd.C_below HR0.out HB.out) | (with_reducible refine Kd.C_alloc ?_ _) | (with_reducible refine Kd.C_drewN ?_ _) | (with_reducible refine Kd.C_drew ?_)))
  (case side2 => exact HC0.out)
  rintro e w19 ⟨rfl, hb⟩
  refine ⟨_, rfl, ?_⟩
  have n0_ := Aside0.mk (below_step (by repeat (first | (with_reducible first | exact HB.out | apply below_alloc | apply pw_below_drewN | apply below_drew1) | exact HB.out)) hb)
  clear HB
  have HB := n0_
  clear n0_
  (try clear hb)
  (try clear hb2)
  (try clear hk)
  (try clear hi)
  refine hK.out _ _ ⟨((HB.out.cell (World.block_lt_of_cell? w _ hw245_0)).trans hw245_0), ((HB.out.cell (World.block_lt_of_cell? w _ hw245_1)).trans hw245_1), ((HB.out.cell (World.block_lt_of_cell? w _ hw245_2)).trans hw245_2), ((HB.out.cell (World.block_lt_of_cell? w _ hw245_3)).trans hw245_3), ((HB.out.cell (World.block_lt_of_cell? w _ hw245_4)).trans hw245_4), ((HB.out.cell (World.block_lt_of_cell? w _ hw245_5)).trans hw245_5), ((HB.out.cell (World.block_lt_of_cell? w _ hw246_0)).trans hw246_0), ((HB.out.cell (World.block_lt_of_cell? w _ hw246_1)).trans hw246_1), ((HB.out.cell (World.block_lt_of_cell? w _ hw246_2)).trans hw246_2), ((HB.out.cell (World.block_lt_of_cell? w _ hw246_3)).trans hw246_3), ((HB.out.cell (World.block_lt_of_cell? w _ hw246_4)).trans hw246_4), ((HB.out.cell (World.block_lt_of_cell? w _ hw246_5)).trans hw246_5)⟩ (fun hHeld => ?_)
  clear hK K
  refine nm_ 16 ?_
  refine pv_ 36 2 17 7 rfl rfl HT_ ?_; refine pv_ 36 3 18 15 rfl rfl HT_ ?_; refine pv_ 36 4 19 31 rfl rfl HT_ ?_; refine pv_ 36 5 20 63 rfl rfl HT_ ?_; refine pv_ 36 6 21 127 rfl rfl HT_ ?_; refine pv_ 36 7 22 255 rfl rfl HT_ ?_; refine pv_ 36 8 23 511 rfl rfl HT_ ?_; refine pv_ 36 9 24 1023 rfl rfl HT_ ?_; refine pv_ 36 10 25 2047 rfl rfl HT_ ?_; refine pv_ 36 11 26 4095 rfl rfl HT_ ?_; refine pv_ 36 12 27 8191 rfl rfl HT_ ?_; refine pv_ 36 13 28 16383 rfl rfl HT_ ?_; refine pv_ 36 14 29 32767 rfl rfl HT_ ?_; refine pv_ 36 15 30 65535 rfl rfl HT_ ?_; refine pv_ 36 16 31 131071 rfl rfl HT_ ?_; refine pv_ 36 17 32 262143 rfl rfl HT_ ?_; refine pv_ 36 18 33 524287 rfl rfl HT_ ?_; refine pv_ 36 19 34 1048575 rfl rfl HT_ ?_; refine pv_ 36 21 36 3145727 rfl rfl HT_ ?_; refine pv_ 36 22 37 7340031 rfl rfl HT_ ?_; refine pv_ 36 23 38 15728639 rfl rfl HT_ ?_; refine pv_ 36 24 39 32505855 rfl rfl HT_ ?_
  refine tv_ 36 20 35 33554431 rfl rfl HT_ HW_ hHeld (by rintro w' ⟨s0, s1, s2, s3, s4, s5, s6, s7, s8, s9, s10, s11⟩; go_simp; with_reducible rfl) ?_
  refine tv_ 36 25 40 67108863 rfl rfl HT_ HW_ hHeld (by rintro w' ⟨s0, s1, s2, s3, s4, s5, s6, s7, s8, s9, s10, s11⟩; go_simp; with_reducible rfl) ?_
  refine pv_ 36 26 41 134217727 rfl rfl HT_ ?_; refine pv_ 36 27 42 268435455 rfl rfl HT_ ?_; refine pv_ 36 28 43 536870911 rfl rfl HT_ ?_; refine pu_ 36 29 44 1073741823 rfl rfl HT_ ?_; refine pu_ 36 30 45 2147483647 rfl rfl HT_ ?_; refine pu_ 36 31 46 4294967295 rfl rfl HT_ ?_; refine pu_ 36 32 47 8589934591 rfl rfl HT_ ?_; refine pu_ 36 33 48 17179869183 rfl rfl HT_ ?_; refine pv_ 36 34 49 34359738367 rfl rfl HT_ ?_; refine pv_ 36 35 6 68719476735 rfl rfl HT_ ?_
  refine done_ (done_of HT_.out (by kernel_rfl)) ?_
  try go_wp2
  go_ret
  exact ⟨by first | rfl | (simp [errW_none, errW_some] <;> rfl) | (simp [*, errW_none, errW_some] <;> rfl), by repeat (first | (with_reducible first | exact HB.out | apply below_alloc | apply pw_below_drewN | apply below_drew1) | exact HB.out)⟩
 rw [if_pos c10] at H
 have c10b0 : (t242 == t243) = true := beq_iff_eq.mpr c10
 have c10b1 : (t242 != t243) = false := bne_eq_false_iff_eq.mpr c10
 clear c10
 obtain rfl := Option.some.inj H
 go_enter Try.func26, Try.ntmps26
 try go_wp2_with (first | ((with_reducible refine gate_callee (f := 16) rfl ?_); refine goesL_ (some 11) rfl rfl Try.func16 (by kernel_rfl) rfl #[.slice A0 l0.length c0, .int .i64 a1] rfl (by (try simp only [List.map_toArray, List.map_cons, List.map_nil]); first | done | rfl | (simp only [List.length_drop, List.length_take]; rfl)) ?_; (with_reducible refine (spec_FindTeam.calls k _ _ l0 a1 t242 _ ?side1 ?side2 A4.out).mono ?_); (case side1 => repeat (first | exact HR0.out | (with_reducible refine Kd.C_alloc ?_ _) | (with_reducible refine Kd.C_drewN ?_ _) | (with_reducible refine Kd.C_drew ?_))); (case side2 => exact HC0.out); rintro e w' ⟨rfl, ⟨nd, rfl⟩⟩; refine ⟨_, rfl, ?_⟩) | ((with_reducible refine gate_callee (f := 16) rfl ?_); refine goesL_ (some 14) rfl rfl Try.func16 (by kernel_rfl) rfl #[.slice A0 l0.length c0, .int .i64 a2] rfl (by (try simp only [List.map_toArray, List.map_cons, List.map_nil]); first | done | rfl | (simp only [List.length_drop, List.length_take]; rfl)) ?_; (with_reducible refine (spec_FindTeam.calls k _ _ l0 a2 t243 _ ?side1 ?side2 A5.out).mono ?_); (case side1 => repeat (first | exact HR0.out | (with_reducible refine Kd.C_alloc ?_ _) | (with_reducible refine Kd.C_drewN ?_ _) | (with_reducible refine Kd.C_drew ?_))); (case side2 => exact HC0.out); rintro e w' ⟨rfl, ⟨nd, rfl⟩⟩; refine ⟨_, rfl, ?_⟩))
 generalize hq_ : World.drewN _ _ = wq
 have n0_ : Aside0 (Below w.heap.size w wq) := ⟨by rw [← hq_]; repeat (first | exact HB.out | apply below_drew1 | apply pw_below_drewN)⟩
 clear HB hq_
 have HB := n0_
 clear n0_
 have n0_ := Aside0.mk (below_drew1 HB.out)
 clear HB
 have HB := n0_
 clear n0_
 refine start_ (n := 36) (S := fun w' => True) (ds := []) (bv 36 0) (by kernel_rfl) rfl rfl trivial (fun hHeld => ?_); refine with_tabW spec_MayMeet.tab3 spec_MayMeet.bits3 (fun HT_ HW_ => ?_)
 generalize wq.drew = w11 at HB hHeld ⊢
 refine pv_ 36 0 15 1 rfl rfl HT_ ?_
 refine one_ (i := 1) (N := some 16) (bv 36 3) rfl rfl (one_of HT_.out (by kernel_rfl)) (by decide) (fun K hK => ?_)
 refine goes_ Try.func20 (by kernel_rfl) rfl #[.slice A0 l0.length c0] (by rfl) rfl rfl (by (try simp only [List.map_toArray, List.map_cons, List.map_nil]); first | done | rfl | (simp only [List.length_drop, List.length_take]; rfl)) ?_
 with_reducible refine (spec_AreTeams.calls k _ _ l0 true _ ?side1 ?side2 A6.out).mono ?_
 (case side1 => repeat (first | exact (Kd.C_below HR0.out HB.out) | (with_reducible refine Kd.C_alloc ?_ _) | (with_reducible refine Kd.C_drewN ?_ _) | (with_reducible refine Kd.C_drew ?_)))
 (case side2 => exact HC0.out)
 rintro e w12 ⟨rfl, hb⟩
 refine ⟨_, rfl, ?_⟩
 have n0_ := Aside0.mk (below_step (by repeat (first | (with_reducible first | exact HB.out | apply below_alloc | apply pw_below_drewN | apply below_drew1) | exact HB.out)) hb)
 clear HB
 have HB := n0_
 clear n0_
 (try clear hb)
 (try clear hb2)
 (try clear hk)
 (try clear hi)
 refine hK.out _ _ trivial (fun hHeld => ?_)
 clear hK K
 refine nm_ 16 ?_
 refine pv_ 36 2 17 7 rfl rfl HT_ ?_; refine pv_ 36 3 18 15 rfl rfl HT_ ?_; refine pv_ 36 4 19 31 rfl rfl HT_ ?_; refine pv_ 36 5 20 63 rfl rfl HT_ ?_; refine pv_ 36 6 21 127 rfl rfl HT_ ?_; refine pv_ 36 7 22 255 rfl rfl HT_ ?_; refine pv_ 36 8 23 511 rfl rfl HT_ ?_; refine pv_ 36 9 24 1023 rfl rfl HT_ ?_; refine pv_ 36 10 25 2047 rfl rfl HT_ ?_; refine pv_ 36 11 26 4095 rfl rfl HT_ ?_; refine pv_ 36 12 27 8191 rfl rfl HT_ ?_; refine pv_ 36 13 28 16383 rfl rfl HT_ ?_; refine pv_ 36 14 29 32767 rfl rfl HT_ ?_; refine pv_ 36 15 30 65535 rfl rfl HT_ ?_; refine pu_ 36 16 31 131071 rfl rfl HT_ ?_; refine pu_ 36 17 32 262143 rfl rfl HT_ ?_; refine pu_ 36 18 33 524287 rfl rfl HT_ ?_; refine pu_ 36 19 34 1048575 rfl rfl HT_ ?_; refine pu_ 36 20 35 2097151 rfl rfl HT_ ?_; refine pu_ 36 21 36 4194303 rfl rfl HT_ ?_; refine pu_ 36 22 37 8388607 rfl rfl HT_ ?_; refine pu_ 36 23 38 16777215 rfl rfl HT_ ?_
 refine pu_ 36 24 39 33554431 rfl rfl HT_ ?_; refine pu_ 36 25 40 67108863 rfl rfl HT_ ?_; refine pu_ 36 26 41 134217727 rfl rfl HT_ ?_; refine pv_ 36 27 42 268435455 rfl rfl HT_ ?_; refine pv_ 36 28 43 536870911 rfl rfl HT_ ?_; refine pu_ 36 29 44 1073741823 rfl rfl HT_ ?_; refine pu_ 36 30 45 2147483647 rfl rfl HT_ ?_; refine pu_ 36 31 46 4294967295 rfl rfl HT_ ?_; refine pu_ 36 32 47 8589934591 rfl rfl HT_ ?_; refine pu_ 36 33 48 17179869183 rfl rfl HT_ ?_; refine pv_ 36 34 49 34359738367 rfl rfl HT_ ?_; refine pv_ 36 35 6 68719476735 rfl rfl HT_ ?_
 refine done_ (done_of HT_.out (by kernel_rfl)) ?_
 try go_wp2
 go_ret
 exact ⟨by first | rfl | (simp [errW_none, errW_some] <;> rfl) | (simp [*, errW_none, errW_some] <;> rfl), by repeat (first | (with_reducible first | exact HB.out | apply below_alloc | apply pw_below_drewN | apply below_drew1) | exact HB.out)⟩
end Go.Proofs.Ytiimiogpiflkdaa.A
end

section
namespace Go.Proofs.Ytiimiogpiflkdaa.A
open Go.RowKit Go.Proofs.YtiimiogpiflkdaaW.PrintWords Go.Proofs.YtiimiogpiflkdaaW.PrintLast Go.Proofs.YtiimiogpiflkdaaW.PrintMore
attribute [local go_sem] max2_int min2_int max_two min_two max_three min_three max_four min_four   -- for this text's walks alone
set_option linter.unusedVariables false
set_option linter.unusedSimpArgs false
def spec_l19Before.f (a0_0 : Int) (a0_1 : Int) (a0_2 : Int) (a0_3 : Int) (a0_4 : Int) (l0_5 : List Int) (a1_0 : Int) (a1_1 : Int) (a1_2 : Int) (a1_3 : Int) (a1_4 : Int) (l1_5 : List Int) : Option (Bool) := if a0_2 = a1_2 then (if a0_3 > a1_3 then (some true) else (if a0_3 = a1_3 then (some (decide (a0_0 < a1_0))) else (some false))) else (some (decide (a0_2 > a1_2)))
set_option maxHeartbeats 8000000 in
set_option maxRecDepth 100000 in
theorem spec_l19Before.calls (a0_0 : Int) (a0_1 : Int) (a0_2 : Int) (a0_3 : Int) (a0_4 : Int) (A0_5 : Option Addr) (c0_5 : Nat) (l0_5 : List Int) (a1_0 : Int) (a1_1 : Int) (a1_2 : Int) (a1_3 : Int) (a1_4 : Int) (A1_5 : Option Addr) (c1_5 : Nat) (l1_5 : List Int) (r : Bool) (w : World) (hr0_5 : Kd.C (Kd.int .i64) w A0_5 l0_5.length l0_5) (hc0_5 : l0_5.length ≤ c0_5) (hr1_5 : Kd.C (Kd.int .i64) w A1_5 l1_5.length l1_5) (hc1_5 : l1_5.length ≤ c1_5) (h : spec_l19Before.f a0_0 a0_1 a0_2 a0_3 a0_4 l0_5 a1_0 a1_1 a1_2 a1_3 a1_4 l1_5 = some r) :
  Calls Try.prog 67 #[.agg #[.int .i64 a0_0, .int .i64 a0_1, .int .i64 a0_2, .int .i64 a0_3, .int .i64 a0_4, .slice A0_5 l0_5.length c0_5], .agg #[.int .i64 a1_0, .int .i64 a1_1, .int .i64 a1_2, .int .i64 a1_3, .int .i64 a1_4, .slice A1_5 l1_5.length c1_5]] w fun e w' => e = .returned (.bool r) ∧ Below w.heap.size w w' := by
 have hu61 := Try.underlying61
 have HR0_5 := Aside0.mk hr0_5
 have HC0_5 := Aside0.mk hc0_5
 clear hr0_5 hc0_5
 have HR1_5 := Aside0.mk hr1_5
 have HC1_5 := Aside0.mk hc1_5
 clear hr1_5 hc1_5
 have HB := Aside0.mk (Below.refl w.heap.size w)
 have H : (if a0_2 = a1_2 then (if a0_3 > a1_3 then (some true) else (if a0_3 = a1_3 then (some (decide (a0_0 < a1_0))) else (some false))) else (some (decide (a0_2 > a1_2)))) = some r := h
 clear h
 by_cases c3 : a0_2 = a1_2
 ·
  rw [if_pos c3] at H
  have c3b0 : (a0_2 == a1_2) = true := beq_iff_eq.mpr c3
  have c3b1 : (a0_2 != a1_2) = false := bne_eq_false_iff_eq.mpr c3
  clear c3
  by_cases c4 : a0_3 > a1_3
  ·
   rw [if_pos c4] at H
   have c4b0 : decide (a1_3 < a0_3) = true := decide_eq_true c4
   clear c4
   obtain rfl := Option.some.inj H
   go_enter Try.func67, Try.ntmps67
   go_wp2_with (first | ((with_reducible refine gate_dst (N := 2) rfl ?_); refine box_event ?hg (N := 2) ?hd (cs := #[.int .i64 a0_0, .int .i64 a0_1, .int .i64 a0_2, .int .i64 a0_3, .int .i64 a0_4, .slice A0_5 l0_5.length c0_5]) (t := 61) ?hr ?_; (case hd => rfl); (case hg => rfl); (case hr => first | (go_simp; done) | (go_simp; rfl)); intro gb236 hg w5 hbox hb; have n0_ := Aside0.mk (below_step (by repeat (first | (with_reducible first | exact HB.out | apply below_alloc | apply pw_below_drewN | apply below_drew1) | exact HB.out)) hb); have n1_ := Aside0.mk (hbox); have n2_ := Aside0.mk ((by rw [hg]; exact (below_size (by repeat (first | (with_reducible first | exact HB.out | apply below_alloc | apply pw_below_drewN | apply below_drew1) | exact HB.out))) : w.heap.size ≤ gb236)); have n3_ := Aside0.mk ((by rw [hg]; exact (below_size (by repeat (first | (with_reducible first | exact HB.out | apply below_alloc | apply pw_below_drewN | apply below_drew1) | exact HB.out))) : w.heap.size ≤ gb236)); clear HB; have HB := n0_; have BK236 := n1_; have GW236 := n2_; have GE236 := n3_; clear n0_ n1_ n2_ n3_; clear hb hbox hg) | ((with_reducible refine gate_dst (N := 3) rfl ?_); refine box_event ?hg (N := 3) ?hd (cs := #[.int .i64 a1_0, .int .i64 a1_1, .int .i64 a1_2, .int .i64 a1_3, .int .i64 a1_4, .slice A1_5 l1_5.length c1_5]) (t := 61) ?hr ?_; (case hd => rfl); (case hg => rfl); (case hr => first | (go_simp; done) | (go_simp; rfl)); intro gb237 hg w6 hbox hb; have n0_ := Aside0.mk (blk_below (g := gb236) (o := .cells #[.int .i64 a0_0, .int .i64 a0_1, .int .i64 a0_2, .int .i64 a0_3, .int .i64 a0_4, .slice A0_5 l0_5.length c0_5] 61 (0, 0)) (by (with_reducible repeat (first | refine blk_drewN ?_ _ | refine blk_drew ?_ | refine blk_alloc ?_ _)); exact BK236.out) hb); have n1_ := Aside0.mk (below_step (by repeat (first | (with_reducible first | exact HB.out | apply below_alloc | apply pw_below_drewN | apply below_drew1 | refine below_set ?_ GE236.out) | exact HB.out)) hb); have n2_ := Aside0.mk (hbox); have n3_ := Aside0.mk ((by rw [hg]; exact (below_size (by repeat (first | (with_reducible first | exact HB.out | apply below_alloc | apply pw_below_drewN | apply below_drew1 | refine below_set ?_ GE236.out) | exact HB.out))) : w.heap.size ≤ gb237)); have n4_ := Aside0.mk ((by rw [hg]; exact (below_size (by repeat (first | (with_reducible first | exact HB.out | apply below_alloc | apply pw_below_drewN | apply below_drew1 | refine below_set ?_ GE236.out) | exact HB.out))) : w.heap.size ≤ gb237)); have n5_ := Aside0.mk ((by rw [hg]; exact Nat.ne_of_lt (blk_lt (g := gb236) (o := .cells #[.int .i64 a0_0, .int .i64 a0_1, .int .i64 a0_2, .int .i64 a0_3, .int .i64 a0_4, .slice A0_5 l0_5.length c0_5] 61 (0, 0)) (by (with_reducible repeat (first | refine blk_drewN ?_ _ | refine blk_drew ?_ | refine blk_alloc ?_ _)); exact BK236.out)) : gb236 ≠ gb237)); have n6_ := Aside0.mk ((by rw [hg]; exact Nat.ne_of_gt (blk_lt (g := gb236) (o := .cells #[.int .i64 a0_0, .int .i64 a0_1, .int .i64 a0_2, .int .i64 a0_3, .int .i64 a0_4, .slice A0_5 l0_5.length c0_5] 61 (0, 0)) (by (with_reducible repeat (first | refine blk_drewN ?_ _ | refine blk_drew ?_ | refine blk_alloc ?_ _)); exact BK236.out)) : gb237 ≠ gb236)); clear BK236; clear HB; have BK236 := n0_; have HB := n1_; have BK237 := n2_; have GW237 := n3_; have GE237 := n4_; have NB236_237 := n5_; have NB237_236 := n6_; clear n0_ n1_ n2_ n3_ n4_ n5_ n6_; clear hb hbox hg; have hnb7 := NB236_237.out; have hnc7 := NB237_236.out; have hcz8_0 : w6.cell? ⟨gb236, 0, none⟩ = some (.int .i64 a0_0) := (blk_cell BK236.out 0).trans rfl; have hcz8_1 : w6.cell? ⟨gb236, 1, none⟩ = some (.int .i64 a0_1) := (blk_cell BK236.out 1).trans rfl; have hcz8_2 : w6.cell? ⟨gb236, 2, none⟩ = some (.int .i64 a0_2) := (blk_cell BK236.out 2).trans rfl; have hcz8_3 : w6.cell? ⟨gb236, 3, none⟩ = some (.int .i64 a0_3) := (blk_cell BK236.out 3).trans rfl; have hcz8_4 : w6.cell? ⟨gb236, 4, none⟩ = some (.int .i64 a0_4) := (blk_cell BK236.out 4).trans rfl; have hcz8_5 : w6.cell? ⟨gb236, 5, none⟩ = some (.slice A0_5 l0_5.length c0_5) := (blk_cell BK236.out 5).trans rfl; have hfz8_0 := blk_frozen BK236.out 0; have hfz8_1 := blk_frozen BK236.out 1; have hfz8_2 := blk_frozen BK236.out 2; have hfz8_3 := blk_frozen BK236.out 3; have hfz8_4 := blk_frozen BK236.out 4; have hfz8_5 := blk_frozen BK236.out 5; have hcz9_0 : w6.cell? ⟨gb237, 0, none⟩ = some (.int .i64 a1_0) := (blk_cell BK237.out 0).trans rfl; have hcz9_1 : w6.cell? ⟨gb237, 1, none⟩ = some (.int .i64 a1_1) := (blk_cell BK237.out 1).trans rfl; have hcz9_2 : w6.cell? ⟨gb237, 2, none⟩ = some (.int .i64 a1_2) := (blk_cell BK237.out 2).trans rfl; have hcz9_3 : w6.cell? ⟨gb237, 3, none⟩ = some (.int .i64 a1_3) := (blk_cell BK237.out 3).trans rfl; have hcz9_4 : w6.cell? ⟨gb237, 4, none⟩ = some (.int .i64 a1_4) := (blk_cell BK237.out 4).trans rfl; have hcz9_5 : w6.cell? ⟨gb237, 5, none⟩ = some (.slice A1_5 l1_5.length c1_5) := (blk_cell BK237.out 5).trans rfl; have hfz9_0 := blk_frozen BK237.out 0; have hfz9_1 := blk_frozen BK237.out 1; have hfz9_2 := blk_frozen BK237.out 2; have hfz9_3 := blk_frozen BK237.out 3; have hfz9_4 := blk_frozen BK237.out 4; have hfz9_5 := blk_frozen BK237.out 5))
   go_ret
   exact ⟨by first | rfl | (simp [errW_none, errW_some] <;> rfl) | (simp [*, errW_none, errW_some] <;> rfl), by repeat (first | (with_reducible first | exact HB.out | apply below_alloc | apply pw_below_drewN | apply below_drew1 | refine below_set ?_ GE236.out | refine below_set ?_ GE237.out) | exact HB.out)⟩
  ·
   rw [if_neg c4] at H
   have c4b0 : decide (a1_3 < a0_3) = false := decide_eq_false c4
   clear c4
   by_cases c10 : a0_3 = a1_3
   ·
    rw [if_pos c10] at H
    have c10b0 : (a0_3 == a1_3) = true := beq_iff_eq.mpr c10
    have c10b1 : (a0_3 != a1_3) = false := bne_eq_false_iff_eq.mpr c10
    clear c10
    obtain rfl := Option.some.inj H
    go_enter Try.func67, Try.ntmps67
    go_wp2_with (first | ((with_reducible refine gate_dst (N := 2) rfl ?_); refine box_event ?hg (N := 2) ?hd (cs := #[.int .i64 a0_0, .int .i64 a0_1, .int .i64 a0_2, .int .i64 a0_3, .int .i64 a0_4, .slice A0_5 l0_5.length c0_5]) (t := 61) ?hr ?_; (case hd => rfl); (case hg => rfl); (case hr => first | (go_simp; done) | (go_simp; rfl)); intro gb236 hg w11 hbox hb; have n0_ := Aside0.mk (below_step (by repeat (first | (with_reducible first | exact HB.out | apply below_alloc | apply pw_below_drewN | apply below_drew1) | exact HB.out)) hb); have n1_ := Aside0.mk (hbox); have n2_ := Aside0.mk ((by rw [hg]; exact (below_size (by repeat (first | (with_reducible first | exact HB.out | apply below_alloc | apply pw_below_drewN | apply below_drew1) | exact HB.out))) : w.heap.size ≤ gb236)); have n3_ := Aside0.mk ((by rw [hg]; exact (below_size (by repeat (first | (with_reducible first | exact HB.out | apply below_alloc | apply pw_below_drewN | apply below_drew1) | exact HB.out))) : w.heap.size ≤ gb236)); clear HB; have HB := n0_; have BK236 := n1_; have GW236 := n2_; have GE236 := n3_; clear n0_ n1_ n2_ n3_; clear hb hbox hg) | ((with_reducible refine gate_dst (N := 3) rfl ?_); refine box_event ?hg (N := 3) ?hd (cs := #[.int .i64 a1_0, .int .i64 a1_1, .int .i64 a1_2, .int .i64 a1_3, .int .i64 a1_4, .slice A1_5 l1_5.length c1_5]) (t := 61) ?hr ?_; (case hd => rfl); (case hg => rfl); (case hr => first | (go_simp; done) | (go_simp; rfl)); intro gb237 hg w12 hbox hb; have n0_ := Aside0.mk (blk_below (g := gb236) (o := .cells #[.int .i64 a0_0, .int .i64 a0_1, .int .i64 a0_2, .int .i64 a0_3, .int .i64 a0_4, .slice A0_5 l0_5.length c0_5] 61 (0, 0)) (by (with_reducible repeat (first | refine blk_drewN ?_ _ | refine blk_drew ?_ | refine blk_alloc ?_ _)); exact BK236.out) hb); have n1_ := Aside0.mk (below_step (by repeat (first | (with_reducible first | exact HB.out | apply below_alloc | apply pw_below_drewN | apply below_drew1 | refine below_set ?_ GE236.out) | exact HB.out)) hb); have n2_ := Aside0.mk (hbox); have n3_ := Aside0.mk ((by rw [hg]; exact (below_size (by repeat (first | (with_reducible first | exact HB.out | apply below_alloc | apply pw_below_drewN | apply below_drew1 | refine below_set ?_ GE236.out) | exact HB.out))) : w.heap.size ≤ gb237)); have n4_ := Aside0.mk ((by rw [hg]; exact (below_size (by repeat (first | (with_reducible first | exact HB.out | apply below_alloc | apply pw_below_drewN | apply below_drew1 | refine below_set ?_ GE236.out) | exact HB.out))) : w.heap.size ≤ gb237)); have n5_ := Aside0.mk ((by rw [hg]; exact Nat.ne_of_lt (blk_lt (g := gb236) (o := .cells #[.int .i64 a0_0, .int .i64 a0_1, .int .i64 a0_2, .int .i64 a0_3, .int .i64 a0_4, .slice A0_5 l0_5.length c0_5] 61 (0, 0)) (by (with_reducible repeat (first | refine blk_drewN ?_ _ | refine blk_drew ?_ | refine blk_alloc ?_ _)); exact BK236.out)) : gb236 ≠ gb237)); have n6_ := Aside0.mk ((by rw [hg]; exact Nat.ne_of_gt (blk_lt (g := gb236) (o := .cells #[.int .i64 a0_0, .int .i64 a0_1, .int .i64 a0_2, .int .i64 a0_3, .int .i64 a0_4, .slice A0_5 l0_5.length c0_5] 61 (0, 0)) (by (with_reducible repeat (first | refine blk_drewN ?_ _ | refine blk_drew ?_ | refine blk_alloc ?_ _)); exact BK236.out)) : gb237 ≠ gb236)); clear BK236; clear HB; have BK236 := n0_; have HB := n1_; have BK237 := n2_; have GW237 := n3_; have GE237 := n4_; have NB236_237 := n5_; have NB237_236 := n6_; clear n0_ n1_ n2_ n3_ n4_ n5_ n6_; clear hb hbox hg; have hnb13 := NB236_237.out; have hnc13 := NB237_236.out; have hcz14_0 : w12.cell? ⟨gb236, 0, none⟩ = some (.int .i64 a0_0) := (blk_cell BK236.out 0).trans rfl; have hcz14_1 : w12.cell? ⟨gb236, 1, none⟩ = some (.int .i64 a0_1) := (blk_cell BK236.out 1).trans rfl; have hcz14_2 : w12.cell? ⟨gb236, 2, none⟩ = some (.int .i64 a0_2) := (blk_cell BK236.out 2).trans rfl; have hcz14_3 : w12.cell? ⟨gb236, 3, none⟩ = some (.int .i64 a0_3) := (blk_cell BK236.out 3).trans rfl; have hcz14_4 : w12.cell? ⟨gb236, 4, none⟩ = some (.int .i64 a0_4) := (blk_cell BK236.out 4).trans rfl; have hcz14_5 : w12.cell? ⟨gb236, 5, none⟩ = some (.slice A0_5 l0_5.length c0_5) := (blk_cell BK236.out 5).trans rfl; have hfz14_0 := blk_frozen BK236.out 0; have hfz14_1 := blk_frozen BK236.out 1; have hfz14_2 := blk_frozen BK236.out 2; have hfz14_3 := blk_frozen BK236.out 3; have hfz14_4 := blk_frozen BK236.out 4; have hfz14_5 := blk_frozen BK236.out 5; have hcz15_0 : w12.cell? ⟨gb237, 0, none⟩ = some (.int .i64 a1_0) := (blk_cell BK237.out 0).trans rfl; have hcz15_1 : w12.cell? ⟨gb237, 1, none⟩ = some (.int .i64 a1_1) := (blk_cell BK237.out 1).trans rfl; have hcz15_2 : w12.cell? ⟨gb237, 2, none⟩ = some (.int .i64 a1_2) := (blk_cell BK237.out 2).trans rfl; have hcz15_3 : w12.cell? ⟨gb237, 3, none⟩ = some (.int .i64 a1_3) := (blk_cell BK237.out 3).trans rfl; have hcz15_4 : w12.cell? ⟨gb237, 4, none⟩ = some (.int .i64 a1_4) := (blk_cell BK237.out 4).trans rfl; have hcz15_5 : w12.cell? ⟨gb237, 5, none⟩ = some (.slice A1_5 l1_5.length c1_5) := (blk_cell BK237.out 5).trans rfl; have hfz15_0 := blk_frozen BK237.out 0; have hfz15_1 := blk_frozen BK237.out 1; have hfz15_2 := blk_frozen BK237.out 2; have hfz15_3 := blk_frozen BK237.out 3; have hfz15_4 := blk_frozen BK237.out 4; have hfz15_5 := blk_frozen BK237.out 5))
    go_ret
    exact ⟨by first | rfl | (simp [errW_none, errW_some] <;> rfl) | (simp [*, errW_none, errW_some] <;> rfl), by repeat (first | (with_reducible first | exact HB.out | apply below_alloc | apply pw_below_drewN | apply below_drew1 | refine below_set ?_ GE236.out | refine below_set ?_ GE237.out) | exact HB.out)⟩
   ·
    rw [if_neg c10] at H
    have c10b0 : (a0_3 == a1_3) = false := beq_eq_false_iff_ne.mpr c10
    have c10b1 : (a0_3 != a1_3) = true := bne_iff_ne.mpr c10
    obtain rfl := Option.some.inj H
    go_enter Try.func67, Try.ntmps67
    go_wp2_with (first | ((with_reducible refine gate_dst (N := 2) rfl ?_); refine box_event ?hg (N := 2) ?hd (cs := #[.int .i64 a0_0, .int .i64 a0_1, .int .i64 a0_2, .int .i64 a0_3, .int .i64 a0_4, .slice A0_5 l0_5.length c0_5]) (t := 61) ?hr ?_; (case hd => rfl); (case hg => rfl); (case hr => first | (go_simp; done) | (go_simp; rfl)); intro gb236 hg w16 hbox hb; have n0_ := Aside0.mk (below_step (by repeat (first | (with_reducible first | exact HB.out | apply below_alloc | apply pw_below_drewN | apply below_drew1) | exact HB.out)) hb); have n1_ := Aside0.mk (hbox); have n2_ := Aside0.mk ((by rw [hg]; exact (below_size (by repeat (first | (with_reducible first | exact HB.out | apply below_alloc | apply pw_below_drewN | apply below_drew1) | exact HB.out))) : w.heap.size ≤ gb236)); have n3_ := Aside0.mk ((by rw [hg]; exact (below_size (by repeat (first | (with_reducible first | exact HB.out | apply below_alloc | apply pw_below_drewN | apply below_drew1) | exact HB.out))) : w.heap.size ≤ gb236)); clear HB; have HB := n0_; have BK236 := n1_; have GW236 := n2_; have GE236 := n3_; clear n0_ n1_ n2_ n3_; clear hb hbox hg) | ((with_reducible refine gate_dst (N := 3) rfl ?_); refine box_event ?hg (N := 3) ?hd (cs := #[.int .i64 a1_0, .int .i64 a1_1, .int .i64 a1_2, .int .i64 a1_3, .int .i64 a1_4, .slice A1_5 l1_5.length c1_5]) (t := 61) ?hr ?_; (case hd => rfl); (case hg => rfl); (case hr => first | (go_simp; done) | (go_simp; rfl)); intro gb237 hg w17 hbox hb; have n0_ := Aside0.mk (blk_below (g := gb236) (o := .cells #[.int .i64 a0_0, .int .i64 a0_1, .int .i64 a0_2, .int .i64 a0_3, .int .i64 a0_4, .slice A0_5 l0_5.length c0_5] 61 (0, 0)) (by (with_reducible repeat (first | refine blk_drewN ?_ _ | refine blk_drew ?_ | refine blk_alloc ?_ _)); exact BK236.out) hb); have n1_ := Aside0.mk (below_step (by repeat (first | (with_reducible first | exact HB.out | apply below_alloc | apply pw_below_drewN | apply below_drew1 | refine below_set ?_ GE236.out) | exact HB.out)) hb); have n2_ := Aside0.mk (hbox); have n3_ := Aside0.mk ((by rw [hg]; exact (below_size (by repeat (first | (with_reducible first | exact HB.out | apply below_alloc | apply pw_below_drewN | apply below_drew1 | refine below_set ?_ GE236.out) | exact HB.out))) : w.heap.size ≤ gb237)); have n4_ := Aside0.mk ((by rw [hg]; exact (below_size (by repeat (first | (with_reducible first | exact HB.out | apply below_alloc | apply pw_below_drewN | apply below_drew1 | refine below_set ?_ GE236.out) | exact HB.out))) : w.heap.size ≤ gb237)); have n5_ := Aside0.mk ((by rw [hg]; exact Nat.ne_of_lt (blk_lt (g := gb236) (o := .cells #[.int .i64 a0_0, .int .i64 a0_1, .int .i64 a0_2, .int .i64 a0_3, .int .i64 a0_4, .slice A0_5 l0_5.length c0_5] 61 (0, 0)) (by (with_reducible repeat (first | refine blk_drewN ?_ _ | refine blk_drew ?_ | refine blk_alloc ?_ _)); exact BK236.out)) : gb236 ≠ gb237)); have n6_ := Aside0.mk ((by rw [hg]; exact Nat.ne_of_gt (blk_lt (g := gb236) (o := .cells #[.int .i64 a0_0, .int .i64 a0_1, .int .i64 a0_2, .int .i64 a0_3, .int .i64 a0_4, .slice A0_5 l0_5.length c0_5] 61 (0, 0)) (by (with_reducible repeat (first | refine blk_drewN ?_ _ | refine blk_drew ?_ | refine blk_alloc ?_ _)); exact BK236.out)) : gb237 ≠ gb236)); clear BK236; clear HB; have BK236 := n0_; have HB := n1_; have BK237 := n2_; have GW237 := n3_; have GE237 := n4_; have NB236_237 := n5_; have NB237_236 := n6_; clear n0_ n1_ n2_ n3_ n4_ n5_ n6_; clear hb hbox hg; have hnb18 := NB236_237.out; have hnc18 := NB237_236.out; have hcz19_0 : w17.cell? ⟨gb236, 0, none⟩ = some (.int .i64 a0_0) := (blk_cell BK236.out 0).trans rfl; have hcz19_1 : w17.cell? ⟨gb236, 1, none⟩ = some (.int .i64 a0_1) := (blk_cell BK236.out 1).trans rfl; have hcz19_2 : w17.cell? ⟨gb236, 2, none⟩ = some (.int .i64 a0_2) := (blk_cell BK236.out 2).trans rfl; have hcz19_3 : w17.cell? ⟨gb236, 3, none⟩ = some (.int .i64 a0_3) := (blk_cell BK236.out 3).trans rfl; have hcz19_4 : w17.cell? ⟨gb236, 4, none⟩ = some (.int .i64 a0_4) := (blk_cell BK236.out 4).trans rfl; have hcz19_5 : w17.cell? ⟨gb236, 5, none⟩ = some (.slice A0_5 l0_5.length c0_5) := (blk_cell BK236.out 5).trans rfl; have hfz19_0 := blk_frozen BK236.out 0; have hfz19_1 := blk_frozen BK236.out 1; have hfz19_2 := blk_frozen BK236.out 2; have hfz19_3 := blk_frozen BK236.out 3; have hfz19_4 := blk_frozen BK236.out 4; have hfz19_5 := blk_frozen BK236.out 5; have hcz20_0 : w17.cell? ⟨gb237, 0, none⟩ = some (.int .i64 a1_0) := (blk_cell BK237.out 0).trans rfl; have hcz20_1 : w17.cell? ⟨gb237, 1, none⟩ = some (.int .i64 a1_1) := (blk_cell BK237.out 1).trans rfl; have hcz20_2 : w17.cell? ⟨gb237, 2, none⟩ = some (.int .i64 a1_2) := (blk_cell BK237.out 2).trans rfl; have hcz20_3 : w17.cell? ⟨gb237, 3, none⟩ = some (.int .i64 a1_3) := (blk_cell BK237.out 3).trans rfl; have hcz20_4 : w17.cell? ⟨gb237, 4, none⟩ = some (.int .i64 a1_4) := (blk_cell BK237.out 4).trans rfl; have hcz20_5 : w17.cell? ⟨gb237, 5, none⟩ = some (.slice A1_5 l1_5.length c1_5) := (blk_cell BK237.out 5).trans rfl; have hfz20_0 := blk_frozen BK237.out 0; have hfz20_1 := blk_frozen BK237.out 1; have hfz20_2 := blk_frozen BK237.out 2; have hfz20_3 := blk_frozen BK237.out 3; have hfz20_4 := blk_frozen BK237.out 4; have hfz20_5 := blk_frozen BK237.out 5))
    go_ret
    exact ⟨by first | rfl | (simp [errW_none, errW_some] <;> rfl) | (simp [*, errW_none, errW_some] <;> rfl), by repeat (first | (with_reducible first | exact HB.out | apply below_alloc | apply pw_below_drewN | apply below_drew1 | refine below_set ?_ GE236.out | refine below_set ?_ GE237.out) | exact HB.out)⟩
 ·
  rw [if_neg c3] at H
  have c3b0 : (a0_2 == a1_2) = false := beq_eq_false_iff_ne.mpr c3
  have c3b1 : (a0_2 != a1_2) = true := bne_iff_ne.mpr c3
  obtain rfl := Option.some.inj H
  go_enter Try.func67, Try.ntmps67
  go_wp2_with (first | ((with_reducible refine gate_dst (N := 2) rfl ?_); refine box_event ?hg (N := 2) ?hd (cs := #[.int .i64 a0_0, .int .i64 a0_1, .int .i64 a0_2, .int .i64 a0_3, .int .i64 a0_4, .slice A0_5 l0_5.length c0_5]) (t := 61) ?hr ?_; (case hd => rfl); (case hg => rfl); (case hr => first | (go_simp; done) | (go_simp; rfl)); intro gb236 hg w21 hbox hb; have n0_ := Aside0.mk (below_step (by repeat (first | (with_reducible first | exact HB.out | apply below_alloc | apply pw_below_drewN | apply below_drew1) | exact HB.out)) hb); have n1_ := Aside0.mk (hbox); have n2_ := Aside0.mk ((by rw [hg]; exact (below_size (by repeat (first | (with_reducible first | exact HB.out | apply below_alloc | apply pw_below_drewN | apply below_drew1) | exact HB.out))) : w.heap.size ≤ gb236)); have n3_ := Aside0.mk ((by rw [hg]; exact (below_size (by repeat (first | (with_reducible first | exact HB.out | apply below_alloc | apply pw_below_drewN | apply below_drew1) | exact HB.out))) : w.heap.size ≤ gb236)); clear HB; have HB := n0_; have BK236 := n1_; have GW236 := n2_; have GE236 := n3_; clear n0_ n1_ n2_ n3_; clear hb hbox hg) | ((with_reducible refine gate_dst (N := 3) rfl ?_); refine box_event ?hg (N := 3) ?hd (cs := #[.int .i64 a1_0, .int .i64 a1_1, .int .i64 a1_2, .int .i64 a1_3, .int .i64 a1_4, .slice A1_5 l1_5.length c1_5]) (t := 61) ?hr ?_; (case hd => rfl); (case hg => rfl); (case hr => first | (go_simp; done) | (go_simp; rfl)); intro gb237 hg w22 hbox hb; have n0_ := Aside0.mk (blk_below (g := gb236) (o := .cells #[.int .i64 a0_0, .int .i64 a0_1, .int .i64 a0_2, .int .i64 a0_3, .int .i64 a0_4, .slice A0_5 l0_5.length c0_5] 61 (0, 0)) (by (with_reducible repeat (first | refine blk_drewN ?_ _ | refine blk_drew ?_ | refine blk_alloc ?_ _)); exact BK236.out) hb); have n1_ := Aside0.mk (below_step (by repeat (first | (with_reducible first | exact HB.out | apply below_alloc | apply pw_below_drewN | apply below_drew1 | refine below_set ?_ GE236.out) | exact HB.out)) hb); have n2_ := Aside0.mk (hbox); have n3_ := Aside0.mk ((by rw [hg]; exact (below_size (by repeat (first | (with_reducible first | exact HB.out | apply below_alloc | apply pw_below_drewN | apply below_drew1 | refine below_set ?_ GE236.out) | exact HB.out))) : w.heap.size ≤ gb237)); have n4_ := Aside0.mk ((by rw [hg]; exact (below_size (by repeat (first | (with_reducible first | exact HB.out | apply below_alloc | apply pw_below_drewN | apply below_drew1 | refine below_set ?_ GE236.out) | exact HB.out))) : w.heap.size ≤ gb237)); have n5_ := Aside0.mk ((by rw [hg]; exact Nat.ne_of_lt (blk_lt (g := gb236) (o := .cells #[.int .i64 a0_0, .int .i64 a0_1, .int .i64 a0_2, .int .i64 a0_3, .int .i64 a0_4, .slice A0_5 l0_5.length c0_5] 61 (0, 0)) (by (with_reducible repeat (first | refine blk_drewN ?_ _ | refine blk_drew ?_ | refine blk_alloc ?_ _)); exact BK236.out)) : gb236 ≠ gb237)); have n6_ := Aside0.mk ((by rw [hg]; exact Nat.ne_of_gt (blk_lt (g := gb236) (o := .cells #[.int .i64 a0_0, .int .i64 a0_1, .int .i64 a0_2, .int .i64 a0_3, .int .i64 a0_4, .slice A0_5 l0_5.length c0_5] 61 (0, 0)) (by (with_reducible repeat (first | refine blk_drewN ?_ _ | refine blk_drew ?_ | refine blk_alloc ?_ _)); exact BK236.out)) : gb237 ≠ gb236)); clear BK236; clear HB; have BK236 := n0_; have HB := n1_; have BK237 := n2_; have GW237 := n3_; have GE237 := n4_; have NB236_237 := n5_; have NB237_236 := n6_; clear n0_ n1_ n2_ n3_ n4_ n5_ n6_; clear hb hbox hg; have hnb23 := NB236_237.out; have hnc23 := NB237_236.out; have hcz24_0 : w22.cell? ⟨gb236, 0, none⟩ = some (.int .i64 a0_0) := (blk_cell BK236.out 0).trans rfl; have hcz24_1 : w22.cell? ⟨gb236, 1, none⟩ = some (.int .i64 a0_1) := (blk_cell BK236.out 1).trans rfl; have hcz24_2 : w22.cell? ⟨gb236, 2, none⟩ = some (.int .i64 a0_2) := (blk_cell BK236.out 2).trans rfl; have hcz24_3 : w22.cell? ⟨gb236, 3, none⟩ = some (.int .i64 a0_3) := (blk_cell BK236.out 3).trans rfl; have hcz24_4 : w22.cell? ⟨gb236, 4, none⟩ = some (.int .i64 a0_4) := (blk_cell BK236.out 4).trans rfl; have hcz24_5 : w22.cell? ⟨gb236, 5, none⟩ = some (.slice A0_5 l0_5.length c0_5) := (blk_cell BK236.out 5).trans rfl; have hfz24_0 := blk_frozen BK236.out 0; have hfz24_1 := blk_frozen BK236.out 1; have hfz24_2 := blk_frozen BK236.out 2; have hfz24_3 := blk_frozen BK236.out 3; have hfz24_4 := blk_frozen BK236.out 4; have hfz24_5 := blk_frozen BK236.out 5; have hcz25_0 : w22.cell? ⟨gb237, 0, none⟩ = some (.int .i64 a1_0) := (blk_cell BK237.out 0).trans rfl; have hcz25_1 : w22.cell? ⟨gb237, 1, none⟩ = some (.int .i64 a1_1) := (blk_cell BK237.out 1).trans rfl; have hcz25_2 : w22.cell? ⟨gb237, 2, none⟩ = some (.int .i64 a1_2) := (blk_cell BK237.out 2).trans rfl; have hcz25_3 : w22.cell? ⟨gb237, 3, none⟩ = some (.int .i64 a1_3) := (blk_cell BK237.out 3).trans rfl; have hcz25_4 : w22.cell? ⟨gb237, 4, none⟩ = some (.int .i64 a1_4) := (blk_cell BK237.out 4).trans rfl; have hcz25_5 : w22.cell? ⟨gb237, 5, none⟩ = some (.slice A1_5 l1_5.length c1_5) := (blk_cell BK237.out 5).trans rfl; have hfz25_0 := blk_frozen BK237.out 0; have hfz25_1 := blk_frozen BK237.out 1; have hfz25_2 := blk_frozen BK237.out 2; have hfz25_3 := blk_frozen BK237.out 3; have hfz25_4 := blk_frozen BK237.out 4; have hfz25_5 := blk_frozen BK237.out 5))
  go_ret
  exact ⟨by first | rfl | (simp [errW_none, errW_some] <;> rfl) | (simp [*, errW_none, errW_some] <;> rfl), by repeat (first | (with_reducible first | exact HB.out | apply below_alloc | apply pw_below_drewN | apply below_drew1 | refine below_set ?_ GE236.out | refine below_set ?_ GE237.out) | exact HB.out)⟩
end Go.Proofs.Ytiimiogpiflkdaa.A
end
