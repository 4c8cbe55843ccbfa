-- Printed for this claim by a program of the session's (the kit's print, with contracts of our own taken in). Lean checks it.
import Derived.Test.YtiimiogpiflkdaaA0
-- squeezed
namespace Go.Proofs.Ytiimiogpiflkdaa.A
open Go.RowKit Go.Proofs.YtiimiogpiflkdaaW.PrintWords Go.Proofs.YtiimiogpiflkdaaW.PrintLast Go.Proofs.YtiimiogpiflkdaaW.PrintMore
attribute [local go_sem] max2_int min2_int max_two min_two max_three min_three max_four min_four   -- for this text's walks alone
set_option linter.unusedVariables false
set_option linter.unusedSimpArgs false

/-! ### impl_FindTeam: function 18: by hand -/

def fidx {α : Type} (p : α → Bool) (l : List α) : Int := match l.findIdx? p with
  | some i => (i : Int)
  | none => -1
theorem fidx_hit {α : Type} (p : α → Bool) (l : List α) (n : Nat) (h : n < l.length) (hp : p l[n] = true) (hb : ∀ (j : Nat) (hj : j < l.length), j < n → p l[j] = false) : fidx p l = n := by
  have : l.findIdx? p = some n := by
    rw [List.findIdx?_eq_some_iff_getElem]
    exact ⟨h, hp, fun j hj => by rw [hb j (by omega) hj]; simp⟩
  simp [fidx, this]
theorem fidx_miss {α : Type} (p : α → Bool) (l : List α) (hb : ∀ (j : Nat) (hj : j < l.length), p l[j] = false) : fidx p l = -1 := by
  have : l.findIdx? p = none := by
    rw [List.findIdx?_eq_none_iff]
    intro x hx
    obtain ⟨j, hj, rfl⟩ := List.mem_iff_getElem.1 hx
    exact hb j hj
  simp [fidx, this]

set_option maxHeartbeats 2000000 in
set_option maxRecDepth 100000 in
theorem IndexFuncTeam_calls (A0 : Option Addr) (c0 : Nat) (l0 : List S61) (p : S61 → Bool) (lb : Array Value) (g : Nat) (w : World)
    (eg : ∀ args w, (callFunc g args).run Try.prog w = .ok (.enter g args) w)
    (hp : ∀ (x : S61) (v5 : Value) (W : World), Below w.heap.size w W → Calls Try.prog g (#[.agg #[.int .i64 x.f0, .int .i64 x.f1, .int .i64 x.f2, .int .i64 x.f3, .int .i64 x.f4, v5]] ++ lb) W fun e w' => e = .returned (.bool (p x)) ∧ Below w.heap.size w w')
    (hr0 : Kd.C k61 w A0 l0.length l0) :
    Calls Try.prog 56 #[.slice A0 l0.length c0, .func (.func g) #[] lb] w fun e w' => e = .returned (.int .i64 (fidx p l0)) ∧ Below w.heap.size w w' := by
  have hu61 := Try.underlying61
  have HR0 := Aside0.mk hr0
  have HL := Aside0.mk hr0.2.1
  have HP := Aside0.mk hp
  clear hr0 hp
  go_enter Try.func56, Try.ntmps56
  go_wp2
  go_loopg [5, 8] l0.length (fun gg _ v8 w' => ∃ i : Int, v8 = .int .i64 i ∧ Aside0 (0 ≤ i ∧ i ≤ l0.length ∧ l0.length - i ≤ gg) ∧ Aside0 (Below w.heap.size w w') ∧ Aside0 (∀ (j : Nat) (hj : j < l0.length), (j : Int) < i → p l0[j] = false))
  case atStart => exact ⟨0, rfl, ⟨by omega⟩, ⟨Below.refl _ w⟩, ⟨fun j _ hj => by omega⟩⟩
  case round =>
    obtain ⟨i, rfl, HI, HB, HA⟩ := hrel
    by_cases hlt : i < (l0.length : Int)
    · have hltb : decide (i < (l0.length : Int)) = true := decide_eq_true hlt
      have h0 : 0 ≤ i := HI.out.1
      obtain ⟨ad, A5, c5, e0, x0, x1, x2, x3, x4, x5, _⟩ := at_T61 HR0.out i h0 hlt
      cases e0
      have HX := Aside0.mk (HP.out (rd_T61 l0 i) (.slice A5 (rd_T61 l0 i).f5.length c5) _ HB.out)
      have HE : Aside0 (∃ h : i.toNat < l0.length, rd_T61 l0 i = l0[i.toNat]) := ⟨⟨by omega, by simp [rd_T61, show i.toNat < l0.length by omega]⟩⟩
      replace x0 := (HB.out.cell (World.block_lt_of_cell? w _ x0)).trans x0
      replace x1 := (HB.out.cell (World.block_lt_of_cell? w _ x1)).trans x1
      replace x2 := (HB.out.cell (World.block_lt_of_cell? w _ x2)).trans x2
      replace x3 := (HB.out.cell (World.block_lt_of_cell? w _ x3)).trans x3
      replace x4 := (HB.out.cell (World.block_lt_of_cell? w _ x4)).trans x4
      replace x5 := (HB.out.cell (World.block_lt_of_cell? w _ x5)).trans x5
      replace h0 := eq_true h0
      replace hlt := eq_true hlt
      cases hq : p (rd_T61 l0 i) with
      | true =>
        have HQ2 : Aside0 (p (rd_T61 l0 i) = true) := ⟨hq⟩
        have hcall := HX.out
        rw [hq] at hcall
        clear hq
        go_wp2_with (go_at_fn g; refine hcall.mono ?_; rintro e w' ⟨rfl, hb'⟩)
        go_ret
        refine ⟨?_, hb'⟩
        obtain ⟨hj, he⟩ := HE.out
        have := HI.out
        have hQ := HQ2.out
        rw [he] at hQ
        rw [fidx_hit p l0 i.toNat hj hQ (fun j hj hl => HA.out j hj (by omega)), show ((i.toNat : Nat) : Int) = i by omega]; rfl
      | false =>
        have HQ2 : Aside0 (p (rd_T61 l0 i) = false) := ⟨hq⟩
        have hcall := HX.out
        rw [hq] at hcall
        clear hq
        have HW : Aside0 (wrap64 (i + 1) = i + 1) := ⟨by have := HL.out; have := HI.out; have := of_eq_true hlt; unfold wrap64; omega⟩
        have HLT : Aside0 (i < (l0.length : Int)) := ⟨of_eq_true hlt⟩
        go_wp2_with (go_at_fn g; refine hcall.mono ?_; rintro e w' ⟨rfl, hb'⟩)
        go_roundg (l0.length - (i.toNat + 1))
        case measure => have := HI.out; have := HLT.out; omega
        case rel =>
          refine ⟨i + 1, by rw [HW.out], ⟨by have := HI.out; have := HLT.out; omega⟩, ⟨hb'⟩, ⟨fun j hj hjn => ?_⟩⟩
          obtain ⟨hj2, he⟩ := HE.out
          by_cases e : (j : Int) = i
          · have hQ := HQ2.out
            rw [he] at hQ
            have : i.toNat = j := by omega
            subst this
            exact hQ
          · exact HA.out j hj (by omega)
    · have hltb : decide (i < (l0.length : Int)) = false := decide_eq_false hlt
      have HLT : Aside0 (¬ i < (l0.length : Int)) := ⟨hlt⟩
      clear hlt
      go_wp2
      go_ret
      exact ⟨by rw [fidx_miss p l0 (fun j hj => HA.out j hj (by have := HLT.out; omega))]; rfl, HB.out⟩

set_option maxHeartbeats 2000000 in
set_option maxRecDepth 100000 in
/-- The closure of FindTeam. -/
theorem FindTeam_pred (a1 : Int) (B : Nat) (w : World) (hB : B < w.heap.size) (hcell : w.cell? ⟨B, 0, none⟩ = some (.int .i64 a1)) (x : S61) (v5 : Value) (W : World) (hb : Below w.heap.size w W) :
    Calls Try.prog 57 (#[.agg #[.int .i64 x.f0, .int .i64 x.f1, .int .i64 x.f2, .int .i64 x.f3, .int .i64 x.f4, v5]] ++ #[.pointer (some ⟨B, 0, none⟩)]) W fun e w' => e = .returned (.bool (decide (x.f0 = a1))) ∧ Below w.heap.size w w' := by
  have hu61 := Try.underlying61
  have hc : W.cell? ⟨B, 0, none⟩ = some (.int .i64 a1) := (hb.cell (p := ⟨B, 0, none⟩) hB).trans hcell
  have hBW : B < W.heap.size := Nat.lt_of_lt_of_le hB hb.size
  have hne : B ≠ W.heap.size := by omega
  have HB := Aside0.mk hb
  clear hb hcell
  show Calls Try.prog 57 #[.agg #[.int .i64 x.f0, .int .i64 x.f1, .int .i64 x.f2, .int .i64 x.f3, .int .i64 x.f4, v5], .pointer (some ⟨B, 0, none⟩)] W _
  go_enter Try.func57, Try.ntmps57
  go_wp2
  all_goals (go_ret; exact ⟨by first | (simp_all; done) | (have e : (x.f0 == a1) = decide (x.f0 = a1) := Bool.eq_iff_iff.2 (by simp); simp_all), HB.out.alloc HB.out.size _⟩)

/-! ### impl_FindTeam: by hand -/
def impl_FindTeam.f (l0 : List (S61)) (a1 : Int) : Option (Int) := some (fidx (fun t => decide (t.f0 = a1)) l0)
set_option maxHeartbeats 2000000 in
set_option maxRecDepth 100000 in
theorem impl_FindTeam.calls (A0 : Option Addr) (c0 : Nat) (l0 : List (S61)) (a1 : Int) (r : Int) (w : World) (hr0 : Kd.C k61 w A0 l0.length l0) (hc0 : l0.length ≤ c0) (h : impl_FindTeam.f l0 a1 = some r) :
  Calls Try.prog 18 #[.slice A0 l0.length c0, .int .i64 a1] w fun e w' => e = .returned (.int .i64 r) ∧ Below w.heap.size w w' := by
 have eg : ∀ args w, (callFunc 57 args).run Try.prog w = .ok (.enter 57 args) w := enters_of Try.func57 (by kernel_rfl) rfl
 have hb0 : Below w.heap.size w (w.alloc (.cells #[.int .i64 a1] 3)) := (Below.refl _ w).alloc (Nat.le_refl _) _
 have hcon := IndexFuncTeam_calls A0 c0 l0 (fun t => decide (t.f0 = a1)) #[.pointer (some ⟨w.heap.size, 0, none⟩)] 57 (w.alloc (.cells #[.int .i64 a1] 3)) eg
  (fun x v5 W hW => FindTeam_pred a1 w.heap.size _ (by simp) (by simp) x v5 W hW) (Kd.C_below hr0 hb0)
 have HH : Aside0 (impl_FindTeam.f l0 a1 = some r) := ⟨h⟩
 have HB := Aside0.mk hb0
 clear h hr0 hb0 eg
 have e : fidx (fun t : S61 => decide (t.f0 = a1)) l0 = r := Option.some.inj HH.out
 rw [e] at hcon
 clear e HH
 go_enter Try.func18, Try.ntmps18
 go_wp2_with (go_at_call 56; refine hcon.mono ?_; rintro e w' ⟨rfl, hb'⟩)
 go_ret
 exact ⟨rfl, HB.out.trans (hb'.mono (by simp))⟩


end Go.Proofs.Ytiimiogpiflkdaa.A
