/- What the row FnJudges rests on, put together: LHAreTs, Shelf, LHCmp, LHClo, LHSortT, LHBef, LHStandS, A23, A24, A25, A26, A27. No condition. -/
import Derived.Test.YtdlebbmmanjffaaSFnJudgesx0
import Derived.BigQuiet
import Derived.Shelf.SlGeneric
import Derived.Ground.NamesProg
import Derived.Ground.SlsfProg
import Derived.Shelf.SlSortCmp.SmallK
import Derived.Shelf.Small.Bits
import Derived.Test.YtdlebbmmanjffaaProg
import Derived.Shelf.Abstract
import Derived.StillTailTactics
import Derived.Deep.RegionHeld3
section
set_option linter.unusedVariables false
set_option linter.unusedSimpArgs false
namespace Go.Proofs.Ytdlebbmmanjffaa.A
open Go.RowKit Go.Proofs.YtdlebbmmanjffaaW.PrintWords Go.Proofs.YtdlebbmmanjffaaW.PrintLast Go.Proofs.YtdlebbmmanjffaaW.PrintMore Go.Shelf Go.Proofs.Ytdlebbmmanjffaa.L
def spec_AreTeams.f (k : Nat) (l0 : List S78) : Option Bool := if smallT l0 = true then some (areT l0) else none
theorem spec_l19Countex (l : List Int) (x : Int) (hl : l.length ≤ 1099511627776) : ∃ k, spec_l19Count.f k l x = some ((l.count x : Nat) : Int) := by
  obtain ⟨k, h⟩ := l19Count_ev l x hl
  exact ⟨k, h k (Nat.le_refl _)⟩
set_option maxHeartbeats 16000000 in
set_option maxRecDepth 100000 in
theorem spec_AreTeams.calls (k : Nat) (A0 : Option Addr) (c0 : Nat) (l0 : List S78) (r : Bool) (w : World) (hr0 : Kd.C k78 w A0 l0.length l0) (hc0 : l0.length ≤ c0) (h : spec_AreTeams.f k l0 = some r) :
    Calls Try.prog 69 #[.slice A0 l0.length c0] w fun e w' => e = .returned (.bool r) ∧ Below w.heap.size w w' := by
  unfold spec_AreTeams.f at h
  by_cases hs : smallT l0 = true
  rotate_left
  · rw [if_neg hs] at h
    cases h
  rw [if_pos hs] at h
  have hr := Option.some.inj h
  have hsm := small_of hs
  clear h hs
  have hu78 := Try.underlying78
  have HR0 := Aside0.mk hr0
  have HC0 := Aside0.mk hc0
  have HR := Aside0.mk hr
  have HS := Aside0.mk hsm
  clear hr0 hc0 hr hsm
  go_enter Try.func69, Try.ntmps69
  go_wp2
  go_loopg [3] l0.length (fun gg v3 wr => ∃ kk : Nat, v3 = .int .i64 kk ∧ Aside0 (kk ≤ l0.length ∧ l0.length - kk ≤ gg) ∧ Aside0 (∀ j : Nat, j < kk → okT l0 j = true) ∧ Aside0 (Below w.heap.size w wr))
  case atStart => exact ⟨0, rfl, ⟨by omega⟩, ⟨fun j hj => by omega⟩, ⟨Below.refl _ w⟩⟩
  case round =>
    obtain ⟨kk, rfl, HI, HOK, HB⟩ := hrel
    by_cases hlt : kk < l0.length
    rotate_left
    · have hltb : ((kk : Int) < (l0.length : Int)) = False := eq_false (by omega)
      have HR1 : Aside0 (r = decide (l0.length ≤ 10)) := ⟨by
        rw [← HR.out]
        by_cases h10 : l0.length ≤ 10
        · rw [decide_eq_true h10]
          exact areT_yes h10 (fun i hi => HOK.out i (by omega))
        · rw [decide_eq_false h10]
          exact areT_big h10⟩
      clear hlt
      go_wp2
      go_ret
      exact ⟨by rw [HR1.out]; simp; omega, HB.out⟩
    have hltb : ((kk : Int) < (l0.length : Int)) = True := eq_true (by omega)
    obtain ⟨ad, A5, c5, e0, hat, hl5, hi5⟩ := tmAt_of HR0.out kk hlt
    subst e0
    obtain ⟨x0, x1, x2, x3, x4, x5⟩ := hat.below HB.out
    clear hat
    obtain ⟨x, hx⟩ : ∃ x, rdT l0 (kk : Int) = x := ⟨_, rfl⟩
    rw [hx] at x0 x1 x2 x3 x4 x5 hl5 hi5
    have hx5 : x.f5.length ≤ 1099511627776 := by rw [← hx]; exact HS.out.2 _ (rdTm_mem (by omega) (by omega))
    have HX := Aside0.mk hx
    have HLT := Aside0.mk hlt
    have HL5 := Aside0.mk hl5
    have HX5 := Aside0.mk hx5
    have HI6 : Aside0 (∀ W, Below w.heap.size w W → Kd.C (Kd.int .i64) W A5 x.f5.length x.f5) := ⟨fun W h => Kd.C_below hi5 h⟩
    clear hx hlt hi5 hl5 hx5
    go_upto_region 5 with (first | ((with_reducible refine gate_dst (N := 4) rfl ?_); refine box_event ?hg (N := 4) ?hd (cs := #[.int .i64 0, .int .i64 0, .int .i64 0, .int .i64 0, .int .i64 0, .slice none 0 0]) (t := 78) ?hr ?_; (case hd => rfl); (case hg => rfl); (case hr => first | (go_simp; done) | (go_simp; rfl)); intro gb hg w7 hbox hb; have HBX := Aside0.mk hbox; have HG := Aside0.mk (show w.heap.size ≤ gb by rw [hg]; exact below_size (by repeat (first | exact HB.out | apply pw_below_drewN | apply below_drew1))); have HB7 := Aside0.mk (below_step (by repeat (first | exact HB.out | apply pw_below_drewN | apply below_drew1)) hb); clear hb hg; obtain ⟨⟨hz0, hz1, hz2, hz3, hz4, hz5⟩, hf0, hf1, hf2, hf3, hf4, hf5⟩ := cells6 hbox; clear hbox))
    try simp only [Act.put, Z1, Z2, Z3]
    obtain ⟨w8, e8, hbx, hb8⟩ := box6 HBX.out HB7.out HG.out (.int .i64 x.f0) (.int .i64 x.f1) (.int .i64 x.f2) (.int .i64 x.f3) (.int .i64 x.f4) (.slice A5 x.f5.length c5)
    rw [← e8]
    clear e8 hz0 hz1 hz2 hz3 hz4 hz5 hf0 hf1 hf2 hf3 hf4 hf5 x0 x1 x2 x3 x4 x5 HBX HB7
    have HBX := Aside0.mk hbx
    have HB8 := Aside0.mk hb8
    obtain ⟨⟨hz0, hz1, hz2, hz3, hz4, hz5⟩, _⟩ := cells6 hbx
    clear hbx hb8
    have hI : ∀ (a lo hi : Int) (b : Bool), inR a lo hi = b → ∀ W, Calls Try.prog 56 #[.int .i64 a, .int .i64 lo, .int .i64 hi] W fun e w' => e = .returned (.bool b) ∧ Drawn0 W w' := fun a lo hi b e W => spec_l1In.calls a lo hi b W (by rw [l1In_eq, e])
    obtain ⟨b1, hb1⟩ : ∃ b, inR x.f0 1 99 = b := ⟨_, rfl⟩
    obtain ⟨b2, hb2⟩ : ∃ b, inR x.f1 1 99 = b := ⟨_, rfl⟩
    obtain ⟨b3, hb3⟩ : ∃ b, inR x.f2 0 (x.f5.length : Int) = b := ⟨_, rfl⟩
    obtain ⟨b4, hb4⟩ : ∃ b, inR x.f4 0 (x.f5.length : Int) = b := ⟨_, rfl⟩
    obtain ⟨b5, hb5⟩ : ∃ b, inR x.f3 0 100000 = b := ⟨_, rfl⟩
    have hI1 := hI _ _ _ _ hb1
    have hI2 := hI _ _ _ _ hb2
    have hI3 := hI _ _ _ _ hb3
    have hI4 := hI _ _ _ _ hb4
    have hI5 := hI _ _ _ _ hb5
    have HE1 := Aside0.mk hb1
    have HE2 := Aside0.mk hb2
    have HE3 := Aside0.mk hb3
    have HE4 := Aside0.mk hb4
    have HE5 := Aside0.mk hb5
    clear hI hb1 hb2 hb3 hb4 hb5
    go_cut [71] (fun v71 wc => ∃ b : Bool, v71 = .bool b ∧ Aside0 (b = !rowT l0 (kk : Int)) ∧ Aside0 (wc.heap[gb]? = some (.cells #[.int .i64 x.f0, .int .i64 x.f1, .int .i64 x.f2, .int .i64 x.f3, .int .i64 x.f4, .slice A5 x.f5.length c5] 78 (0, 0))) ∧ Aside0 (Below w.heap.size w wc))
    case first =>
      cases b1 with
      | false =>
        have HRW : Aside0 (rowT l0 (kk : Int) = false) := ⟨row_no1 (by rw [HX.out]; exact HE1.out)⟩
        go_quiet ((go_at_call 56; (with_reducible first | refine (hI1 _).mono ?_ | refine (hI2 _).mono ?_ | refine (hI3 _).mono ?_ | refine (hI4 _).mono ?_ | refine (hI5 _).mono ?_); rintro e w' ⟨rfl, nd, rfl⟩; exact ⟨rfl, _, World.drewN_drewN ..⟩))
        try go_wp2
        go_meet
        case rel => exact ⟨true, rfl, ⟨by rw [HRW.out]; rfl⟩, ⟨blk_drewN HBX.out _⟩, ⟨pw_below_drewN HB8.out _⟩⟩
      | true =>
        cases b2 with
        | false =>
          have HRW : Aside0 (rowT l0 (kk : Int) = false) := ⟨row_no2 (by rw [HX.out]; exact HE2.out)⟩
          go_quiet ((go_at_call 56; (with_reducible first | refine (hI1 _).mono ?_ | refine (hI2 _).mono ?_ | refine (hI3 _).mono ?_ | refine (hI4 _).mono ?_ | refine (hI5 _).mono ?_); rintro e w' ⟨rfl, nd, rfl⟩; exact ⟨rfl, _, World.drewN_drewN ..⟩))
          try go_wp2
          go_meet
          case rel => exact ⟨true, rfl, ⟨by rw [HRW.out]; rfl⟩, ⟨blk_drewN HBX.out _⟩, ⟨pw_below_drewN HB8.out _⟩⟩
        | true =>
          cases b3 with
          | false =>
            have HRW : Aside0 (rowT l0 (kk : Int) = false) := ⟨row_no3 (by rw [HX.out]; exact HE3.out)⟩
            go_quiet ((go_at_call 56; (with_reducible first | refine (hI1 _).mono ?_ | refine (hI2 _).mono ?_ | refine (hI3 _).mono ?_ | refine (hI4 _).mono ?_ | refine (hI5 _).mono ?_); rintro e w' ⟨rfl, nd, rfl⟩; exact ⟨rfl, _, World.drewN_drewN ..⟩))
            try go_wp2
            go_meet
            case rel => exact ⟨true, rfl, ⟨by rw [HRW.out]; rfl⟩, ⟨blk_drewN HBX.out _⟩, ⟨pw_below_drewN HB8.out _⟩⟩
          | true =>
            cases b4 with
            | false =>
              have HRW : Aside0 (rowT l0 (kk : Int) = false) := ⟨row_no4 (by rw [HX.out]; exact HE4.out)⟩
              go_quiet ((go_at_call 56; (with_reducible first | refine (hI1 _).mono ?_ | refine (hI2 _).mono ?_ | refine (hI3 _).mono ?_ | refine (hI4 _).mono ?_ | refine (hI5 _).mono ?_); rintro e w' ⟨rfl, nd, rfl⟩; exact ⟨rfl, _, World.drewN_drewN ..⟩))
              try go_wp2
              go_meet
              case rel => exact ⟨true, rfl, ⟨by rw [HRW.out]; rfl⟩, ⟨blk_drewN HBX.out _⟩, ⟨pw_below_drewN HB8.out _⟩⟩
            | true =>
              cases b5 with
              | false =>
                have HRW : Aside0 (rowT l0 (kk : Int) = false) := ⟨row_no5 (by rw [HX.out]; exact HE5.out)⟩
                go_quiet ((go_at_call 56; (with_reducible first | refine (hI1 _).mono ?_ | refine (hI2 _).mono ?_ | refine (hI3 _).mono ?_ | refine (hI4 _).mono ?_ | refine (hI5 _).mono ?_); rintro e w' ⟨rfl, nd, rfl⟩; exact ⟨rfl, _, World.drewN_drewN ..⟩))
                try go_wp2
                go_meet
                case rel => exact ⟨true, rfl, ⟨by rw [HRW.out]; rfl⟩, ⟨blk_drewN HBX.out _⟩, ⟨pw_below_drewN HB8.out _⟩⟩
              | true =>
                by_cases h20 : 20 < (x.f5.length : Int)
                · have H20 := Aside0.mk h20
                  have hd20 : (20 < (x.f5.length : Int)) = True := eq_true h20
                  have hd20n : (20 < x.f5.length) = True := eq_true (by omega)
                  clear h20
                  have HRW : Aside0 (rowT l0 (kk : Int) = false) := ⟨row_no6 (by rw [HX.out]; exact H20.out)⟩
                  go_quiet ((go_at_call 56; (with_reducible first | refine (hI1 _).mono ?_ | refine (hI2 _).mono ?_ | refine (hI3 _).mono ?_ | refine (hI4 _).mono ?_ | refine (hI5 _).mono ?_); rintro e w' ⟨rfl, nd, rfl⟩; exact ⟨rfl, _, World.drewN_drewN ..⟩))
                  try go_wp2
                  go_meet
                  case rel => exact ⟨true, rfl, ⟨by rw [HRW.out]; rfl⟩, ⟨blk_drewN HBX.out _⟩, ⟨pw_below_drewN HB8.out _⟩⟩
                · have H20 := Aside0.mk h20
                  have hd20 : (20 < (x.f5.length : Int)) = False := eq_false h20
                  have hd20n : (20 < x.f5.length) = False := eq_false (by omega)
                  clear h20
                  by_cases hk0 : 0 < kk
                  rotate_left
                  · have hkb : (0 < (kk : Int)) = False := eq_false (by omega)
                    have hkbn : (0 < kk) = False := eq_false hk0
                    have HAS : Aside0 (0 < (kk : Int) → ¬ x.f0 ≤ (rdT l0 ((kk : Int) - 1)).f0) := ⟨fun h => by omega⟩
                    clear hk0
                    have HRW : Aside0 (rowT l0 (kk : Int) = true) := ⟨row_yes (by rw [HX.out]; exact HE1.out) (by rw [HX.out]; exact HE2.out) (by rw [HX.out]; exact HE3.out) (by rw [HX.out]; exact HE4.out) (by rw [HX.out]; exact HE5.out) (by rw [HX.out]; exact H20.out) (by rw [HX.out]; exact HAS.out)⟩
                    go_quiet ((go_at_call 56; (with_reducible first | refine (hI1 _).mono ?_ | refine (hI2 _).mono ?_ | refine (hI3 _).mono ?_ | refine (hI4 _).mono ?_ | refine (hI5 _).mono ?_); rintro e w' ⟨rfl, nd, rfl⟩; exact ⟨rfl, _, World.drewN_drewN ..⟩))
                    try go_wp2
                    go_meet
                    case rel => exact ⟨false, rfl, ⟨by rw [HRW.out]; rfl⟩, ⟨blk_drewN HBX.out _⟩, ⟨pw_below_drewN HB8.out _⟩⟩
                  have hkb : (0 < (kk : Int)) = True := eq_true (by omega)
                  have hkbn : (0 < kk) = True := eq_true hk0
                  obtain ⟨m, hm⟩ : ∃ m : Nat, (kk : Int) - 1 = (m : Int) := ⟨kk - 1, by omega⟩
                  obtain ⟨ad2, A52, c52, e2, ⟨y0, _⟩, _⟩ := tmAt_of (Kd.C_below HR0.out HB8.out) m (by have := HLT.out; omega)
                  cases e2
                  obtain ⟨q, hq⟩ : ∃ q, (rdT l0 (m : Int)).f0 = q := ⟨_, rfl⟩
                  rw [hq] at y0
                  have hwk : IntKind.i64.wrap ((kk : Int) - 1) = (m : Int) := by rw [hm, IntKind.wrap_i64]; have := HLT.out; have := HS.out.1; omega
                  have hwk2 : wrap64 ((kk : Int) - 1) = (m : Int) := (i64_w _).symm.trans hwk
                  have hml : ((m : Int) < (l0.length : Int)) = True := eq_true (by have := HLT.out; omega)
                  have HQ : Aside0 ((rdT l0 ((kk : Int) - 1)).f0 = q) := ⟨by rw [hm]; exact hq⟩
                  clear hm hq hk0
                  by_cases has : x.f0 ≤ q
                  · have HAS := Aside0.mk has
                    have hab : (x.f0 ≤ q) = True := eq_true has
                    clear has
                    have HRW : Aside0 (rowT l0 (kk : Int) = false) := ⟨row_no7 (of_eq_true hkb) (by rw [HX.out, HQ.out]; exact HAS.out)⟩
                    go_quiet ((go_at_call 56; (with_reducible first | refine (hI1 _).mono ?_ | refine (hI2 _).mono ?_ | refine (hI3 _).mono ?_ | refine (hI4 _).mono ?_ | refine (hI5 _).mono ?_); rintro e w' ⟨rfl, nd, rfl⟩; exact ⟨rfl, _, World.drewN_drewN ..⟩))
                    try go_wp2
                    go_meet
                    case rel => exact ⟨true, rfl, ⟨by rw [HRW.out]; rfl⟩, ⟨blk_drewN HBX.out _⟩, ⟨pw_below_drewN HB8.out _⟩⟩
                  · have HAS : Aside0 (0 < (kk : Int) → ¬ x.f0 ≤ (rdT l0 ((kk : Int) - 1)).f0) := ⟨fun _ => by rw [HQ.out]; exact has⟩
                    have hab : (x.f0 ≤ q) = False := eq_false has
                    clear has
                    have HRW : Aside0 (rowT l0 (kk : Int) = true) := ⟨row_yes (by rw [HX.out]; exact HE1.out) (by rw [HX.out]; exact HE2.out) (by rw [HX.out]; exact HE3.out) (by rw [HX.out]; exact HE4.out) (by rw [HX.out]; exact HE5.out) (by rw [HX.out]; exact H20.out) (by rw [HX.out]; exact HAS.out)⟩
                    go_quiet ((go_at_call 56; (with_reducible first | refine (hI1 _).mono ?_ | refine (hI2 _).mono ?_ | refine (hI3 _).mono ?_ | refine (hI4 _).mono ?_ | refine (hI5 _).mono ?_); rintro e w' ⟨rfl, nd, rfl⟩; exact ⟨rfl, _, World.drewN_drewN ..⟩))
                    try go_wp2
                    go_meet
                    case rel => exact ⟨false, rfl, ⟨by rw [HRW.out]; rfl⟩, ⟨blk_drewN HBX.out _⟩, ⟨pw_below_drewN HB8.out _⟩⟩
    case rest =>
      clear hI1 hI2 hI3 hI4 hI5 hz0 hz1 hz2 hz3 hz4 hz5 HE1 HE2 HE3 HE4 HE5 HBX HB8
      obtain ⟨b, rfl, HBV, HBX, HB8⟩ := hcut
      by_cases hrow : rowT l0 (kk : Int) = true
      rotate_left
      · obtain rfl : b = true := by rw [HBV.out, Bool.eq_false_iff.mpr hrow]; rfl
        have HR1 : Aside0 (r = false) := ⟨by
          rw [← HR.out]
          exact areT_no HLT.out (by unfold okT; rw [Bool.eq_false_iff.mpr hrow, Bool.false_and])⟩
        clear hrow
        go_wp2
        go_ret
        exact ⟨by rw [HR1.out]; rfl, HB8.out⟩
      obtain rfl : b = false := by rw [HBV.out, hrow]; rfl
      have HROW := Aside0.mk hrow
      clear hrow
      obtain ⟨⟨hz0, hz1, hz2, hz3, hz4, hz5⟩, _⟩ := cells6 HBX.out
      go_wp2
      go_loopg [5] x.f5.length (fun gg v5 wr => ∃ mm : Nat, v5 = .int .i64 mm ∧ Aside0 (mm ≤ x.f5.length ∧ x.f5.length - mm ≤ gg) ∧ Aside0 (∀ (j : Nat) (hj : j < x.f5.length), j < mm → metB l0 (kk : Int) x.f5[j] = true) ∧ Aside0 (wr.heap[gb]? = some (.cells #[.int .i64 x.f0, .int .i64 x.f1, .int .i64 x.f2, .int .i64 x.f3, .int .i64 x.f4, .slice A5 x.f5.length c5] 78 (0, 0))) ∧ Aside0 (Below w.heap.size w wr))
      case atStart => exact ⟨0, rfl, ⟨by omega⟩, ⟨fun j _ hj => by omega⟩, HBX, HB8⟩
      case round =>
        obtain ⟨mm, rfl, HI2, HOK2, HBX2, HB9⟩ := hrel
        clear hz0 hz1 hz2 hz3 hz4 hz5 HBX HB8
        by_cases hlt2 : mm < x.f5.length
        rotate_left
        · have hltb2 : ((mm : Int) < (x.f5.length : Int)) = False := eq_false (by omega)
          have HOKK : Aside0 (okT l0 (kk : Int) = true) := ⟨by
            unfold okT
            rw [HROW.out, Bool.true_and, HX.out, List.all_eq_true]
            intro id hid
            obtain ⟨j, hj, rfl⟩ := List.mem_iff_getElem.1 hid
            exact HOK2.out j hj (by omega)⟩
          obtain ⟨⟨hz0, hz1, hz2, hz3, hz4, hz5⟩, _⟩ := cells6 HBX2.out
          clear hlt2
          go_wp2
          go_roundg (l0.length - (kk + 1))
          case measure => have := HI.out; have := HLT.out; omega
          case rel =>
            have hw : wrap64 ((kk : Int) + 1) = ((kk + 1 : Nat) : Int) := by have := HLT.out; have := HS.out.1; unfold wrap64; omega
            refine ⟨kk + 1, by rw [hw], ⟨by have := HLT.out; omega⟩, ⟨fun j hj => ?_⟩, HB9⟩
            by_cases e : j = kk
            · subst e
              exact HOKK.out
            · exact HOK.out j (by omega)
        have hltb2 : ((mm : Int) < (x.f5.length : Int)) = True := eq_true (by omega)
        obtain ⟨a5, e5, hc5⟩ := atIntT (HI6.out _ HB9.out) mm hlt2
        subst e5
        obtain ⟨id, hid⟩ : ∃ id, x.f5[mm] = id := ⟨_, rfl⟩
        rw [hid] at hc5
        have HID : Aside0 (x.f5[mm]? = some id) := ⟨by rw [List.getElem?_eq_getElem hlt2, hid]⟩
        have HLT2 := Aside0.mk hlt2
        clear hid hlt2
        have HNO : Aside0 (metB l0 (kk : Int) id = false → r = false) := ⟨fun h => by
          rw [← HR.out]
          refine areT_no HLT.out ?_
          unfold okT
          rw [HX.out, Bool.and_eq_false_iff]
          right
          rw [List.all_eq_false]
          exact ⟨id, List.mem_of_getElem? HID.out, by rw [h]; simp⟩⟩
        have hr_ := findT_range l0 id
        have hfid_ := @findT_id l0 id
        have HMET : Aside0 (metB l0 (kk : Int) id = decide (0 ≤ findT l0 id ∧ findT l0 id ≠ kk ∧ (((rdT l0 (findT l0 id)).f5.count x.f0 : Nat) : Int) = ((x.f5.count id : Nat) : Int))) := ⟨by unfold metB; rw [HX.out]⟩
        have HSELF : Aside0 (id = x.f0 → findT l0 id = kk) := ⟨fun h => by rw [h, ← HX.out]; exact findT_self (asc_of HOK.out HROW.out) HLT.out⟩
        obtain ⟨k0_, hk0_⟩ := sFindTeam_ev l0 id HS.out.1
        have hF : ∀ W, Below w.heap.size w W → Calls Try.prog 62 #[.slice (some ad) l0.length c0, .int .i64 id] W fun e w' => e = .returned (.int .i64 (findT l0 id)) ∧ Below W.heap.size W w' := fun W hW => (spec_FindTeam.calls k0_ (some ad) c0 l0 id _ W (Kd.C_below HR0.out hW) HC0.out (hk0_ k0_ (Nat.le_refl _))).mono (by rintro e w' ⟨h, nd, rfl⟩; exact ⟨h, pw_below_drewN (Below.refl _ _) _⟩)
        clear hk0_
        generalize findT l0 id = f at hr_ hfid_ HMET HSELF hF
        have HF := Aside0.mk hF
        have hF := HF.out
        obtain ⟨⟨hz0, hz1, hz2, hz3, hz4, hz5⟩, _⟩ := cells6 HBX2.out
        by_cases hf : f < 0
        · have hfb : (f < 0) = True := eq_true hf
          have HR1 : Aside0 (r = false) := ⟨HNO.out (by rw [HMET.out]; exact decide_eq_false (fun h => by omega))⟩
          clear hf hr_ hfid_ HF
          go_wp2_with (go_at_call 62; refine (hF _ ?hw).mono ?_; (case hw => (repeat (first | exact HB9.out | apply pw_below_drewN | apply below_drew1))); rintro e w10 ⟨rfl, hb10⟩; have HB10 := Aside0.mk (below_step (by repeat (first | exact HB9.out | apply pw_below_drewN | apply below_drew1)) hb10); have HBX3 := Aside0.mk (blk_below (by repeat (first | exact HBX2.out | refine blk_drewN ?_ _ | refine blk_drew ?_)) hb10); clear hb10 hz0 hz1 hz2 hz3 hz4 hz5 hF; obtain ⟨⟨hz0, hz1, hz2, hz3, hz4, hz5⟩, _⟩ := cells6 HBX3.out)
          go_quiet (fail)
          go_wp2
          go_ret
          exact ⟨by rw [HR1.out]; rfl, pw_below_drewN HB10.out _⟩
        have hfb : (f < 0) = False := eq_false hf
        obtain ⟨fn, rfl⟩ : ∃ n : Nat, f = (n : Int) := ⟨f.toNat, by omega⟩
        have hfl : ((fn : Int) < (l0.length : Int)) = True := eq_true hr_.2
        have hy0 := hfid_ (by omega)
        by_cases hsame : (fn : Int) = (kk : Int)
        · have hsb : ((fn : Int) == (kk : Int)) = true := beq_iff_eq.mpr hsame
          have HR1 : Aside0 (r = false) := ⟨HNO.out (by rw [HMET.out]; exact decide_eq_false (fun h => h.2.1 hsame))⟩
          clear hf hr_ hfid_ HF hsame hy0
          go_wp2_with (go_at_call 62; refine (hF _ ?hw).mono ?_; (case hw => (repeat (first | exact HB9.out | apply pw_below_drewN | apply below_drew1))); rintro e w10 ⟨rfl, hb10⟩; have HB10 := Aside0.mk (below_step (by repeat (first | exact HB9.out | apply pw_below_drewN | apply below_drew1)) hb10); have HBX3 := Aside0.mk (blk_below (by repeat (first | exact HBX2.out | refine blk_drewN ?_ _ | refine blk_drew ?_)) hb10); clear hb10 hz0 hz1 hz2 hz3 hz4 hz5 hF; obtain ⟨⟨hz0, hz1, hz2, hz3, hz4, hz5⟩, _⟩ := cells6 HBX3.out)
          go_quiet (fail)
          go_wp2
          go_ret
          exact ⟨by rw [HR1.out]; rfl, pw_below_drewN HB10.out _⟩
        have hsb : ((fn : Int) == (kk : Int)) = false := beq_false_of_ne hsame
        have HNS : Aside0 ((fn : Int) ≠ kk) := ⟨hsame⟩
        have HFN : Aside0 (fn < l0.length) := ⟨by omega⟩
        obtain ⟨ad2, A6, c6, e6, hat2, hl6, hi6⟩ := tmAt_of HR0.out fn HFN.out
        cases e6
        have hy5 : (rdT l0 (fn : Int)).f5.length ≤ 1099511627776 := HS.out.2 _ (rdTm_mem (by omega) (by omega))
        obtain ⟨y, hy⟩ : ∃ y, rdT l0 (fn : Int) = y := ⟨_, rfl⟩
        rw [hy] at hat2 hl6 hi6 hy0 HMET hy5
        have HAT2 := Aside0.mk hat2
        have HY0 := Aside0.mk hy0
        obtain ⟨k1, hk1⟩ := spec_l19Countex x.f5 id HX5.out
        obtain ⟨k2, hk2⟩ := spec_l19Countex y.f5 x.f0 hy5
        have hT1 : ∀ W, Below w.heap.size w W → Calls Try.prog 89 #[.slice (some a5) x.f5.length c5, .int .i64 id] W fun e w' => e = .returned (.int .i64 ((x.f5.count id : Nat) : Int)) ∧ Drawn0 W w' := fun W hW => spec_l19Count.calls k1 (some a5) c5 x.f5 id _ W (HI6.out W hW) HL5.out hk1
        have hT2 : ∀ W, Below w.heap.size w W → Calls Try.prog 89 #[.slice A6 y.f5.length c6, .int .i64 x.f0] W fun e w' => e = .returned (.int .i64 ((y.f5.count x.f0 : Nat) : Int)) ∧ Drawn0 W w' := fun W hW => spec_l19Count.calls k2 A6 c6 y.f5 x.f0 _ W (Kd.C_below hi6 hW) hl6 hk2
        clear hf hr_ hfid_ HF hsame hy0 hy hat2 hl6 hy5 hk1 hk2
        generalize x.f5.count id = n1 at hT1 HMET
        generalize y.f5.count x.f0 = n2 at hT2 HMET
        by_cases hn : n2 = n1
        rotate_left
        · have hnb : ((n1 : Int) != (n2 : Int)) = true := bne_iff_ne.mpr (by omega)
          have hnb2 : ((n2 : Int) != (n1 : Int)) = true := bne_iff_ne.mpr (by omega)
          have HR1 : Aside0 (r = false) := ⟨HNO.out (by rw [HMET.out]; exact decide_eq_false (fun h => hn (by omega)))⟩
          clear hn
          go_wp2_with (go_at_call 62; refine (hF _ ?hw).mono ?_; (case hw => (repeat (first | exact HB9.out | apply pw_below_drewN | apply below_drew1))); rintro e w10 ⟨rfl, hb10⟩; have HB10 := Aside0.mk (below_step (by repeat (first | exact HB9.out | apply pw_below_drewN | apply below_drew1)) hb10); have HBX3 := Aside0.mk (blk_below (by repeat (first | exact HBX2.out | refine blk_drewN ?_ _ | refine blk_drew ?_)) hb10); clear hb10 hz0 hz1 hz2 hz3 hz4 hz5 hF; obtain ⟨⟨hz0, hz1, hz2, hz3, hz4, hz5⟩, _⟩ := cells6 HBX3.out)
          obtain ⟨y0, _, _, _, _, y5⟩ := HAT2.out.below HB10.out
          rw [HY0.out] at y0
          go_quiet ((go_at_call 89; (with_reducible first | refine (hT1 _ ?hw).mono ?_ | refine (hT2 _ ?hw).mono ?_); (case hw => exact pw_below_drewN HB10.out _); rintro e w' ⟨rfl, nd, rfl⟩; exact ⟨rfl, _, World.drewN_drewN ..⟩))
          go_wp2
          go_ret
          exact ⟨by rw [HR1.out]; rfl, pw_below_drewN HB10.out _⟩
        have hnb : ((n1 : Int) != (n2 : Int)) = false := bne_eq_false_iff_eq.mpr (by omega)
        have hnb2 : ((n2 : Int) != (n1 : Int)) = false := bne_eq_false_iff_eq.mpr (by omega)
        have HYES : Aside0 (metB l0 (kk : Int) id = true) := ⟨by rw [HMET.out]; exact decide_eq_true ⟨by omega, HNS.out, by omega⟩⟩
        clear hn
        go_wp2_with (go_at_call 62; refine (hF _ ?hw).mono ?_; (case hw => (repeat (first | exact HB9.out | apply pw_below_drewN | apply below_drew1))); rintro e w10 ⟨rfl, hb10⟩; have HB10 := Aside0.mk (below_step (by repeat (first | exact HB9.out | apply pw_below_drewN | apply below_drew1)) hb10); have HBX3 := Aside0.mk (blk_below (by repeat (first | exact HBX2.out | refine blk_drewN ?_ _ | refine blk_drew ?_)) hb10); clear hb10 hz0 hz1 hz2 hz3 hz4 hz5 hF; obtain ⟨⟨hz0, hz1, hz2, hz3, hz4, hz5⟩, _⟩ := cells6 HBX3.out)
        obtain ⟨y0, _, _, _, _, y5⟩ := HAT2.out.below HB10.out
        rw [HY0.out] at y0
        go_quiet ((go_at_call 89; (with_reducible first | refine (hT1 _ ?hw).mono ?_ | refine (hT2 _ ?hw).mono ?_); (case hw => exact pw_below_drewN HB10.out _); rintro e w' ⟨rfl, nd, rfl⟩; exact ⟨rfl, _, World.drewN_drewN ..⟩))
        go_wp2
        go_roundg (x.f5.length - (mm + 1))
        case measure => have := HI2.out; have := HLT2.out; omega
        case rel =>
          have hw : wrap64 ((mm : Int) + 1) = ((mm + 1 : Nat) : Int) := by have := HLT2.out; have := HX5.out; unfold wrap64; omega
          refine ⟨mm + 1, by rw [hw], ⟨by have := HLT2.out; omega⟩, ⟨fun j hj hjn => ?_⟩, ⟨blk_drewN HBX3.out _⟩, ⟨pw_below_drewN HB10.out _⟩⟩
          by_cases e : j = mm
          · subst e
            rw [(List.getElem?_eq_some_iff.1 HID.out).2]
            exact HYES.out
          · exact HOK2.out j hj (by omega)
end Go.Proofs.Ytdlebbmmanjffaa.A
end
section
namespace Go.Proofs
open Go.Shelf
def Try.sortT_ren : Go.Shelf.Ren := ⟨fun | 6 => 80 | 15 => 99 | 14 => 98 | 28 => 116 | 29 => 117 | 20 => 108 | 21 => 109 | 22 => 110 | 23 => 111 | 24 => 112 | 25 => 113 | 26 => 114 | 27 => 115 | 46 => 121 | 47 => 122 | 48 => 123 | 49 => 124 | 50 => 125 | 57 => 126 | n => n, fun | 22 => 44 | 24 => 78 | 25 => 101 | 3 => 3 | 39 => 111 | 0 => 0 | 53 => 130 | 55 => 132 | 4 => 4 | 46 => 123 | 45 => 122 | 50 => 127 | 5 => 5 | 9 => 9 | 66 => 135 | 70 => 139 | 76 => 141 | 77 => 142 | n => n, fun | n => n⟩
def Try.lays125_ren : Go.Shelf.Ren := ⟨fun | 125 => 99 | 128 => 116 | 129 => 117 | n => n, fun | 46 => 111 | 3 => 3 | 51 => 130 | 53 => 132 | 4 => 4 | 5 => 5 | 9 => 9 | n => n, fun | n => n⟩
end Go.Proofs
end
section
set_option linter.unusedVariables false
set_option linter.unusedSimpArgs false
namespace Go.Proofs.Ytdlebbmmanjffaa.A
open Go.RowKit Go.Proofs.YtdlebbmmanjffaaW.PrintWords Go.Proofs.YtdlebbmmanjffaaW.PrintLast Go.Proofs.YtdlebbmmanjffaaW.PrintMore Go.Shelf Go.Sort
def cmpC (x y : Int) : Int := if x < y then -1 else if y < x then 1 else 0
def orC (a b c : Int) : Int := if a ≠ 0 then a else if b ≠ 0 then b else c
structure TmA where
  f0 : Int
  f1 : Int
  f2 : Int
  f3 : Int
  f4 : Int
  A : Option Addr
  n : Nat
  c : Nat
  deriving Inhabited
def TmA.cells (x : TmA) : List Value := [.int .i64 x.f0, .int .i64 x.f1, .int .i64 x.f2, .int .i64 x.f3, .int .i64 x.f4, .slice x.A x.n x.c]
def cmpT (x y : TmA) : Int := orC (cmpC y.f2 x.f2) (cmpC y.f3 x.f3) (cmpC x.f0 y.f0)
abbrev K3 := Int × Int × Int
def befK (u v : K3) : Bool := decide (v.1 < u.1) || (decide (u.1 = v.1) && (decide (v.2.1 < u.2.1) || (decide (u.2.1 = v.2.1) && decide (u.2.2 < v.2.2))))
theorem befK_iff {u v : K3} : befK u v = true ↔ v.1 < u.1 ∨ u.1 = v.1 ∧ (v.2.1 < u.2.1 ∨ u.2.1 = v.2.1 ∧ u.2.2 < v.2.2) := by simp [befK]
def keyA (x : TmA) : K3 := (x.f2, x.f3, x.f0)
def keyS (x : S78) : K3 := (x.f2, x.f3, x.f0)
def befB (u v : S78) : Bool := befK (keyS u) (keyS v)
def ordT (l : List S78) : List S78 := l.mergeSort (fun u v => !befB v u)
theorem sorted_one {l1 l2 : List K3} (hp : l1.Perm l2) (h1 : l1.Pairwise (fun u v => befK v u = false)) (h2 : l2.Pairwise (fun u v => befK v u = false)) : l1 = l2 := by
  refine List.Perm.eq_of_pairwise (le := fun u v => befK v u = false) (fun a b _ _ hab hba => ?_) h1 h2 hp
  rw [Bool.eq_false_iff, Ne, befK_iff] at hab hba
  have e1 : a.1 = b.1 := by omega
  have e2 : a.2.1 = b.2.1 := by omega
  have e3 : a.2.2 = b.2.2 := by omega
  exact Prod.ext e1 (Prod.ext e2 e3)
theorem ordT_sortedK (l : List S78) : ((ordT l).map keyS).Pairwise (fun u v => befK v u = false) := by
  rw [List.pairwise_map]
  have := List.pairwise_mergeSort (le := fun u v : S78 => !befB v u) (fun a b c h1 h2 => by
    simp only [befB, Bool.not_eq_true', Bool.eq_false_iff, Ne, befK_iff] at *
    omega) (fun a b => by
    simp only [befB, Bool.or_eq_true, Bool.not_eq_true', Bool.eq_false_iff, Ne, befK_iff]
    omega) l
  exact this.imp (fun h => by simpa [befB] using h)
theorem listOf {α : Type} : ∀ (n : Nat) (P : Nat → α → Prop), (∀ i, i < n → ∃ x, P i x) → ∃ d : List α, d.length = n ∧ ∀ (i : Nat) (hi : i < d.length), P i d[i]
  | 0, P, h => ⟨[], rfl, fun i hi => by simp at hi⟩
  | n + 1, P, h => by
    obtain ⟨x, hx⟩ := h 0 (by omega)
    obtain ⟨d, hd, hP⟩ := listOf n (fun i => P (i + 1)) (fun i hi => h (i + 1) (by omega))
    refine ⟨x :: d, by simp [hd], fun i hi => ?_⟩
    cases i with
    | zero => exact hx
    | succ i => exact hP i (by simpa using hi)
def kTm : Kd TmA where
  sz := 6
  E := []
  K := fun _ x cs => cs = x.cells
  M := fun _ _ _ x cs => cs = x.cells
  K_len := fun h => by rw [h]; rfl
  K_one := fun {w x cs} h u hu => by
    rw [h] at hu
    simp only [TmA.cells, List.mem_cons, List.not_mem_nil, or_false] at hu
    rcases hu with rfl | rfl | rfl | rfl | rfl | rfl <;> rfl
  K_below := fun _ h => h
  K_of_M := fun h => h
  M_mono := fun _ h => h
  M_bound := fun h => h
  M_move := fun _ h => h
  M_lower := fun _ h => h
set_option maxHeartbeats 4000000 in
set_option maxRecDepth 100000 in
theorem Before_calls (x y : TmA) (W : World) : Calls Try.prog 97 #[.agg x.cells.toArray, .agg y.cells.toArray] W fun e w' => e = .returned (.bool (befK (keyA x) (keyA y))) ∧ Below W.heap.size W w' := by
  obtain ⟨x0, x1, x2, x3, x4, xA, xn, xc⟩ := x
  obtain ⟨y0, y1, y2, y3, y4, yA, yn, yc⟩ := y
  have hu78 := Try.underlying78
  show Calls Try.prog 97 #[.agg #[.int .i64 x0, .int .i64 x1, .int .i64 x2, .int .i64 x3, .int .i64 x4, .slice xA xn xc], .agg #[.int .i64 y0, .int .i64 y1, .int .i64 y2, .int .i64 y3, .int .i64 y4, .slice yA yn yc]] W fun e w' => e = .returned (.bool (befK (x2, x3, x0) (y2, y3, y0))) ∧ _
  have hb : ∀ o p : Obj, Below W.heap.size W ((W.alloc o).alloc p) := fun o p => below_alloc (below_alloc (Below.refl _ _) _) _
  by_cases h2 : x2 = y2
  · subst h2
    by_cases h3 : y3 < x3
    · have e : befK (x2, x3, x0) (x2, y3, y0) = true := befK_iff.2 (.inr ⟨rfl, .inl h3⟩)
      have hd : (y3 < x3) = True := eq_true h3
      rw [e]
      clear e h3
      go_enter Try.func97, Try.ntmps97
      go_wp2
      go_ret
      exact ⟨rfl, hb _ _⟩
    · by_cases h4 : x3 = y3
      · subst h4
        have e : befK (x2, x3, x0) (x2, x3, y0) = decide (x0 < y0) := by
          rw [Bool.eq_iff_iff, befK_iff, decide_eq_true_eq]
          simp
        rw [e]
        clear e h3
        go_enter Try.func97, Try.ntmps97
        go_wp2
        go_ret
        exact ⟨rfl, hb _ _⟩
      · have e : befK (x2, x3, x0) (x2, y3, y0) = false := by
          rw [Bool.eq_false_iff, Ne, befK_iff]
          simp; omega
        have hd : (y3 < x3) = False := eq_false h3
        have hd2 : (x3 = y3) = False := eq_false h4
        have hd3 : (x3 == y3) = false := beq_false_of_ne h4
        rw [e]
        clear e h3 h4
        go_enter Try.func97, Try.ntmps97
        go_wp2
        go_ret
        exact ⟨rfl, hb _ _⟩
  · have e : befK (x2, x3, x0) (y2, y3, y0) = decide (y2 < x2) := by
      rw [Bool.eq_iff_iff, befK_iff, decide_eq_true_eq]
      simp only
      omega
    have hd2 : (x2 = y2) = False := eq_false h2
    have hd3 : (x2 != y2) = true := bne_iff_ne.mpr h2
    rw [e]
    clear e h2
    go_enter Try.func97, Try.ntmps97
    go_wp2
    go_ret
    exact ⟨rfl, hb _ _⟩
end Go.Proofs.Ytdlebbmmanjffaa.A
end
section
set_option linter.unusedVariables false
set_option linter.unusedSimpArgs false
namespace Go.Proofs.Ytdlebbmmanjffaa.A
open Go.RowKit Go.Proofs.YtdlebbmmanjffaaW.PrintWords Go.Proofs.YtdlebbmmanjffaaW.PrintLast Go.Proofs.YtdlebbmmanjffaaW.PrintMore Go.Shelf Go.Sort Go.Proofs.Ytdlebbmmanjffaa.L
def insKP (x : K3) (ys : List K3) : Nat → Nat
  | 0 => 0
  | k + 1 => if befK x (ys.getD k default) = true then insKP x ys k else k + 1
def insKK (ys : List K3) (x : K3) : List K3 := ys.take (insKP x ys ys.length) ++ [x] ++ ys.drop (insKP x ys ys.length)
def insP (x : TmA) (ys : List TmA) : Nat → Nat
  | 0 => 0
  | k + 1 => if befK (keyA x) (keyA (ys.getD k default)) = true then insP x ys k else k + 1
def insA (ys : List TmA) (x : TmA) : List TmA := ys.take (insP x ys ys.length) ++ [x] ++ ys.drop (insP x ys ys.length)
theorem insP_le (x : TmA) (ys : List TmA) : ∀ k, insP x ys k ≤ k
  | 0 => Nat.le_refl _
  | k + 1 => by
    rw [insP]
    split
    · have := insP_le x ys k; omega
    · exact Nat.le_refl _
theorem insA_len (ys : List TmA) (x : TmA) : (insA ys x).length = ys.length + 1 := by
  have := insP_le x ys ys.length
  unfold insA
  simp
  omega
theorem fold_len : ∀ (D ys : List TmA), (D.foldl insA ys).length = ys.length + D.length
  | [], ys => rfl
  | x :: D, ys => by
    rw [List.foldl_cons, fold_len D, insA_len, List.length_cons]
    omega
theorem insP_key (x : TmA) (ys : List TmA) : ∀ k, k ≤ ys.length → insP x ys k = insKP (keyA x) (ys.map keyA) k
  | 0, _ => rfl
  | k + 1, h => by
    have e : (ys.map keyA).getD k default = keyA (ys.getD k default) := by
      rw [List.getD_eq_getElem?_getD, List.getD_eq_getElem?_getD, List.getElem?_map, List.getElem?_eq_getElem (show k < ys.length by omega)]
      rfl
    rw [insP, insKP, e, insP_key x ys k (by omega)]
theorem insA_key (ys : List TmA) (x : TmA) : (insA ys x).map keyA = insKK (ys.map keyA) (keyA x) := by
  unfold insA insKK
  rw [List.length_map, ← insP_key x ys ys.length (Nat.le_refl _)]
  simp
theorem fold_key : ∀ (D ys : List TmA), (D.foldl insA ys).map keyA = (D.map keyA).foldl insKK (ys.map keyA)
  | [], ys => rfl
  | x :: D, ys => by rw [List.foldl_cons, fold_key D, List.map_cons, List.foldl_cons, insA_key]
def tcell (W : World) (p : Addr) (x : TmA) : Prop := W.cell? p = some (.int .i64 x.f0) ∧ W.cell? ⟨p.block, p.off + 1, none⟩ = some (.int .i64 x.f1) ∧ W.cell? ⟨p.block, p.off + 2, none⟩ = some (.int .i64 x.f2) ∧ W.cell? ⟨p.block, p.off + 3, none⟩ = some (.int .i64 x.f3) ∧ W.cell? ⟨p.block, p.off + 4, none⟩ = some (.int .i64 x.f4) ∧ W.cell? ⟨p.block, p.off + 5, none⟩ = some (.slice x.A x.n x.c)
theorem tcell.below {w W : World} {p : Addr} {x : TmA} (h : tcell w p x) (hb : Below w.heap.size w W) : tcell W p x := by
  obtain ⟨h0, h1, h2, h3, h4, h5⟩ := h
  have L : ∀ {q : Addr} {v : Value}, w.cell? q = some v → W.cell? q = some v := fun h => (hb.cell (World.block_lt_of_cell? w _ h)).trans h
  exact ⟨L h0, L h1, L h2, L h3, L h4, L h5⟩
theorem tcell_of {W : World} {A : Option Addr} {ys : List TmA} (h : Kd.C kTm W A ys.length ys) (j : Nat) (hj : j < ys.length) : ∃ ad, A = some ad ∧ tcell W (ad.add (j * 6)) ys[j] := by
  obtain ⟨ad, e, hc⟩ := h.2.2 (by omega)
  obtain ⟨c, _, hr, hcell⟩ := hc j ys[j] (List.getElem?_eq_getElem hj)
  have hr' : c = (ys[j]).cells := hr
  subst hr'
  have e1 : kTm.sz = 6 := rfl
  refine ⟨ad, e, ?_, ?_, ?_, ?_, ?_, ?_⟩
  · have := hcell 0 _ rfl
    simpa [e1] using this
  · have := hcell 1 _ rfl
    rw [e1, add_field ad (j * 6) 1 (by omega)] at this
    exact this
  · have := hcell 2 _ rfl
    rw [e1, add_field ad (j * 6) 2 (by omega)] at this
    exact this
  · have := hcell 3 _ rfl
    rw [e1, add_field ad (j * 6) 3 (by omega)] at this
    exact this
  · have := hcell 4 _ rfl
    rw [e1, add_field ad (j * 6) 4 (by omega)] at this
    exact this
  · have := hcell 5 _ rfl
    rw [e1, add_field ad (j * 6) 5 (by omega)] at this
    exact this
theorem rowsD {w : World} {A0 : Option Addr} {l0 : List S78} (h : Kd.C k78 w A0 l0.length l0) : ∃ D : List TmA, D.length = l0.length ∧ D.map keyA = l0.map keyS ∧ ∀ (i : Nat) (hi : i < D.length), ∃ ad, A0 = some ad ∧ tcell w (ad.add (i * 6)) D[i] := by
  obtain ⟨D, hD, hP⟩ := listOf l0.length (fun i (x : TmA) => (∀ hi : i < l0.length, keyA x = keyS l0[i]) ∧ ∃ ad, A0 = some ad ∧ tcell w (ad.add (i * 6)) x) (fun i hi => by
    obtain ⟨ad, A5, c5, e0, hat, _, _⟩ := tmAt_of h i hi
    have er : rdT l0 (i : Int) = l0[i] := rdTm hi
    rw [er] at hat
    exact ⟨⟨l0[i].f0, l0[i].f1, l0[i].f2, l0[i].f3, l0[i].f4, A5, l0[i].f5.length, c5⟩, fun _ => rfl, ad, e0, hat⟩)
  refine ⟨D, hD, ?_, fun i hi => (hP i hi).2⟩
  apply List.ext_getElem
  · simp [hD]
  · intro i h1 h2
    simp only [List.length_map] at h1 h2
    simp only [List.getElem_map]
    exact (hP i h1).1 h2
theorem madeT' {W : World} {base m : Nat} (hm : m = W.heap.size) (h : base ≤ W.heap.size) : Kd.R kTm 78 (W.alloc (.cells #[] 78)) base (fun _ => True) (.slice (some ⟨m, 0, none⟩) 0 0) [] := by
  subst hm
  exact ⟨fun _ _ => trivial, [], World.ownsRow_made (base := base) W #[] 0 h (Nat.zero_le _) rfl, Reps.none _ _⟩
theorem oneT_at {W : World} {m : Nat} {x : TmA} (en : W.heap[m]? = some (.cells x.cells.toArray 78 (0, 0))) : Kd.C kTm W (some ⟨m, 0, none⟩) 1 [x] := by
  refine ⟨rfl, by decide, fun _ => ⟨_, rfl, fun i z hz => ?_⟩⟩
  rcases i with _ | i
  · simp only [List.getElem?_cons_zero, Option.some.injEq] at hz
    subst hz
    refine ⟨x.cells, rfl, rfl, fun j u hj => ?_⟩
    have e1 : kTm.sz = 6 := rfl
    rw [e1, Nat.zero_mul, Nat.zero_add]
    rw [show (⟨m, 0, none⟩ : Addr).add j = ⟨m, j, none⟩ by rw [Addr.add_lit, Nat.zero_add]]
    rw [cell_of_row W m j _ _ (0, 0) en]
    simpa using hj
  · simp at hz
theorem oneT' {W : World} {m : Nat} {x : TmA} (hm : m = W.heap.size) : Kd.C kTm (W.alloc (.cells #[.int .i64 x.f0, .int .i64 x.f1, .int .i64 x.f2, .int .i64 x.f3, .int .i64 x.f4, .slice x.A x.n x.c] 78)) (some ⟨m, 0, none⟩) 1 [x] := by
  subst hm
  exact oneT_at (blk_new W _)
theorem oneT_kept {W w5 : World} {m : Nat} {x : TmA} {row : Option Nat} (h : W.heap[m]? = some (.cells #[.int .i64 x.f0, .int .i64 x.f1, .int .i64 x.f2, .int .i64 x.f3, .int .i64 x.f4, .slice x.A x.n x.c] 78 (0, 0))) (hg : W.grownBy w5 row) (hne : some m ≠ row) : Kd.C kTm w5 (some ⟨m, 0, none⟩) 1 [x] := oneT_at (blk_grown h hg hne)
theorem blk_newT {W : World} {o : Obj} {m : Nat} (hm : m = W.heap.size) : (W.alloc o).heap[m]? = some o := by
  subst hm
  exact blk_new W o
theorem gateT {P : Program} {ops : Array Oper} {o : Oper} {a : Act} {W : World} {Kc : Act → World → Prop} {Q : Exit → Act → World → Prop} (N : Tmp) (hd : o.dst = some N) (k : if Region.wanted o (yielded ops a.tmps) = true then Oper.wp P o a W Kc Q else Kc (a.put o.dst undef) W) : if Region.wanted o (yielded ops a.tmps) = true then Oper.wp P o a W Kc Q else Kc (a.put o.dst undef) W := k
def spec_Standing.f (k : Nat) (l0 : List S78) : Option (List Int) := (spec_AreTeams.f k l0).bind fun b => if b = true then (if l0.length ≤ 12 then some (((l0.map keyS).foldl insKK []).map fun q => q.2.2) else none) else some []
set_option maxHeartbeats 16000000 in
set_option maxRecDepth 100000 in
theorem spec_Standing.calls (k : Nat) (A0 : Option Addr) (c0 : Nat) (l0 : List S78) (r : List Int) (w : World) (hr0 : Kd.C k78 w A0 l0.length l0) (hc0 : l0.length ≤ c0) (h : spec_Standing.f k l0 = some r) :
    Calls Try.prog 78 #[.slice A0 l0.length c0] w fun e w' => ∃ v0_, e = .returned v0_ ∧ Kd.R (Kd.int .i64) 3 w' w.heap.size (fun _ => True) v0_ r ∧ Below w.heap.size w w' := by
  unfold spec_Standing.f at h
  replace h := Option.bind_eq_some_iff.mp h
  obtain ⟨b, hb, h⟩ := h
  cases b with
  | false =>
    rw [if_neg (by simp)] at h
    obtain rfl := Option.some.inj h
    have hpos : 0 < l0.length := by
      rcases Nat.eq_zero_or_pos l0.length with h0 | h0
      · have := List.eq_nil_of_length_eq_zero h0
        subst this
        unfold spec_AreTeams.f at hb
        have e : smallT ([] : List S78) = true := rfl
        rw [if_pos e] at hb
        have := Option.some.inj hb
        cases this
      · exact h0
    have hposb : (0 < (l0.length : Int)) = True := eq_true (by omega)
    have hposc : (0 < l0.length) = True := eq_true hpos
    have hA : ∀ W, Below w.heap.size w W → Calls Try.prog 69 #[.slice A0 l0.length c0] W fun e w' => e = .returned (.bool false) ∧ Below W.heap.size W w' := fun W hW => spec_AreTeams.calls k A0 c0 l0 false W (Kd.C_below hr0 hW) hc0 hb
    have HA := Aside0.mk hA
    clear hA hr0 hb h hpos
    go_enter Try.func78, Try.ntmps78
    go_wp2
    refine wp_loop_rounds 1 ?_
    rw [rounds_succ]
    go_wp2_with (go_at_call 69; refine (HA.out _ ?hw).mono ?_; (case hw => exact below_alloc (Below.refl _ _) _); rintro e w1 ⟨rfl, hb1⟩; have HB1 := Aside0.mk (below_step (below_alloc (Below.refl _ w) _) hb1); clear hb1)
    refine wp_loop_rounds 1 ?_
    rw [rounds_succ]
    go_wp2
    go_ret
    exact ⟨_, rfl, Kd.R_of_own (ok := fun _ => True) (e := 3) (enc := Value.int .i64) (h1 := fun _ => rfl) (xs := []) (World.ownsRow_made (base := w.heap.size) w1 #[] 0 HB1.out.size (Nat.zero_le _) rfl) (fun _ _ => trivial), below_alloc HB1.out _⟩
  | true =>
  rw [if_pos rfl] at h
  by_cases hl : l0.length ≤ 12
  rotate_left
  · rw [if_neg hl] at h
    cases h
  rw [if_pos hl] at h
  have hA : ∀ W, Below w.heap.size w W → Calls Try.prog 69 #[.slice A0 l0.length c0] W fun e w' => e = .returned (.bool true) ∧ Below W.heap.size W w' := fun W hW => spec_AreTeams.calls k A0 c0 l0 true W (Kd.C_below hr0 hW) hc0 hb
  obtain ⟨D, hDl, hDk, hDc⟩ := rowsD hr0
  have hres : r = (D.foldl insA []).map (fun x => x.f0) := by
    have h1 := Option.some.inj h
    have h2 := fold_key D []
    rw [← h1, ← hDk]
    rw [List.map_nil] at h2
    rw [← h2, List.map_map]
    rfl
  have HA := Aside0.mk hA
  have HL := Aside0.mk hl
  have HDL := Aside0.mk hDl
  have HDC := Aside0.mk hDc
  have HRES := Aside0.mk hres
  have hu78 := Try.underlying78
  have HO0 : Aside0 (Kd.R kTm 78 (w.alloc (.cells #[] 78)) w.heap.size (fun _ => True) (.slice (some ⟨w.heap.size, 0, none⟩) 0 0) []) := ⟨madeT' rfl (Nat.le_refl _)⟩
  clear hA hl hDl hDk hDc hres hr0 hb h
  go_enter Try.func78, Try.ntmps78
  go_wp2
  go_loopg [3, 4] l0.length (fun gg v3 v4 wr => ∃ i : Nat, v4 = .int .i64 i ∧ Aside0 (i ≤ l0.length ∧ l0.length - i ≤ gg) ∧ Aside0 (Kd.R kTm 78 wr w.heap.size (fun _ => True) v3 ((D.take i).foldl insA [])) ∧ Aside0 (Below w.heap.size w wr))
  case atStart => exact ⟨0, rfl, ⟨by omega⟩, HO0, ⟨below_alloc (Below.refl _ _) _⟩⟩
  case round =>
    clear HO0
    obtain ⟨i, rfl, HI, HO, HB⟩ := hrel
    by_cases hlt : i < l0.length
    · have hltb : ((i : Int) < (l0.length : Int)) = True := eq_true (by omega)
      have HLT := Aside0.mk hlt
      obtain ⟨ys, hys⟩ : ∃ ys, ys = (D.take i).foldl insA [] := ⟨_, rfl⟩
      have hyl : ys.length = i := by
        rw [hys, fold_len, List.length_take]
        have := HDL.out
        simp
        omega
      have hO := HO.out
      rw [← hys] at hO
      obtain ⟨A3, c3, e3⟩ := Kd.R_slice hO
      subst e3
      obtain ⟨x, hx⟩ : ∃ x, D[i]'(by rw [HDL.out]; exact hlt) = x := ⟨_, rfl⟩
      obtain ⟨ad, e0, hxc⟩ := HDC.out i (by rw [HDL.out]; exact hlt)
      rw [hx] at hxc
      subst e0
      have HNEXT : Aside0 ((D.take (i + 1)).foldl insA [] = insA ys x) := ⟨by rw [List.take_succ_eq_append_getElem (by rw [HDL.out]; exact hlt), List.foldl_append, ← hys, hx]; rfl⟩
      have HXC : Aside0 (∀ W, Below w.heap.size w W → tcell W (ad.add (i * 6)) x) := ⟨fun W hW => hxc.below hW⟩
      have HY := Aside0.mk hO
      have HYL := Aside0.mk hyl
      clear hO hys hyl hxc hx hlt HO
      go_wp2_with (go_at_call 69; refine (HA.out _ ?hw).mono ?_; (case hw => (repeat (first | (with_reducible first | exact HB.out | apply below_alloc | apply pw_below_drewN | apply below_drew) | exact HB.out))); rintro e w1 ⟨rfl, hb1⟩; have HB1 := Aside0.mk (below_step (by (repeat (first | (with_reducible first | exact HB.out | apply below_alloc | apply pw_below_drewN | apply below_drew) | exact HB.out))) hb1); have HY1 := Aside0.mk (Kd.R_below (by (with_reducible repeat (first | apply Kd.R_alloc | apply Kd.R_drewN | apply Kd.R_drew)); exact HY.out) hb1); clear hb1)
      go_loopg [5] ys.length (fun gg v5 wr => ∃ p : Nat, v5 = .int .i64 p ∧ Aside0 (p ≤ ys.length ∧ p ≤ gg) ∧ Aside0 (insP x ys p = insP x ys ys.length) ∧ Aside0 (Kd.R kTm 78 wr w.heap.size (fun _ => True) (.slice A3 ys.length c3) ys) ∧ Aside0 (Below w.heap.size w wr))
      case atStart => exact ⟨ys.length, rfl, ⟨by omega⟩, ⟨rfl⟩, HY1, HB1⟩
      case round =>
        clear HY1 HB1
        obtain ⟨p, rfl, HP, HIP, HY2, HB2⟩ := hrel
        cases p with
        | zero =>
          have hp0 : (0 < ((0 : Nat) : Int)) = False := eq_false (by omega)
          go_wp2
          go_quiet (fail)
          go_wp2
          rename World => wr0
          have HIP0 : Aside0 (0 = insP x ys ys.length) := ⟨by rw [← HIP.out]; rfl⟩
          obtain ⟨y1, hy1⟩ : ∃ y, y = ys.take 0 := ⟨_, rfl⟩
          obtain ⟨y2, hy2⟩ : ∃ y, y = ys.drop 0 := ⟨_, rfl⟩
          have hpl : 0 ≤ ys.length := HP.out.1
          have hroom : ys.length ≤ c3 := (Kd.R_reads' HY2.out).2.1
          have hpI : ((0 : Nat) : Int) ≤ ((ys.length : Nat) : Int) := by omega
          obtain ⟨i0, hi0, _, hsz0, _⟩ := info_parts info78
          have ht0 : (0 : Int) ≤ 0 := by omega
          have htn : (0 : Int).toNat = 0 := rfl
          have hcut1 := cut_to (P := Try.prog) 44 78 .i64 Try.underlying44 hi0 A3 ys.length c3 0 ht0 (by omega) hroom
          have hcut2 := cut_from (P := Try.prog) 44 78 .i64 Try.underlying44 hi0 6 hsz0 A3 ys.length c3 0 ht0 (by omega)
          have hyl1 : y1.length = (0 : Int).toNat := by rw [hy1, List.length_take]; omega
          have hyl2 : y2.length = ys.length - (0 : Int).toNat := by rw [hy2, List.length_drop]; omega
          obtain ⟨A6, hA6⟩ : ∃ A1, A1 = (if c3 = (0 : Int).toNat then A3 else (A3 : Option Addr).map (·.add ((0 : Int).toNat * 6))) := ⟨_, rfl⟩
          obtain ⟨c6, hc6⟩ : ∃ c_, c_ = c3 - (0 : Int).toNat := ⟨_, rfl⟩
          rw [← hyl1] at hcut1
          rw [← hyl2, ← hA6, ← hc6] at hcut2
          have HT1 : Aside0 (∀ W, Below wr0.heap.size wr0 W → Kd.C kTm W A3 y1.length y1) := ⟨fun W hW => by rw [hy1]; exact Kd.C_take (Kd.R_reads' (Kd.R_below HY2.out hW)).2.2 hpl⟩
          have HD1 : Aside0 (∀ W, Below wr0.heap.size wr0 W → Kd.C kTm W A6 y2.length y2) := ⟨fun W hW => by rw [hy2, hA6, htn]; exact Kd.C_drop (c := c3) (Kd.R_reads' (Kd.R_below HY2.out hW)).2.2 hpl hroom⟩
          have HINS : Aside0 (insA ys x = y1 ++ [x] ++ y2) := ⟨by unfold insA; rw [← HIP0.out, hy1, hy2]⟩
          have HY12 : Aside0 (y1.length + y2.length < 1000) := ⟨by have := HYL.out; have := HLT.out; have := HL.out; omega⟩
          have hxc := HXC.out _ HB2.out
          obtain ⟨x0, x1, x2, x3, x4, x5⟩ := hxc
          have hlb : ((0 : Int) ≤ (ys.length : Int)) = True := eq_true (by omega)
          have hil : ((i : Int) < (l0.length : Int)) = True := eq_true (by have := HLT.out; omega)
          have HWI : Aside0 (wrap64 ((i : Int) + 1) = ((i + 1 : Nat) : Int)) := ⟨by have := HLT.out; have := HL.out; unfold wrap64; omega⟩
          clear hpl hroom hpI hi0 hsz0 ht0 htn hyl1 hyl2 hA6 hc6 hy1 hy2
          go_region_held3 (fun w' => w'.cell? (ad.add (i * 6)) = some (.int .i64 x.f0) ∧ w'.cell? ⟨(ad.add (i * 6)).block, (ad.add (i * 6)).off + 1, none⟩ = some (.int .i64 x.f1) ∧ w'.cell? ⟨(ad.add (i * 6)).block, (ad.add (i * 6)).off + 2, none⟩ = some (.int .i64 x.f2) ∧ w'.cell? ⟨(ad.add (i * 6)).block, (ad.add (i * 6)).off + 3, none⟩ = some (.int .i64 x.f3) ∧ w'.cell? ⟨(ad.add (i * 6)).block, (ad.add (i * 6)).off + 4, none⟩ = some (.int .i64 x.f4) ∧ w'.cell? ⟨(ad.add (i * 6)).block, (ad.add (i * 6)).off + 5, none⟩ = some (.slice x.A x.n x.c))
            (first
              | go_keep
              | exact HXC.out _ (below_step HB2.out HB7.out)
              | exact HXC.out _ (below_step HB2.out HB6.out)
              | exact HXC.out _ (below_step HB2.out HB5.out))
            ((first
              | ((with_reducible refine gateT 41 rfl ?_); refine Kd.R_append_rows_step kTm (w0 := wr0) wr0.heap.size (by rfl) (.tmp 37) (.tmp 40) 44 78 (.agg #[.int .i64 0, .int .i64 0, .int .i64 0, .int .i64 0, .int .i64 0, .slice none 0 0]) 64 (by rfl) Try.underlying44 info78 rfl (by decide) (by omega) (.slice (some ⟨_, 0, none⟩) 0 0) [] y1 _ _ _ (fun _ => True) (fun _ => False) (by rfl) (by rfl) ?hO1 (HT1.out _ (show RowKit.Below wr0.heap.size wr0 _ from by (repeat (first | (with_reducible first | exact Below.refl _ _ | apply below_alloc | apply pw_below_drewN | apply below_drew) | exact Below.refl _ _)))) (fun _ _ h => h) (fun _ h => h.elim) (fun _ _ => trivial) (show RowKit.Below wr0.heap.size wr0 _ from by (repeat (first | (with_reducible first | exact Below.refl _ _ | apply below_alloc | apply pw_below_drewN | apply below_drew) | exact Below.refl _ _))) ((show RowKit.Below wr0.heap.size wr0 _ from by (repeat (first | (with_reducible first | exact Below.refl _ _ | apply below_alloc | apply pw_below_drewN | apply below_drew) | exact Below.refl _ _))).size) (by have := HY12.out; simp; omega) ?_; (case hO1 => (with_reducible repeat (first | refine madeT' ?_ ?_ | apply Kd.R_drew | apply Kd.R_drewN | apply Kd.R_alloc)); (focus (first | rfl | (simp; done))); exact ((show RowKit.Below wr0.heap.size wr0 _ from by (repeat (first | (with_reducible first | exact Below.refl _ _ | apply below_alloc | apply pw_below_drewN | apply below_drew) | exact Below.refl _ _))).size)); intro v5 w5 hr hb hg hat; have HR5 := Aside0.mk hr; have HB5 := Aside0.mk hb; have HG5 := Aside0.mk hg; clear hr hb hg hat)
              | ((with_reducible refine gateT 47 rfl ?_); refine Kd.R_append_rows_step kTm (w0 := wr0) wr0.heap.size (by rfl) (.tmp 41) (.tmp 46) 44 78 (.agg #[.int .i64 0, .int .i64 0, .int .i64 0, .int .i64 0, .int .i64 0, .slice none 0 0]) 64 (by rfl) Try.underlying44 info78 rfl (by decide) (by omega) _ ([] ++ y1) [x] _ _ _ (fun _ => True) (fun _ => False) (by rfl) (by rfl) ?hO2 ?hR2 (fun _ _ h => h) (fun _ h => h.elim) (fun _ _ => trivial) ?hB2 ?hS2 ?hL2 ?_; (case hO2 => repeat (first | (with_reducible first | exact HR5.out | apply Kd.R_drew | apply Kd.R_drewN | apply Kd.R_alloc) | exact HR5.out)); (case hR2 => refine (show Kd.C kTm _ _ _ [x] from ?_); first | ((with_reducible refine oneT' ?_); (first | rfl | (simp; done))) | ((with_reducible refine Kd.C_drew (oneT' ?_)); (first | rfl | (simp; done))) | ((with_reducible refine oneT_kept ?_ HG5.out ?_); (focus ((with_reducible repeat (first | refine blk_newT ?_ | refine blk_drewN ?_ _ | refine blk_drew ?_ | refine blk_alloc ?_ _)); (first | rfl | (simp; done)))); (simp [Value.ownBlock]))); (case hB2 => (repeat (first | (with_reducible first | exact HB5.out | apply below_alloc | apply pw_below_drewN | apply below_drew) | exact HB5.out))); (case hS2 => exact (show RowKit.Below wr0.heap.size wr0 _ from by (repeat (first | (with_reducible first | exact HB5.out | apply below_alloc | apply pw_below_drewN | apply below_drew) | exact HB5.out))).size); (case hL2 => have := HY12.out; simp; omega); intro v6 w6 hr hb hg hat; have HR6 := Aside0.mk hr; have HB6 := Aside0.mk hb; clear hr hb hg hat)
              | ((with_reducible refine gateT 51 rfl ?_); refine Kd.R_append_rows_step kTm (w0 := wr0) wr0.heap.size (by rfl) (.tmp 47) (.tmp 50) 44 78 (.agg #[.int .i64 0, .int .i64 0, .int .i64 0, .int .i64 0, .int .i64 0, .slice none 0 0]) 64 (by rfl) Try.underlying44 info78 rfl (by decide) (by omega) _ ([] ++ y1 ++ [x]) y2 _ _ _ (fun _ => True) (fun _ => False) (by rfl) (by rfl) ?hO3 ?hR3 (fun _ _ h => h) (fun _ h => h.elim) (fun _ _ => trivial) ?hB3 ?hS3 ?hL3 ?_; (case hO3 => repeat (first | (with_reducible first | exact HR6.out | apply Kd.R_drew | apply Kd.R_drewN | apply Kd.R_alloc) | exact HR6.out)); (case hR3 => exact HD1.out _ (by (repeat (first | (with_reducible first | exact HB6.out | apply below_alloc | apply pw_below_drewN | apply below_drew) | exact HB6.out)))); (case hB3 => (repeat (first | (with_reducible first | exact HB6.out | apply below_alloc | apply pw_below_drewN | apply below_drew) | exact HB6.out))); (case hS3 => exact (show RowKit.Below wr0.heap.size wr0 _ from by (repeat (first | (with_reducible first | exact HB6.out | apply below_alloc | apply pw_below_drewN | apply below_drew) | exact HB6.out))).size); (case hL3 => have := HY12.out; simp; omega); intro v7 w7 hr hb hg hat; have HR7 := Aside0.mk hr; have HB7 := Aside0.mk hb; clear hr hb hg hat)))
          all_goals (go_wp2; go_roundg (l0.length - (i + 1)); (case measure => have := HI.out; have := HLT.out; omega); (case rel => exact ⟨i + 1, by rw [HWI.out], ⟨by have := HLT.out; omega⟩, ⟨by rw [HNEXT.out, HINS.out]; have h_ := Kd.R_lower HR7.out HB2.out.size; rw [List.nil_append] at h_; exact h_⟩, ⟨below_step HB2.out HB7.out⟩⟩))
        | succ q =>
          have hq : q < ys.length := by have := HP.out; omega
          have hqb : (0 < ((q + 1 : Nat) : Int)) = True := eq_true (by omega)
          have hqb2 : (0 < (q : Int) + 1) = True := eq_true (by omega)
          have hw1 : wrap64 ((q + 1 : Nat) - 1 : Int) = (q : Int) := by have := HP.out; have := HYL.out; have := HLT.out; have := HL.out; unfold wrap64; omega
          have hw2 : wrap64 ((q : Int) + 1 - 1) = (q : Int) := by have := HP.out; have := HYL.out; have := HLT.out; have := HL.out; unfold wrap64; omega
          have hw3 : wrap64 (q : Int) = (q : Int) := by have := HP.out; have := HYL.out; have := HLT.out; have := HL.out; unfold wrap64; omega
          have hw4 : IntKind.i64.wrap (q : Int) = (q : Int) := (i64_w _).trans hw3
          have hql : ((q : Int) < (ys.length : Int)) = True := eq_true (by omega)
          have hil : ((i : Int) < (l0.length : Int)) = True := eq_true (by have := HLT.out; omega)
          obtain ⟨y, hy⟩ : ∃ y, ys[q] = y := ⟨_, rfl⟩
          obtain ⟨ad3, e3, hyc⟩ := tcell_of (Kd.R_reads' HY2.out).2.2 q hq
          rw [hy] at hyc
          have hgd : ys.getD q default = y := by rw [List.getD_eq_getElem?_getD, List.getElem?_eq_getElem hq, hy]; rfl
          have HSTEP : Aside0 (insP x ys (q + 1) = if befK (keyA x) (keyA y) = true then insP x ys q else q + 1) := ⟨by rw [insP, hgd]⟩
          have hxc := HXC.out _ HB2.out
          clear hgd hy hq
          subst e3
          rename World => W2
          go_wp2_with fail
          refine wp_region_still_tail 12 (by kernel_rfl) (by kernel_rfl) ?_
          show wpStill _ _ (World.drew _) (fun a' => wpList _ _ _ _ a' (World.drew _)) _ _
          obtain ⟨x0, x1, x2, x3, x4, x5⟩ := (show tcell W2.drew (ad.add (i * 6)) x from hxc)
          obtain ⟨y0, y1, y2, y3, y4, y5⟩ := (show tcell W2.drew (ad3.add (q * 6)) y from hyc)
          have HY3 : Aside0 (Kd.R kTm 78 W2.drew w.heap.size (fun _ => True) (.slice (some ad3) ys.length c3) ys) := ⟨Kd.R_drew HY2.out⟩
          have HB3 : Aside0 (Below w.heap.size w W2.drew) := ⟨below_drew HB2.out⟩
          generalize W2.drew = w3 at x0 x1 x2 x3 x4 x5 y0 y1 y2 y3 y4 y5 HY3 HB3 ⊢
          clear hxc hyc
          simp only [List.take_succ_cons, List.take_zero, List.drop_succ_cons, List.drop_zero]
          repeat (first | still_step)
          refine wpStill_nil ?_
          cases hbf : befK (keyA x) (keyA y) with
          | true =>
            have hBC := Before_calls x y
            rw [hbf] at hBC
            have HST := HSTEP.out
            rw [if_pos hbf] at HST
            have HST2 := Aside0.mk HST
            clear HST hbf
            go_wp2_with (go_at_call 97; refine (hBC _).mono ?_; rintro e w4 ⟨rfl, hb4⟩; have HB4 := Aside0.mk (below_step HB3.out hb4); have HY4 := Aside0.mk (Kd.R_below HY3.out hb4); clear hb4)
            go_roundg q
            case measure => have := HP.out; omega
            case rel => exact ⟨q, by first | rfl | rw [hw3] | rw [hw1] | rw [hw2], ⟨by have := HP.out; omega⟩, ⟨by rw [← HST2.out]; exact HIP.out⟩, HY4, HB4⟩
          | false =>
            have hBC := Before_calls x y
            rw [hbf] at hBC
            have HST := HSTEP.out
            rw [if_neg (by rw [hbf]; simp)] at HST
            have HIP2 : Aside0 (q + 1 = insP x ys ys.length) := ⟨by rw [← HIP.out]; exact HST.symm⟩
            clear HST hbf
            go_wp2_with (go_at_call 97; refine (hBC _).mono ?_; rintro e w4 ⟨rfl, hb4⟩; have HB4 := Aside0.mk (below_step HB3.out hb4); have HY4 := Aside0.mk (Kd.R_below HY3.out hb4); clear hb4)
            obtain ⟨y1, hy1⟩ : ∃ y, y = ys.take (q + 1) := ⟨_, rfl⟩
            obtain ⟨y2, hy2⟩ : ∃ y, y = ys.drop (q + 1) := ⟨_, rfl⟩
            have hpl : (q + 1) ≤ ys.length := HP.out.1
            have hroom : ys.length ≤ c3 := (Kd.R_reads' HY4.out).2.1
            have hpI : (((q + 1) : Nat) : Int) ≤ ((ys.length : Nat) : Int) := by omega
            obtain ⟨i0, hi0, _, hsz0, _⟩ := info_parts info78
            obtain ⟨t, ht⟩ : ∃ t : Int, t = (((q + 1) : Nat) : Int) := ⟨_, rfl⟩
            have ht0 : 0 ≤ t := by omega
            have htn : t.toNat = (q + 1) := by omega
            have hcut1 := cut_to (P := Try.prog) 44 78 .i64 Try.underlying44 hi0 (some ad3) ys.length c3 t ht0 (by omega) hroom
            have hcut2 := cut_from (P := Try.prog) 44 78 .i64 Try.underlying44 hi0 6 hsz0 (some ad3) ys.length c3 t ht0 (by omega)
            have hyl1 : y1.length = t.toNat := by rw [hy1, List.length_take]; omega
            have hyl2 : y2.length = ys.length - t.toNat := by rw [hy2, List.length_drop]; omega
            obtain ⟨A6, hA6⟩ : ∃ A1, A1 = (if c3 = t.toNat then (some ad3) else ((some ad3) : Option Addr).map (·.add (t.toNat * 6))) := ⟨_, rfl⟩
            obtain ⟨c6, hc6⟩ : ∃ c_, c_ = c3 - t.toNat := ⟨_, rfl⟩
            rw [← hyl1] at hcut1
            rw [← hyl2, ← hA6, ← hc6] at hcut2
            have HT1 : Aside0 (∀ W, Below w4.heap.size w4 W → Kd.C kTm W (some ad3) y1.length y1) := ⟨fun W hW => by rw [hy1]; exact Kd.C_take (Kd.R_reads' (Kd.R_below HY4.out hW)).2.2 hpl⟩
            have HD1 : Aside0 (∀ W, Below w4.heap.size w4 W → Kd.C kTm W A6 y2.length y2) := ⟨fun W hW => by rw [hy2, hA6, htn]; exact Kd.C_drop (c := c3) (Kd.R_reads' (Kd.R_below HY4.out hW)).2.2 hpl hroom⟩
            have HINS : Aside0 (insA ys x = y1 ++ [x] ++ y2) := ⟨by unfold insA; rw [← HIP2.out, hy1, hy2]⟩
            have HY12 : Aside0 (y1.length + y2.length < 1000) := ⟨by have := HYL.out; have := HLT.out; have := HL.out; omega⟩
            have hxc := HXC.out _ HB4.out
            obtain ⟨x0, x1, x2, x3, x4, x5⟩ := hxc
            have hlb : (t ≤ (ys.length : Int)) = True := eq_true (by omega)
            have h0b : (0 ≤ t) = True := eq_true ht0
            have hil : ((i : Int) < (l0.length : Int)) = True := eq_true (by have := HLT.out; omega)
            have HWI : Aside0 (wrap64 ((i : Int) + 1) = ((i + 1 : Nat) : Int)) := ⟨by have := HLT.out; have := HL.out; unfold wrap64; omega⟩
            have ht2 : (q : Int) + 1 = t := by omega
            try simp only [← ht]
            try simp only [ht2]
            clear ht ht2 hqb hqb2 hw1 hw2 hw3 hw4 hql
            clear hpl hroom hpI hi0 hsz0 ht0 htn hyl1 hyl2 hA6 hc6 hy1 hy2
            go_region_held3 (fun w' => w'.cell? (ad.add (i * 6)) = some (.int .i64 x.f0) ∧ w'.cell? ⟨(ad.add (i * 6)).block, (ad.add (i * 6)).off + 1, none⟩ = some (.int .i64 x.f1) ∧ w'.cell? ⟨(ad.add (i * 6)).block, (ad.add (i * 6)).off + 2, none⟩ = some (.int .i64 x.f2) ∧ w'.cell? ⟨(ad.add (i * 6)).block, (ad.add (i * 6)).off + 3, none⟩ = some (.int .i64 x.f3) ∧ w'.cell? ⟨(ad.add (i * 6)).block, (ad.add (i * 6)).off + 4, none⟩ = some (.int .i64 x.f4) ∧ w'.cell? ⟨(ad.add (i * 6)).block, (ad.add (i * 6)).off + 5, none⟩ = some (.slice x.A x.n x.c))
              (first
                | go_keep
                | exact HXC.out _ (below_step HB4.out HB7.out)
                | exact HXC.out _ (below_step HB4.out HB6.out)
                | exact HXC.out _ (below_step HB4.out HB5.out))
              ((first
                | ((with_reducible refine gateT 41 rfl ?_); refine Kd.R_append_rows_step kTm (w0 := w4) w4.heap.size (by rfl) (.tmp 37) (.tmp 40) 44 78 (.agg #[.int .i64 0, .int .i64 0, .int .i64 0, .int .i64 0, .int .i64 0, .slice none 0 0]) 64 (by rfl) Try.underlying44 info78 rfl (by decide) (by omega) (.slice (some ⟨_, 0, none⟩) 0 0) [] y1 _ _ _ (fun _ => True) (fun _ => False) (by rfl) (by rfl) ?hO1 (HT1.out _ (show RowKit.Below w4.heap.size w4 _ from by (repeat (first | (with_reducible first | exact Below.refl _ _ | apply below_alloc | apply pw_below_drewN | apply below_drew) | exact Below.refl _ _)))) (fun _ _ h => h) (fun _ h => h.elim) (fun _ _ => trivial) (show RowKit.Below w4.heap.size w4 _ from by (repeat (first | (with_reducible first | exact Below.refl _ _ | apply below_alloc | apply pw_below_drewN | apply below_drew) | exact Below.refl _ _))) ((show RowKit.Below w4.heap.size w4 _ from by (repeat (first | (with_reducible first | exact Below.refl _ _ | apply below_alloc | apply pw_below_drewN | apply below_drew) | exact Below.refl _ _))).size) (by have := HY12.out; simp; omega) ?_; (case hO1 => (with_reducible repeat (first | refine madeT' ?_ ?_ | apply Kd.R_drew | apply Kd.R_drewN | apply Kd.R_alloc)); (focus (first | rfl | (simp; done))); exact ((show RowKit.Below w4.heap.size w4 _ from by (repeat (first | (with_reducible first | exact Below.refl _ _ | apply below_alloc | apply pw_below_drewN | apply below_drew) | exact Below.refl _ _))).size)); intro v5 w5 hr hb hg hat; have HR5 := Aside0.mk hr; have HB5 := Aside0.mk hb; have HG5 := Aside0.mk hg; clear hr hb hg hat)
                | ((with_reducible refine gateT 47 rfl ?_); refine Kd.R_append_rows_step kTm (w0 := w4) w4.heap.size (by rfl) (.tmp 41) (.tmp 46) 44 78 (.agg #[.int .i64 0, .int .i64 0, .int .i64 0, .int .i64 0, .int .i64 0, .slice none 0 0]) 64 (by rfl) Try.underlying44 info78 rfl (by decide) (by omega) _ ([] ++ y1) [x] _ _ _ (fun _ => True) (fun _ => False) (by rfl) (by rfl) ?hO2 ?hR2 (fun _ _ h => h) (fun _ h => h.elim) (fun _ _ => trivial) ?hB2 ?hS2 ?hL2 ?_; (case hO2 => repeat (first | (with_reducible first | exact HR5.out | apply Kd.R_drew | apply Kd.R_drewN | apply Kd.R_alloc) | exact HR5.out)); (case hR2 => refine (show Kd.C kTm _ _ _ [x] from ?_); first | ((with_reducible refine oneT' ?_); (first | rfl | (simp; done))) | ((with_reducible refine Kd.C_drew (oneT' ?_)); (first | rfl | (simp; done))) | ((with_reducible refine oneT_kept ?_ HG5.out ?_); (focus ((with_reducible repeat (first | refine blk_newT ?_ | refine blk_drewN ?_ _ | refine blk_drew ?_ | refine blk_alloc ?_ _)); (first | rfl | (simp; done)))); (simp [Value.ownBlock]))); (case hB2 => (repeat (first | (with_reducible first | exact HB5.out | apply below_alloc | apply pw_below_drewN | apply below_drew) | exact HB5.out))); (case hS2 => exact (show RowKit.Below w4.heap.size w4 _ from by (repeat (first | (with_reducible first | exact HB5.out | apply below_alloc | apply pw_below_drewN | apply below_drew) | exact HB5.out))).size); (case hL2 => have := HY12.out; simp; omega); intro v6 w6 hr hb hg hat; have HR6 := Aside0.mk hr; have HB6 := Aside0.mk hb; clear hr hb hg hat)
                | ((with_reducible refine gateT 51 rfl ?_); refine Kd.R_append_rows_step kTm (w0 := w4) w4.heap.size (by rfl) (.tmp 47) (.tmp 50) 44 78 (.agg #[.int .i64 0, .int .i64 0, .int .i64 0, .int .i64 0, .int .i64 0, .slice none 0 0]) 64 (by rfl) Try.underlying44 info78 rfl (by decide) (by omega) _ ([] ++ y1 ++ [x]) y2 _ _ _ (fun _ => True) (fun _ => False) (by rfl) (by rfl) ?hO3 ?hR3 (fun _ _ h => h) (fun _ h => h.elim) (fun _ _ => trivial) ?hB3 ?hS3 ?hL3 ?_; (case hO3 => repeat (first | (with_reducible first | exact HR6.out | apply Kd.R_drew | apply Kd.R_drewN | apply Kd.R_alloc) | exact HR6.out)); (case hR3 => exact HD1.out _ (by (repeat (first | (with_reducible first | exact HB6.out | apply below_alloc | apply pw_below_drewN | apply below_drew) | exact HB6.out)))); (case hB3 => (repeat (first | (with_reducible first | exact HB6.out | apply below_alloc | apply pw_below_drewN | apply below_drew) | exact HB6.out))); (case hS3 => exact (show RowKit.Below w4.heap.size w4 _ from by (repeat (first | (with_reducible first | exact HB6.out | apply below_alloc | apply pw_below_drewN | apply below_drew) | exact HB6.out))).size); (case hL3 => have := HY12.out; simp; omega); intro v7 w7 hr hb hg hat; have HR7 := Aside0.mk hr; have HB7 := Aside0.mk hb; clear hr hb hg hat)))
            all_goals (go_wp2; go_roundg (l0.length - (i + 1)); (case measure => have := HI.out; have := HLT.out; omega); (case rel => exact ⟨i + 1, by rw [HWI.out], ⟨by have := HLT.out; omega⟩, ⟨by rw [HNEXT.out, HINS.out]; have h_ := Kd.R_lower HR7.out HB4.out.size; rw [List.nil_append] at h_; exact h_⟩, ⟨below_step HB4.out HB7.out⟩⟩))
    · have hltb : ((i : Int) < (l0.length : Int)) = False := eq_false (by omega)
      have HS : Aside0 (Kd.R kTm 78 wr w.heap.size (fun _ => True) _ (D.foldl insA [])) := ⟨by
        have e : D.take i = D := List.take_of_length_le (by have := HDL.out; omega)
        have := HO.out
        rw [e] at this
        exact this⟩
      obtain ⟨ss, hss⟩ : ∃ ss, ss = D.foldl insA [] := ⟨_, rfl⟩
      have hS := HS.out
      rw [← hss] at hS
      obtain ⟨A3, c3, e3⟩ := Kd.R_slice hS
      subst e3
      have HSL : Aside0 (ss.length ≤ 12) := ⟨by rw [hss, fold_len]; have := HDL.out; have := HL.out; simp; omega⟩
      have HRS : Aside0 (r = ss.map (fun x => x.f0)) := ⟨by rw [HRES.out, hss]⟩
      have HS9 := Aside0.mk hS
      rename World => W9
      have HO9 : Aside0 (Kd.R (Kd.int .i64) 3 (W9.alloc (.cells #[] 3)) W9.heap.size (fun _ => True) (.slice (some ⟨W9.heap.size, 0, none⟩) 0 0) []) := ⟨Kd.R_of_own (ok := fun _ => True) (e := 3) (enc := Value.int .i64) (h1 := fun _ => rfl) (xs := []) (World.ownsRow_made (base := W9.heap.size) W9 #[] 0 (Nat.le_refl _) (Nat.zero_le _) rfl) (fun _ _ => trivial)⟩
      clear hlt hS hss HS HO
      go_wp2
      go_loopg [6, 7] ss.length (fun gg v6 v7 wr => ∃ j : Nat, v7 = .int .i64 j ∧ Aside0 (j ≤ ss.length ∧ ss.length - j ≤ gg) ∧ Aside0 (Kd.R (Kd.int .i64) 3 wr W9.heap.size (fun _ => True) v6 ((ss.map (fun x => x.f0)).take j)) ∧ Aside0 (Below W9.heap.size W9 wr))
      case atStart => exact ⟨0, rfl, ⟨by omega⟩, HO9, ⟨below_alloc (Below.refl _ _) _⟩⟩
      case round =>
        clear HO9
        obtain ⟨j, rfl, HJ, HV, HBV⟩ := hrel
        by_cases hj : j < ss.length
        · have hjb : ((j : Int) < (ss.length : Int)) = True := eq_true (by omega)
          obtain ⟨ad3, e3, hyc⟩ := tcell_of (Kd.R_reads' (Kd.R_below HS9.out HBV.out)).2.2 j hj
          subst e3
          obtain ⟨y, hy⟩ : ∃ y, ss[j] = y := ⟨_, rfl⟩
          rw [hy] at hyc
          obtain ⟨y0, _⟩ := hyc
          obtain ⟨vs, hvs⟩ : ∃ vs, vs = (ss.map (fun x => x.f0)).take j := ⟨_, rfl⟩
          have hV := HV.out
          rw [← hvs] at hV
          have hvl : vs.length ≤ 12 := by rw [hvs, List.length_take]; have := HSL.out; simp; omega
          obtain ⟨A6, c6, e6⟩ := Kd.R_slice hV
          subst e6
          have HV2 := Aside0.mk hV
          have HVL := Aside0.mk hvl
          have HVN : Aside0 ((ss.map (fun x => x.f0)).take (j + 1) = vs ++ [y.f0]) := ⟨by rw [List.take_succ_eq_append_getElem (by simpa using hj), ← hvs]; simp [hy]⟩
          have HJL := Aside0.mk hj
          have HWJ : Aside0 (wrap64 ((j : Int) + 1) = ((j + 1 : Nat) : Int)) := ⟨by have := HSL.out; unfold wrap64; omega⟩
          clear hV hvs hvl hy hj HV
          go_wp2_with (at_builtin; refine Kd.R_append (Kd.int .i64) (w0 := W9) W9.heap.size rfl (.tmp 59) (.tmp 65) 29 3 (.int .i64 0) 8 rfl Try.underlying29 (by kernel_rfl) rfl (by decide) (by omega) (.slice A6 vs.length c6) vs y.f0 [.int .i64 y.f0] (fun _ => True) (fun _ => False) rfl ?hx ?aP (fun _ h => h.elim) ?aF ?hO ?hB ?hs ?hl ?_; (case hx => exact rfl); (case aP => exact rfl); (case aF => exact fun _ _ => trivial); (case hO => exact HV2.out); (case hB => exact HBV.out); (case hs => exact HBV.out.size); (case hl => have := HVL.out; omega); intro v1 w4 hr hb hg hat; have H4 := Aside0.mk hr; have HB4 := Aside0.mk hb; clear hr hb hg hat)
          go_roundg (ss.length - (j + 1))
          case measure => have := HJ.out; have := HJL.out; omega
          case rel => exact ⟨j + 1, by rw [HWJ.out], ⟨by have := HJL.out; omega⟩, ⟨by rw [HVN.out]; exact H4.out⟩, HB4⟩
        · have hjb : ((j : Int) < (ss.length : Int)) = False := eq_false (by omega)
          have HE : Aside0 ((ss.map (fun x => x.f0)).take j = r) := ⟨by rw [HRS.out]; exact List.take_of_length_le (by simp; omega)⟩
          clear hj
          go_wp2
          go_ret
          have hV := HV.out
          rw [HE.out] at hV
          exact ⟨_, rfl, Kd.R_lower hV HB.out.size, below_step HB.out HBV.out⟩
end Go.Proofs.Ytdlebbmmanjffaa.A
end
section
namespace Go.Proofs.Ytdlebbmmanjffaa.A
open Go.RowKit Go.Proofs.YtdlebbmmanjffaaW.PrintWords Go.Proofs.YtdlebbmmanjffaaW.PrintLast Go.Proofs.YtdlebbmmanjffaaW.PrintMore
attribute [local go_sem] max2_int min2_int max_two min_two max_three min_three max_four min_four
set_option linter.unusedVariables false
set_option linter.unusedSimpArgs false
def spec_l4Has.l0 : Nat → List Int → Int → Int → Option (Bool)
  | 0, _, _, _ => none
  | k + 1, x0, x1, x5 => if x5 < (x0.length : Int) then (if 0 ≤ x5 then (if (rd x0 x5) = x1 then (some true) else (spec_l4Has.l0 k x0 x1 (wrap64 (x5 + 1)))) else (none)) else (some false)
def spec_l4Has.f (k : Nat) (l0 : List Int) (a1 : Int) : Option (Bool) := spec_l4Has.l0 k l0 a1 0
set_option maxHeartbeats 8000000 in
set_option maxRecDepth 100000 in
theorem spec_l4Has.calls (k : Nat) (A0 : Option Addr) (c0 : Nat) (l0 : List Int) (a1 : Int) (r : Bool) (w : World) (hr0 : Kd.C (Kd.int .i64) w A0 l0.length l0) (hc0 : l0.length ≤ c0) (h : spec_l4Has.f k l0 a1 = some r) :
  Calls Try.prog 58 #[.slice A0 l0.length c0, .int .i64 a1] w fun e w' => e = .returned (.bool r) ∧ Drawn0 w w' := by
 have HR0 := Aside0.mk hr0
 have HC0 := Aside0.mk hc0
 clear hr0 hc0
 have H : (spec_l4Has.l0 k l0 a1 0) = some r := h
 clear h
 have H' := Aside0.mk H
 clear H
 go_enter Try.func58, Try.ntmps58
 go_wp2
 go_loopg [5] k (fun kq v5 w' => ∃ (x5_1 : Int), v5 = .int .i64 x5_1 ∧ Aside0 (spec_l4Has.l0 kq l0 a1 x5_1 = some r) ∧ Aside0 (kq ≤ k) ∧ Drawn0 w w')
 case atStart => exact ⟨(0), (by first | rfl | (simp; done) | (simp [*]; done)), H', ⟨Nat.le_refl _⟩, by repeat (first | exact Drawn0.refl _ | apply Drawn0.step)⟩
 case round =>
  clear H'
  try clear p2
  obtain ⟨x5_1, rfl, HA, HK1, ⟨m1, rfl⟩⟩ := hrel
  cases gk with
  | zero => exact absurd HA.out (by simp [spec_l4Has.l0])
  | succ k1 =>
   have H := HA.out
   clear HA
   simp only [spec_l4Has.l0] at H
   by_cases c3 : x5_1 < (l0.length : Int)
   ·
    rw [if_pos c3] at H
    have c3b0 : decide (x5_1 < (l0.length : Int)) = true := decide_eq_true c3
    clear c3
    by_cases c4 : 0 ≤ x5_1
    ·
     rw [if_pos c4] at H
     have c4b0 : decide (0 ≤ x5_1) = true := decide_eq_true c4
     clear c4
     by_cases c5 : (rd l0 x5_1) = a1
     ·
      rw [if_pos c5] at H
      have c5b0 : ((rd l0 x5_1) == a1) = true := beq_iff_eq.mpr c5
      have c5b1 : ((rd l0 x5_1) != a1) = false := bne_eq_false_iff_eq.mpr c5
      clear c5
      obtain rfl := Option.some.inj H
      have p185 : 0 ≤ (x5_1 : Int) := of_decide_eq_true (by first | (with_reducible assumption) | assumption)
      have q185 : x5_1 < (l0.length : Int) := of_decide_eq_true (by first | (with_reducible assumption) | assumption)
      obtain ⟨ad185, e185, hx185_0⟩ := Kd.at_int HR0.out x5_1 p185 q185
      cases e185
      replace p185 := eq_true p185
      replace q185 := eq_true q185
      go_wp2
      go_ret
      exact ⟨by first | rfl | (simp; done) | (simp [*]; done), by repeat (first | exact Drawn0.refl _ | apply Drawn0.step)⟩
     ·
      rw [if_neg c5] at H
      have c5b0 : ((rd l0 x5_1) == a1) = false := beq_eq_false_iff_ne.mpr c5
      have c5b1 : ((rd l0 x5_1) != a1) = true := bne_iff_ne.mpr c5
      have H' := Aside0.mk H
      clear H
      have p185 : 0 ≤ (x5_1 : Int) := of_decide_eq_true (by first | (with_reducible assumption) | assumption)
      have q185 : x5_1 < (l0.length : Int) := of_decide_eq_true (by first | (with_reducible assumption) | assumption)
      obtain ⟨ad185, e185, hx185_0⟩ := Kd.at_int HR0.out x5_1 p185 q185
      cases e185
      replace p185 := eq_true p185
      replace q185 := eq_true q185
      go_wp2
      go_roundg k1
      case measure => have := HK1.out; omega
      case rel => exact ⟨(wrap64 (x5_1 + 1)), (by first | rfl | (simp; done) | (simp [*]; done)), H', ⟨by have := HK1.out; omega⟩, by repeat (first | exact Drawn0.refl _ | apply Drawn0.step)⟩
    ·
     rw [if_neg c4] at H
     exact absurd H (by simp)
   ·
    rw [if_neg c3] at H
    have c3b0 : decide (x5_1 < (l0.length : Int)) = false := decide_eq_false c3
    clear c3
    obtain rfl := Option.some.inj H
    go_wp2
    go_ret
    exact ⟨by first | rfl | (simp; done) | (simp [*]; done), by repeat (first | exact Drawn0.refl _ | apply Drawn0.step)⟩
def spec_HaveMet.f (k : Nat) (l0 : List (S78)) (a1 : Int) (a2 : Int) : Option (Bool) := (spec_FindTeam.f k l0 a1).bind fun t186 => (if t186 ≥ 0 then (if 0 ≤ t186 then (if t186 < (l0.length : Int) then ((spec_l4Has.f k ((rd_T78 l0 t186).f5) a2).bind fun t188 => (some t188)) else (none)) else (none)) else (some false))
set_option maxHeartbeats 8000000 in
set_option maxRecDepth 100000 in
theorem spec_HaveMet.calls (k : Nat) (A0 : Option Addr) (c0 : Nat) (l0 : List (S78)) (a1 : Int) (a2 : Int) (r : Bool) (w : World) (hr0 : Kd.C k78 w A0 l0.length l0) (hc0 : l0.length ≤ c0) (h : spec_HaveMet.f k l0 a1 a2 = some r) :
  Calls Try.prog 107 #[.slice A0 l0.length c0, .int .i64 a1, .int .i64 a2] w fun e w' => e = .returned (.bool r) ∧ Drawn0 w w' := by
 have HR0 := Aside0.mk hr0
 have HC0 := Aside0.mk hc0
 clear hr0 hc0
 have H : ((spec_FindTeam.f k l0 a1).bind fun t186 => (if t186 ≥ 0 then (if 0 ≤ t186 then (if t186 < (l0.length : Int) then ((spec_l4Has.f k ((rd_T78 l0 t186).f5) a2).bind fun t188 => (some t188)) else (none)) else (none)) else (some false))) = some r := h
 clear h
 replace H := Option.bind_eq_some_iff.mp H
 obtain ⟨t186, A40, H⟩ := H
 replace H : (if t186 ≥ 0 then (if 0 ≤ t186 then (if t186 < (l0.length : Int) then ((spec_l4Has.f k ((rd_T78 l0 t186).f5) a2).bind fun t188 => (some t188)) else (none)) else (none)) else (some false)) = some r := H
 have A4 := Aside0.mk A40
 clear A40
 by_cases c5 : t186 ≥ 0
 ·
  rw [if_pos c5] at H
  have c5b0 : decide (0 ≤ t186) = true := decide_eq_true c5
  clear c5
  by_cases c6 : 0 ≤ t186
  ·
   rw [if_pos c6] at H
   have c6b0 : decide (0 ≤ t186) = true := decide_eq_true c6
   clear c6
   by_cases c7 : t186 < (l0.length : Int)
   ·
    rw [if_pos c7] at H
    have c7b0 : decide (t186 < (l0.length : Int)) = true := decide_eq_true c7
    clear c7
    replace H := Option.bind_eq_some_iff.mp H
    obtain ⟨t188, A80, H⟩ := H
    replace H : (some t188) = some r := H
    have A8 := Aside0.mk A80
    clear A80
    obtain rfl := Option.some.inj H
    go_enter Try.func107, Try.ntmps107
    go_wp2_with (first | ((with_reducible refine gate_callee (f := 62) rfl ?_); refine goesL_ (some 10) rfl rfl Try.func62 (by kernel_rfl) rfl #[.slice A0 l0.length c0, .int .i64 a1] rfl (by (try simp only [Y1, Y2, Y3]); first | done | rfl | (simp only [Y4, Y5]; rfl)) ?_; (with_reducible refine (spec_FindTeam.calls k _ _ l0 a1 t186 _ ?side1 ?side2 A4.out).mono ?_); (case side1 => repeat (first | exact HR0.out | (with_reducible first | refine cA ?_ _ | refine cN ?_ _ | refine cD ?_))); (case side2 => exact HC0.out); rintro e w' ⟨rfl, ⟨nd, rfl⟩⟩; refine ⟨_, rfl, ?_⟩; have p187 : 0 ≤ (t186 : Int) := od (by assumption); have q187 : t186 < (l0.length : Int) := od (by assumption); obtain ⟨ad187, A187_5, c187_5, e187, hx187_0, hx187_1, hx187_2, hx187_3, hx187_4, hx187_5, hl187_5, hi187_5⟩ := at_T78 HR0.out t186 p187 q187; cases e187; have HR187_5 := Aside0.mk hi187_5; have HC187_5 := Aside0.mk hl187_5; clear hi187_5 hl187_5; replace p187 := eq_true p187; replace q187 := eq_true q187) | (go_at_call 58; (with_reducible refine (spec_l4Has.calls k _ _ ((rd_T78 l0 t186).f5) a2 t188 _ ?side1 ?side2 A8.out).mono ?_); (case side1 => repeat (first | exact HR187_5.out | (with_reducible first | refine cA ?_ _ | refine cN ?_ _ | refine cD ?_))); (case side2 => exact HC187_5.out); rintro e w' ⟨rfl, ⟨nd, rfl⟩⟩))
    go_ret
    exact ⟨by first | rfl | (simp; done) | (simp [*]; done), by repeat (first | exact Drawn0.refl _ | apply Drawn0.step)⟩
   ·
    rw [if_neg c7] at H
    exact absurd H (by simp)
  ·
   rw [if_neg c6] at H
   exact absurd H (by simp)
 ·
  rw [if_neg c5] at H
  have c5b0 : decide (0 ≤ t186) = false := decide_eq_false c5
  clear c5
  obtain rfl := Option.some.inj H
  go_enter Try.func107, Try.ntmps107
  go_wp2_with (first | ((with_reducible refine gate_callee (f := 62) rfl ?_); refine goesL_ (some 10) rfl rfl Try.func62 (by kernel_rfl) rfl #[.slice A0 l0.length c0, .int .i64 a1] rfl (by (try simp only [Y1, Y2, Y3]); first | done | rfl | (simp only [Y4, Y5]; rfl)) ?_; (with_reducible refine (spec_FindTeam.calls k _ _ l0 a1 t186 _ ?side1 ?side2 A4.out).mono ?_); (case side1 => repeat (first | exact HR0.out | (with_reducible first | refine cA ?_ _ | refine cN ?_ _ | refine cD ?_))); (case side2 => exact HC0.out); rintro e w' ⟨rfl, ⟨nd, rfl⟩⟩; refine ⟨_, rfl, ?_⟩))
  go_ret
  exact ⟨by first | rfl | (simp; done) | (simp [*]; done), by repeat (first | exact Drawn0.refl _ | apply Drawn0.step)⟩
def spec_MayMeet.f (k : Nat) (l0 : List (S78)) (a1 : Int) (a2 : Int) : Option (Bool) := (spec_FindTeam.f k l0 a1).bind fun t189 => ((spec_FindTeam.f k l0 a2).bind fun t190 => ((spec_AreTeams.f k l0).bind fun t191 => (if t191 = true then (if t189 ≥ 0 then (if t190 ≥ 0 then (if t189 = t190 then (some false) else (if 0 ≤ t189 then (if t189 < (l0.length : Int) then (if 0 ≤ t190 then (if t190 < (l0.length : Int) then (if ((rd_T78 l0 t189).f1) = ((rd_T78 l0 t190).f1) then (some false) else ((spec_HaveMet.f k l0 a1 a2).bind fun t194 => (some (!t194)))) else (none)) else (none)) else (none)) else (none))) else (some false)) else (some false)) else (some false))))
def spec_MayMeet.T3 : Bool × List (List Nat × List Nat) := (true, [([], []), ([0], [0]), ([1, 1], [1]), ([2], [2]), ([3, 2], [2, 3]), ([2, 4], [2, 4]), ([5, 2], [5]), ([6], [6]), ([7, 6], [6, 7]), ([6, 8], [6, 8]), ([9, 6], [9]), ([10], [10]), ([10], [10]), ([11, 12, 10], [10, 11, 12]), ([10, 13], [10, 13]), ([14, 10], [14]), ([15], [15]), ([15], [15]), ([16, 17, 15], [15, 16, 17]), ([18, 15], [15, 18]), ([19, 15], [15, 19]), ([15], [15]), ([15], [15]), ([21, 22, 15], [15, 21, 22]), ([23, 15], [15, 23]), ([24, 15], [15, 24]), ([20, 25, 15], [15, 20, 25]), ([15, 26], [15, 26]), ([27, 15], [27]), ([28], [28]), ([28], [28]), ([28], [28]), ([29, 30, 31, 28, 28], [28, 29, 30, 31]), ([32, 28], [28, 32]), ([28, 33], [28, 33]), ([34, 32, 0, 1, 2, 3, 4, 5, 6, 7, 8, 9, 10, 11, 12, 13, 14, 15, 16, 17, 18, 19, 20, 21, 22, 23, 24, 25, 26, 27, 28, 29, 30, 31, 32, 33, 34], [34])])
def spec_MayMeet.B3 : List Nat := [0, 1, 3, 7, 15, 31, 63, 127, 255, 511, 1023, 2047, 2047, 8191, 16383, 32767, 65535, 65535, 262143, 524287, 1048575, 65535, 65535, 6356991, 14745599, 31522815, 67108863, 134217727, 268435455, 536870911, 536870911, 536870911, 4294967295, 8589934591, 17179869183, 34359738367]
theorem spec_MayMeet.tab3 : rtab .any (opsOf Try.f95 3) = spec_MayMeet.T3 := by kernel_rfl
theorem spec_MayMeet.bits3 : waitsOk spec_MayMeet.T3.2 spec_MayMeet.B3 = true := by kernel_rfl
set_option maxHeartbeats 8000000 in
set_option maxRecDepth 100000 in
theorem spec_MayMeet.calls (k : Nat) (A0 : Option Addr) (c0 : Nat) (l0 : List (S78)) (a1 : Int) (a2 : Int) (r : Bool) (w : World) (hr0 : Kd.C k78 w A0 l0.length l0) (hc0 : l0.length ≤ c0) (h : spec_MayMeet.f k l0 a1 a2 = some r) :
  Calls Try.prog 95 #[.slice A0 l0.length c0, .int .i64 a1, .int .i64 a2] w fun e w' => e = .returned (.bool r) ∧ Below w.heap.size w w' := by
 have HR0 := Aside0.mk hr0
 have HC0 := Aside0.mk hc0
 clear hr0 hc0
 have HB := Aside0.mk (Below.refl w.heap.size w)
 have H : ((spec_FindTeam.f k l0 a1).bind fun t189 => ((spec_FindTeam.f k l0 a2).bind fun t190 => ((spec_AreTeams.f k l0).bind fun t191 => (if t191 = true then (if t189 ≥ 0 then (if t190 ≥ 0 then (if t189 = t190 then (some false) else (if 0 ≤ t189 then (if t189 < (l0.length : Int) then (if 0 ≤ t190 then (if t190 < (l0.length : Int) then (if ((rd_T78 l0 t189).f1) = ((rd_T78 l0 t190).f1) then (some false) else ((spec_HaveMet.f k l0 a1 a2).bind fun t194 => (some (!t194)))) else (none)) else (none)) else (none)) else (none))) else (some false)) else (some false)) else (some false))))) = some r := h
 clear h
 replace H := Option.bind_eq_some_iff.mp H
 obtain ⟨t189, A40, H⟩ := H
 replace H : ((spec_FindTeam.f k l0 a2).bind fun t190 => ((spec_AreTeams.f k l0).bind fun t191 => (if t191 = true then (if t189 ≥ 0 then (if t190 ≥ 0 then (if t189 = t190 then (some false) else (if 0 ≤ t189 then (if t189 < (l0.length : Int) then (if 0 ≤ t190 then (if t190 < (l0.length : Int) then (if ((rd_T78 l0 t189).f1) = ((rd_T78 l0 t190).f1) then (some false) else ((spec_HaveMet.f k l0 a1 a2).bind fun t194 => (some (!t194)))) else (none)) else (none)) else (none)) else (none))) else (some false)) else (some false)) else (some false)))) = some r := H
 have A4 := Aside0.mk A40
 clear A40
 replace H := Option.bind_eq_some_iff.mp H
 obtain ⟨t190, A50, H⟩ := H
 replace H : ((spec_AreTeams.f k l0).bind fun t191 => (if t191 = true then (if t189 ≥ 0 then (if t190 ≥ 0 then (if t189 = t190 then (some false) else (if 0 ≤ t189 then (if t189 < (l0.length : Int) then (if 0 ≤ t190 then (if t190 < (l0.length : Int) then (if ((rd_T78 l0 t189).f1) = ((rd_T78 l0 t190).f1) then (some false) else ((spec_HaveMet.f k l0 a1 a2).bind fun t194 => (some (!t194)))) else (none)) else (none)) else (none)) else (none))) else (some false)) else (some false)) else (some false))) = some r := H
 have A5 := Aside0.mk A50
 clear A50
 replace H := Option.bind_eq_some_iff.mp H
 obtain ⟨t191, A60, H⟩ := H
 replace H : (if t191 = true then (if t189 ≥ 0 then (if t190 ≥ 0 then (if t189 = t190 then (some false) else (if 0 ≤ t189 then (if t189 < (l0.length : Int) then (if 0 ≤ t190 then (if t190 < (l0.length : Int) then (if ((rd_T78 l0 t189).f1) = ((rd_T78 l0 t190).f1) then (some false) else ((spec_HaveMet.f k l0 a1 a2).bind fun t194 => (some (!t194)))) else (none)) else (none)) else (none)) else (none))) else (some false)) else (some false)) else (some false)) = some r := H
 have A6 := Aside0.mk A60
 clear A60
 by_cases c7 : t191 = true
 rotate_left
 ·
  replace c7 := Bool.eq_false_iff.mpr c7
  subst c7
  have H1 : (some false) = some r := by rw [if_neg (show ¬ (false = true) by decide)] at H; exact H
  clear H
  have H := H1
  clear H1
  obtain rfl := Option.some.inj H
  go_enter Try.func95, Try.ntmps95
  try go_wp2_with (first | ((with_reducible refine gate_callee (f := 62) rfl ?_); refine goesL_ (some 11) rfl rfl Try.func62 (by kernel_rfl) rfl #[.slice A0 l0.length c0, .int .i64 a1] rfl (by (try simp only [Y1, Y2, Y3]); first | done | rfl | (simp only [Y4, Y5]; rfl)) ?_; (with_reducible refine (spec_FindTeam.calls k _ _ l0 a1 t189 _ ?side1 ?side2 A4.out).mono ?_); (case side1 => repeat (first | exact HR0.out | (with_reducible first | refine cA ?_ _ | refine cN ?_ _ | refine cD ?_))); (case side2 => exact HC0.out); rintro e w' ⟨rfl, ⟨nd, rfl⟩⟩; refine ⟨_, rfl, ?_⟩) | ((with_reducible refine gate_callee (f := 62) rfl ?_); refine goesL_ (some 14) rfl rfl Try.func62 (by kernel_rfl) rfl #[.slice A0 l0.length c0, .int .i64 a2] rfl (by (try simp only [Y1, Y2, Y3]); first | done | rfl | (simp only [Y4, Y5]; rfl)) ?_; (with_reducible refine (spec_FindTeam.calls k _ _ l0 a2 t190 _ ?side1 ?side2 A5.out).mono ?_); (case side1 => repeat (first | exact HR0.out | (with_reducible first | refine cA ?_ _ | refine cN ?_ _ | refine cD ?_))); (case side2 => exact HC0.out); rintro e w' ⟨rfl, ⟨nd, rfl⟩⟩; refine ⟨_, rfl, ?_⟩))
  generalize hq_ : World.drewN _ _ = wq
  have n0_ : Aside0 (Below w.heap.size w wq) := ⟨by rw [← hq_]; repeat (first | exact HB.out | apply below_drew1 | apply pw_below_drewN)⟩
  clear HB hq_
  have HB := n0_
  clear n0_
  replace HB := Aside0.mk (below_drew1 HB.out)
  refine start_ (n := 36) (S := fun w' => True) (ds := []) (bv 36 0) (by kernel_rfl) rfl rfl trivial (fun hHeld => ?_); refine with_tabW spec_MayMeet.tab3 spec_MayMeet.bits3 (fun HT_ HW_ => ?_)
  generalize wq.drew = w27 at HB hHeld ⊢
  refine pv_ 36 0 15 1 rfl rfl HT_ ?_
  refine one_ (i := 1) (N := some 16) (bv 36 3) rfl rfl (one_of HT_.out (by kernel_rfl)) (by decide) (fun K hK => ?_)
  refine goes_ Try.func69 (by kernel_rfl) rfl #[.slice A0 l0.length c0] (by rfl) rfl rfl (by (try simp only [Y1, Y2, Y3]); first | done | rfl | (simp only [Y4, Y5]; rfl)) ?_
  with_reducible refine (spec_AreTeams.calls k _ _ l0 false _ ?side1 ?side2 A6.out).mono ?_
  (case side1 => repeat (first | exact (Kd.C_below HR0.out HB.out) | (with_reducible first | refine cA ?_ _ | refine cN ?_ _ | refine cD ?_)))
  (case side2 => exact HC0.out)
  rintro e w28 ⟨rfl, hb⟩
  refine ⟨_, rfl, ?_⟩
  replace HB := Aside0.mk (below_step (by repeat (first | (with_reducible first | exact HB.out | apply bA | apply bN | apply bD) | exact HB.out)) hb)
  (try clear hb)
  (try clear hb2)
  (try clear hk)
  (try clear hi)
  refine hK.out _ _ trivial (fun hHeld => ?_)
  clear hK K
  refine nm_ 16 ?_
  refine pv_ 36 2 17 7 rfl rfl HT_ ?_; refine pu_ 36 3 18 15 rfl rfl HT_ ?_; refine pu_ 36 4 19 31 rfl rfl HT_ ?_; refine pv_ 36 5 20 63 rfl rfl HT_ ?_; refine pv_ 36 6 21 127 rfl rfl HT_ ?_; refine pu_ 36 7 22 255 rfl rfl HT_ ?_; refine pu_ 36 8 23 511 rfl rfl HT_ ?_; refine pv_ 36 9 24 1023 rfl rfl HT_ ?_; refine pv_ 36 10 25 2047 rfl rfl HT_ ?_; refine pu_ 36 11 26 4095 rfl rfl HT_ ?_; refine pu_ 36 12 27 8191 rfl rfl HT_ ?_; refine pu_ 36 13 28 16383 rfl rfl HT_ ?_; refine pv_ 36 14 29 32767 rfl rfl HT_ ?_; refine pv_ 36 15 30 65535 rfl rfl HT_ ?_; refine pu_ 36 16 31 131071 rfl rfl HT_ ?_; refine pu_ 36 17 32 262143 rfl rfl HT_ ?_; refine pu_ 36 18 33 524287 rfl rfl HT_ ?_; refine pu_ 36 19 34 1048575 rfl rfl HT_ ?_; refine pu_ 36 20 35 2097151 rfl rfl HT_ ?_; refine pu_ 36 21 36 4194303 rfl rfl HT_ ?_; refine pu_ 36 22 37 8388607 rfl rfl HT_ ?_; refine pu_ 36 23 38 16777215 rfl rfl HT_ ?_
  refine pu_ 36 24 39 33554431 rfl rfl HT_ ?_; refine pu_ 36 25 40 67108863 rfl rfl HT_ ?_; refine pu_ 36 26 41 134217727 rfl rfl HT_ ?_; refine pv_ 36 27 42 268435455 rfl rfl HT_ ?_; refine pv_ 36 28 43 536870911 rfl rfl HT_ ?_; refine pu_ 36 29 44 1073741823 rfl rfl HT_ ?_; refine pu_ 36 30 45 2147483647 rfl rfl HT_ ?_; refine pu_ 36 31 46 4294967295 rfl rfl HT_ ?_; refine pu_ 36 32 47 8589934591 rfl rfl HT_ ?_; refine pu_ 36 33 48 17179869183 rfl rfl HT_ ?_; refine pv_ 36 34 49 34359738367 rfl rfl HT_ ?_; refine pv_ 36 35 6 68719476735 rfl rfl HT_ ?_
  refine done_ (done_of HT_.out (by kernel_rfl)) ?_
  try go_wp2
  go_ret
  exact ⟨by first | rfl | (simp [*, errW_none, errW_some] <;> rfl), by repeat (first | (with_reducible first | exact HB.out | apply bA | apply bN | apply bD) | exact HB.out)⟩

 subst c7
 have H1 : (if t189 ≥ 0 then (if t190 ≥ 0 then (if t189 = t190 then (some false) else (if 0 ≤ t189 then (if t189 < (l0.length : Int) then (if 0 ≤ t190 then (if t190 < (l0.length : Int) then (if ((rd_T78 l0 t189).f1) = ((rd_T78 l0 t190).f1) then (some false) else ((spec_HaveMet.f k l0 a1 a2).bind fun t194 => (some (!t194)))) else (none)) else (none)) else (none)) else (none))) else (some false)) else (some false)) = some r := by rw [if_pos rfl] at H; exact H
 clear H
 have H := H1
 clear H1
 by_cases c8 : t189 ≥ 0
 rotate_left
 ·
  rw [if_neg c8] at H
  have c8b0 : decide (0 ≤ t189) = false := decide_eq_false c8
  clear c8
  obtain rfl := Option.some.inj H
  go_enter Try.func95, Try.ntmps95
  try go_wp2_with (first | ((with_reducible refine gate_callee (f := 62) rfl ?_); refine goesL_ (some 11) rfl rfl Try.func62 (by kernel_rfl) rfl #[.slice A0 l0.length c0, .int .i64 a1] rfl (by (try simp only [Y1, Y2, Y3]); first | done | rfl | (simp only [Y4, Y5]; rfl)) ?_; (with_reducible refine (spec_FindTeam.calls k _ _ l0 a1 t189 _ ?side1 ?side2 A4.out).mono ?_); (case side1 => repeat (first | exact HR0.out | (with_reducible first | refine cA ?_ _ | refine cN ?_ _ | refine cD ?_))); (case side2 => exact HC0.out); rintro e w' ⟨rfl, ⟨nd, rfl⟩⟩; refine ⟨_, rfl, ?_⟩) | ((with_reducible refine gate_callee (f := 62) rfl ?_); refine goesL_ (some 14) rfl rfl Try.func62 (by kernel_rfl) rfl #[.slice A0 l0.length c0, .int .i64 a2] rfl (by (try simp only [Y1, Y2, Y3]); first | done | rfl | (simp only [Y4, Y5]; rfl)) ?_; (with_reducible refine (spec_FindTeam.calls k _ _ l0 a2 t190 _ ?side1 ?side2 A5.out).mono ?_); (case side1 => repeat (first | exact HR0.out | (with_reducible first | refine cA ?_ _ | refine cN ?_ _ | refine cD ?_))); (case side2 => exact HC0.out); rintro e w' ⟨rfl, ⟨nd, rfl⟩⟩; refine ⟨_, rfl, ?_⟩))
  generalize hq_ : World.drewN _ _ = wq
  have n0_ : Aside0 (Below w.heap.size w wq) := ⟨by rw [← hq_]; repeat (first | exact HB.out | apply below_drew1 | apply pw_below_drewN)⟩
  clear HB hq_
  have HB := n0_
  clear n0_
  replace HB := Aside0.mk (below_drew1 HB.out)
  refine start_ (n := 36) (S := fun w' => True) (ds := []) (bv 36 0) (by kernel_rfl) rfl rfl trivial (fun hHeld => ?_); refine with_tabW spec_MayMeet.tab3 spec_MayMeet.bits3 (fun HT_ HW_ => ?_)
  generalize wq.drew = w25 at HB hHeld ⊢
  refine pv_ 36 0 15 1 rfl rfl HT_ ?_
  refine one_ (i := 1) (N := some 16) (bv 36 3) rfl rfl (one_of HT_.out (by kernel_rfl)) (by decide) (fun K hK => ?_)
  refine goes_ Try.func69 (by kernel_rfl) rfl #[.slice A0 l0.length c0] (by rfl) rfl rfl (by (try simp only [Y1, Y2, Y3]); first | done | rfl | (simp only [Y4, Y5]; rfl)) ?_
  with_reducible refine (spec_AreTeams.calls k _ _ l0 true _ ?side1 ?side2 A6.out).mono ?_
  (case side1 => repeat (first | exact (Kd.C_below HR0.out HB.out) | (with_reducible first | refine cA ?_ _ | refine cN ?_ _ | refine cD ?_)))
  (case side2 => exact HC0.out)
  rintro e w26 ⟨rfl, hb⟩
  refine ⟨_, rfl, ?_⟩
  replace HB := Aside0.mk (below_step (by repeat (first | (with_reducible first | exact HB.out | apply bA | apply bN | apply bD) | exact HB.out)) hb)
  (try clear hb)
  (try clear hb2)
  (try clear hk)
  (try clear hi)
  refine hK.out _ _ trivial (fun hHeld => ?_)
  clear hK K
  refine nm_ 16 ?_
  refine pv_ 36 2 17 7 rfl rfl HT_ ?_; refine pv_ 36 3 18 15 rfl rfl HT_ ?_; refine pv_ 36 4 19 31 rfl rfl HT_ ?_; refine pv_ 36 5 20 63 rfl rfl HT_ ?_; refine pv_ 36 6 21 127 rfl rfl HT_ ?_; refine pu_ 36 7 22 255 rfl rfl HT_ ?_; refine pu_ 36 8 23 511 rfl rfl HT_ ?_; refine pv_ 36 9 24 1023 rfl rfl HT_ ?_; refine pv_ 36 10 25 2047 rfl rfl HT_ ?_; refine pu_ 36 11 26 4095 rfl rfl HT_ ?_; refine pu_ 36 12 27 8191 rfl rfl HT_ ?_; refine pu_ 36 13 28 16383 rfl rfl HT_ ?_; refine pv_ 36 14 29 32767 rfl rfl HT_ ?_; refine pv_ 36 15 30 65535 rfl rfl HT_ ?_; refine pu_ 36 16 31 131071 rfl rfl HT_ ?_; refine pu_ 36 17 32 262143 rfl rfl HT_ ?_; refine pu_ 36 18 33 524287 rfl rfl HT_ ?_; refine pu_ 36 19 34 1048575 rfl rfl HT_ ?_; refine pu_ 36 20 35 2097151 rfl rfl HT_ ?_; refine pu_ 36 21 36 4194303 rfl rfl HT_ ?_; refine pu_ 36 22 37 8388607 rfl rfl HT_ ?_; refine pu_ 36 23 38 16777215 rfl rfl HT_ ?_
  refine pu_ 36 24 39 33554431 rfl rfl HT_ ?_; refine pu_ 36 25 40 67108863 rfl rfl HT_ ?_; refine pu_ 36 26 41 134217727 rfl rfl HT_ ?_; refine pv_ 36 27 42 268435455 rfl rfl HT_ ?_; refine pv_ 36 28 43 536870911 rfl rfl HT_ ?_; refine pu_ 36 29 44 1073741823 rfl rfl HT_ ?_; refine pu_ 36 30 45 2147483647 rfl rfl HT_ ?_; refine pu_ 36 31 46 4294967295 rfl rfl HT_ ?_; refine pu_ 36 32 47 8589934591 rfl rfl HT_ ?_; refine pu_ 36 33 48 17179869183 rfl rfl HT_ ?_; refine pv_ 36 34 49 34359738367 rfl rfl HT_ ?_; refine pv_ 36 35 6 68719476735 rfl rfl HT_ ?_
  refine done_ (done_of HT_.out (by kernel_rfl)) ?_
  try go_wp2
  go_ret
  exact ⟨by first | rfl | (simp [*, errW_none, errW_some] <;> rfl), by repeat (first | (with_reducible first | exact HB.out | apply bA | apply bN | apply bD) | exact HB.out)⟩
 rw [if_pos c8] at H
 have c8b0 : decide (0 ≤ t189) = true := decide_eq_true c8
 clear c8
 by_cases c9 : t190 ≥ 0
 rotate_left
 ·
  rw [if_neg c9] at H
  have c9b0 : decide (0 ≤ t190) = false := decide_eq_false c9
  clear c9
  obtain rfl := Option.some.inj H
  go_enter Try.func95, Try.ntmps95
  try go_wp2_with (first | ((with_reducible refine gate_callee (f := 62) rfl ?_); refine goesL_ (some 11) rfl rfl Try.func62 (by kernel_rfl) rfl #[.slice A0 l0.length c0, .int .i64 a1] rfl (by (try simp only [Y1, Y2, Y3]); first | done | rfl | (simp only [Y4, Y5]; rfl)) ?_; (with_reducible refine (spec_FindTeam.calls k _ _ l0 a1 t189 _ ?side1 ?side2 A4.out).mono ?_); (case side1 => repeat (first | exact HR0.out | (with_reducible first | refine cA ?_ _ | refine cN ?_ _ | refine cD ?_))); (case side2 => exact HC0.out); rintro e w' ⟨rfl, ⟨nd, rfl⟩⟩; refine ⟨_, rfl, ?_⟩) | ((with_reducible refine gate_callee (f := 62) rfl ?_); refine goesL_ (some 14) rfl rfl Try.func62 (by kernel_rfl) rfl #[.slice A0 l0.length c0, .int .i64 a2] rfl (by (try simp only [Y1, Y2, Y3]); first | done | rfl | (simp only [Y4, Y5]; rfl)) ?_; (with_reducible refine (spec_FindTeam.calls k _ _ l0 a2 t190 _ ?side1 ?side2 A5.out).mono ?_); (case side1 => repeat (first | exact HR0.out | (with_reducible first | refine cA ?_ _ | refine cN ?_ _ | refine cD ?_))); (case side2 => exact HC0.out); rintro e w' ⟨rfl, ⟨nd, rfl⟩⟩; refine ⟨_, rfl, ?_⟩))
  generalize hq_ : World.drewN _ _ = wq
  have n0_ : Aside0 (Below w.heap.size w wq) := ⟨by rw [← hq_]; repeat (first | exact HB.out | apply below_drew1 | apply pw_below_drewN)⟩
  clear HB hq_
  have HB := n0_
  clear n0_
  replace HB := Aside0.mk (below_drew1 HB.out)
  refine start_ (n := 36) (S := fun w' => True) (ds := []) (bv 36 0) (by kernel_rfl) rfl rfl trivial (fun hHeld => ?_); refine with_tabW spec_MayMeet.tab3 spec_MayMeet.bits3 (fun HT_ HW_ => ?_)
  generalize wq.drew = w23 at HB hHeld ⊢
  refine pv_ 36 0 15 1 rfl rfl HT_ ?_
  refine one_ (i := 1) (N := some 16) (bv 36 3) rfl rfl (one_of HT_.out (by kernel_rfl)) (by decide) (fun K hK => ?_)
  refine goes_ Try.func69 (by kernel_rfl) rfl #[.slice A0 l0.length c0] (by rfl) rfl rfl (by (try simp only [Y1, Y2, Y3]); first | done | rfl | (simp only [Y4, Y5]; rfl)) ?_
  with_reducible refine (spec_AreTeams.calls k _ _ l0 true _ ?side1 ?side2 A6.out).mono ?_
  (case side1 => repeat (first | exact (Kd.C_below HR0.out HB.out) | (with_reducible first | refine cA ?_ _ | refine cN ?_ _ | refine cD ?_)))
  (case side2 => exact HC0.out)
  rintro e w24 ⟨rfl, hb⟩
  refine ⟨_, rfl, ?_⟩
  replace HB := Aside0.mk (below_step (by repeat (first | (with_reducible first | exact HB.out | apply bA | apply bN | apply bD) | exact HB.out)) hb)
  (try clear hb)
  (try clear hb2)
  (try clear hk)
  (try clear hi)
  refine hK.out _ _ trivial (fun hHeld => ?_)
  clear hK K
  refine nm_ 16 ?_
  refine pv_ 36 2 17 7 rfl rfl HT_ ?_; refine pv_ 36 3 18 15 rfl rfl HT_ ?_; refine pv_ 36 4 19 31 rfl rfl HT_ ?_; refine pv_ 36 5 20 63 rfl rfl HT_ ?_; refine pv_ 36 6 21 127 rfl rfl HT_ ?_; refine pv_ 36 7 22 255 rfl rfl HT_ ?_; refine pv_ 36 8 23 511 rfl rfl HT_ ?_; refine pv_ 36 9 24 1023 rfl rfl HT_ ?_; refine pv_ 36 10 25 2047 rfl rfl HT_ ?_; refine pu_ 36 11 26 4095 rfl rfl HT_ ?_; refine pu_ 36 12 27 8191 rfl rfl HT_ ?_; refine pu_ 36 13 28 16383 rfl rfl HT_ ?_; refine pv_ 36 14 29 32767 rfl rfl HT_ ?_; refine pv_ 36 15 30 65535 rfl rfl HT_ ?_; refine pu_ 36 16 31 131071 rfl rfl HT_ ?_; refine pu_ 36 17 32 262143 rfl rfl HT_ ?_; refine pu_ 36 18 33 524287 rfl rfl HT_ ?_; refine pu_ 36 19 34 1048575 rfl rfl HT_ ?_; refine pu_ 36 20 35 2097151 rfl rfl HT_ ?_; refine pu_ 36 21 36 4194303 rfl rfl HT_ ?_; refine pu_ 36 22 37 8388607 rfl rfl HT_ ?_; refine pu_ 36 23 38 16777215 rfl rfl HT_ ?_
  refine pu_ 36 24 39 33554431 rfl rfl HT_ ?_; refine pu_ 36 25 40 67108863 rfl rfl HT_ ?_; refine pu_ 36 26 41 134217727 rfl rfl HT_ ?_; refine pv_ 36 27 42 268435455 rfl rfl HT_ ?_; refine pv_ 36 28 43 536870911 rfl rfl HT_ ?_; refine pu_ 36 29 44 1073741823 rfl rfl HT_ ?_; refine pu_ 36 30 45 2147483647 rfl rfl HT_ ?_; refine pu_ 36 31 46 4294967295 rfl rfl HT_ ?_; refine pu_ 36 32 47 8589934591 rfl rfl HT_ ?_; refine pu_ 36 33 48 17179869183 rfl rfl HT_ ?_; refine pv_ 36 34 49 34359738367 rfl rfl HT_ ?_; refine pv_ 36 35 6 68719476735 rfl rfl HT_ ?_
  refine done_ (done_of HT_.out (by kernel_rfl)) ?_
  try go_wp2
  go_ret
  exact ⟨by first | rfl | (simp [*, errW_none, errW_some] <;> rfl), by repeat (first | (with_reducible first | exact HB.out | apply bA | apply bN | apply bD) | exact HB.out)⟩
 rw [if_pos c9] at H
 have c9b0 : decide (0 ≤ t190) = true := decide_eq_true c9
 clear c9
 by_cases c10 : t189 = t190
 rotate_left
 ·
  rw [if_neg c10] at H
  have c10b0 : (t189 == t190) = false := beq_eq_false_iff_ne.mpr c10
  have c10b1 : (t189 != t190) = true := bne_iff_ne.mpr c10
  by_cases c13 : 0 ≤ t189
  rotate_left
  ·
   rw [if_neg c13] at H
   exact absurd H (by simp)
  rw [if_pos c13] at H
  have c13b0 : decide (0 ≤ t189) = true := decide_eq_true c13
  clear c13
  by_cases c14 : t189 < (l0.length : Int)
  rotate_left
  ·
   rw [if_neg c14] at H
   exact absurd H (by simp)
  rw [if_pos c14] at H
  have c14b0 : decide (t189 < (l0.length : Int)) = true := decide_eq_true c14
  clear c14
  by_cases c15 : 0 ≤ t190
  rotate_left
  ·
   rw [if_neg c15] at H
   exact absurd H (by simp)
  rw [if_pos c15] at H
  have c15b0 : decide (0 ≤ t190) = true := decide_eq_true c15
  clear c15
  by_cases c16 : t190 < (l0.length : Int)
  rotate_left
  ·
   rw [if_neg c16] at H
   exact absurd H (by simp)
  rw [if_pos c16] at H
  have c16b0 : decide (t190 < (l0.length : Int)) = true := decide_eq_true c16
  clear c16
  by_cases c17 : ((rd_T78 l0 t189).f1) = ((rd_T78 l0 t190).f1)
  rotate_left
  ·
   rw [if_neg c17] at H
   have c17b0 : (((rd_T78 l0 t189).f1) == ((rd_T78 l0 t190).f1)) = false := beq_eq_false_iff_ne.mpr c17
   have c17b1 : (((rd_T78 l0 t189).f1) != ((rd_T78 l0 t190).f1)) = true := bne_iff_ne.mpr c17
   replace H := Option.bind_eq_some_iff.mp H
   obtain ⟨t194, A200, H⟩ := H
   replace H : (some (!t194)) = some r := H
   have A20 := Aside0.mk A200
   clear A200
   obtain rfl := Option.some.inj H
   go_enter Try.func95, Try.ntmps95
   try go_wp2_with (first | ((with_reducible refine gate_callee (f := 62) rfl ?_); refine goesL_ (some 11) rfl rfl Try.func62 (by kernel_rfl) rfl #[.slice A0 l0.length c0, .int .i64 a1] rfl (by (try simp only [Y1, Y2, Y3]); first | done | rfl | (simp only [Y4, Y5]; rfl)) ?_; (with_reducible refine (spec_FindTeam.calls k _ _ l0 a1 t189 _ ?side1 ?side2 A4.out).mono ?_); (case side1 => repeat (first | exact HR0.out | (with_reducible first | refine cA ?_ _ | refine cN ?_ _ | refine cD ?_))); (case side2 => exact HC0.out); rintro e w' ⟨rfl, ⟨nd, rfl⟩⟩; refine ⟨_, rfl, ?_⟩) | ((with_reducible refine gate_callee (f := 62) rfl ?_); refine goesL_ (some 14) rfl rfl Try.func62 (by kernel_rfl) rfl #[.slice A0 l0.length c0, .int .i64 a2] rfl (by (try simp only [Y1, Y2, Y3]); first | done | rfl | (simp only [Y4, Y5]; rfl)) ?_; (with_reducible refine (spec_FindTeam.calls k _ _ l0 a2 t190 _ ?side1 ?side2 A5.out).mono ?_); (case side1 => repeat (first | exact HR0.out | (with_reducible first | refine cA ?_ _ | refine cN ?_ _ | refine cD ?_))); (case side2 => exact HC0.out); rintro e w' ⟨rfl, ⟨nd, rfl⟩⟩; refine ⟨_, rfl, ?_⟩))
   generalize hq_ : World.drewN _ _ = wq
   have n0_ : Aside0 (Below w.heap.size w wq) := ⟨by rw [← hq_]; repeat (first | exact HB.out | apply below_drew1 | apply pw_below_drewN)⟩
   clear HB hq_
   have HB := n0_
   clear n0_
   replace HB := Aside0.mk (below_drew1 HB.out)
   have p192 : 0 ≤ (t189 : Int) := od (by assumption)
   have q192 : t189 < (l0.length : Int) := od (by assumption)
   obtain ⟨ad192, A192_5, c192_5, e192, hx192_0, hx192_1, hx192_2, hx192_3, hx192_4, hx192_5, hl192_5, hi192_5⟩ := at_T78 HR0.out t189 p192 q192
   have hw192_5 := hx192_5
   have hw192_4 := hx192_4
   have hw192_3 := hx192_3
   have hw192_2 := hx192_2
   have hw192_1 := hx192_1
   have hw192_0 := hx192_0
   cases e192
   replace hx192_0 := (HB.out.cell (bl w _ hx192_0)).trans hx192_0
   replace hx192_1 := (HB.out.cell (bl w _ hx192_1)).trans hx192_1
   replace hx192_2 := (HB.out.cell (bl w _ hx192_2)).trans hx192_2
   replace hx192_3 := (HB.out.cell (bl w _ hx192_3)).trans hx192_3
   replace hx192_4 := (HB.out.cell (bl w _ hx192_4)).trans hx192_4
   replace hx192_5 := (HB.out.cell (bl w _ hx192_5)).trans hx192_5
   have HR192_5 := Aside0.mk hi192_5
   have HC192_5 := Aside0.mk hl192_5
   clear hi192_5 hl192_5
   replace p192 := eq_true p192
   replace q192 := eq_true q192
   have p193 : 0 ≤ (t190 : Int) := od (by assumption)
   have q193 : t190 < (l0.length : Int) := od (by assumption)
   obtain ⟨ad193, A193_5, c193_5, e193, hx193_0, hx193_1, hx193_2, hx193_3, hx193_4, hx193_5, hl193_5, hi193_5⟩ := at_T78 HR0.out t190 p193 q193
   have hw193_5 := hx193_5
   have hw193_4 := hx193_4
   have hw193_3 := hx193_3
   have hw193_2 := hx193_2
   have hw193_1 := hx193_1
   have hw193_0 := hx193_0
   obtain rfl : ad192 = ad193 := (by injection e193)
   replace hx193_0 := (HB.out.cell (bl w _ hx193_0)).trans hx193_0
   replace hx193_1 := (HB.out.cell (bl w _ hx193_1)).trans hx193_1
   replace hx193_2 := (HB.out.cell (bl w _ hx193_2)).trans hx193_2
   replace hx193_3 := (HB.out.cell (bl w _ hx193_3)).trans hx193_3
   replace hx193_4 := (HB.out.cell (bl w _ hx193_4)).trans hx193_4
   replace hx193_5 := (HB.out.cell (bl w _ hx193_5)).trans hx193_5
   have HR193_5 := Aside0.mk hi193_5
   have HC193_5 := Aside0.mk hl193_5
   clear hi193_5 hl193_5
   replace p193 := eq_true p193
   replace q193 := eq_true q193
   refine start_ (n := 36) (S := fun w' => w'.cell? (ad192.add ((t189).toNat * 6)) = some (.int .i64 ((rd_T78 l0 t189).f0)) ∧ w'.cell? ⟨(ad192.add ((t189).toNat * 6)).block, (ad192.add ((t189).toNat * 6)).off + 1, none⟩ = some (.int .i64 ((rd_T78 l0 t189).f1)) ∧ w'.cell? ⟨(ad192.add ((t189).toNat * 6)).block, (ad192.add ((t189).toNat * 6)).off + 2, none⟩ = some (.int .i64 ((rd_T78 l0 t189).f2)) ∧ w'.cell? ⟨(ad192.add ((t189).toNat * 6)).block, (ad192.add ((t189).toNat * 6)).off + 3, none⟩ = some (.int .i64 ((rd_T78 l0 t189).f3)) ∧ w'.cell? ⟨(ad192.add ((t189).toNat * 6)).block, (ad192.add ((t189).toNat * 6)).off + 4, none⟩ = some (.int .i64 ((rd_T78 l0 t189).f4)) ∧ w'.cell? ⟨(ad192.add ((t189).toNat * 6)).block, (ad192.add ((t189).toNat * 6)).off + 5, none⟩ = some (.slice A192_5 ((rd_T78 l0 t189).f5).length c192_5) ∧ w'.cell? (ad192.add ((t190).toNat * 6)) = some (.int .i64 ((rd_T78 l0 t190).f0)) ∧ w'.cell? ⟨(ad192.add ((t190).toNat * 6)).block, (ad192.add ((t190).toNat * 6)).off + 1, none⟩ = some (.int .i64 ((rd_T78 l0 t190).f1)) ∧ w'.cell? ⟨(ad192.add ((t190).toNat * 6)).block, (ad192.add ((t190).toNat * 6)).off + 2, none⟩ = some (.int .i64 ((rd_T78 l0 t190).f2)) ∧ w'.cell? ⟨(ad192.add ((t190).toNat * 6)).block, (ad192.add ((t190).toNat * 6)).off + 3, none⟩ = some (.int .i64 ((rd_T78 l0 t190).f3)) ∧ w'.cell? ⟨(ad192.add ((t190).toNat * 6)).block, (ad192.add ((t190).toNat * 6)).off + 4, none⟩ = some (.int .i64 ((rd_T78 l0 t190).f4)) ∧ w'.cell? ⟨(ad192.add ((t190).toNat * 6)).block, (ad192.add ((t190).toNat * 6)).off + 5, none⟩ = some (.slice A193_5 ((rd_T78 l0 t190).f5).length c193_5)) (ds := []) (bv 36 0) (by kernel_rfl) rfl rfl ⟨((HB.out.cell (bl w _ hw192_0)).trans hw192_0), ((HB.out.cell (bl w _ hw192_1)).trans hw192_1), ((HB.out.cell (bl w _ hw192_2)).trans hw192_2), ((HB.out.cell (bl w _ hw192_3)).trans hw192_3), ((HB.out.cell (bl w _ hw192_4)).trans hw192_4), ((HB.out.cell (bl w _ hw192_5)).trans hw192_5), ((HB.out.cell (bl w _ hw193_0)).trans hw193_0), ((HB.out.cell (bl w _ hw193_1)).trans hw193_1), ((HB.out.cell (bl w _ hw193_2)).trans hw193_2), ((HB.out.cell (bl w _ hw193_3)).trans hw193_3), ((HB.out.cell (bl w _ hw193_4)).trans hw193_4), ((HB.out.cell (bl w _ hw193_5)).trans hw193_5)⟩ (fun hHeld => ?_); refine with_tabW spec_MayMeet.tab3 spec_MayMeet.bits3 (fun HT_ HW_ => ?_)
   generalize wq.drew = w21 at HB HR192_5 HR193_5 hx192_0 hx192_1 hx192_2 hx192_3 hx192_4 hx192_5 hx193_0 hx193_1 hx193_2 hx193_3 hx193_4 hx193_5 hHeld ⊢
   refine pv_ 36 0 15 1 rfl rfl HT_ ?_
   refine one_ (i := 1) (N := some 16) (bv 36 3) rfl rfl (one_of HT_.out (by kernel_rfl)) (by decide) (fun K hK => ?_)
   refine goes_ Try.func69 (by kernel_rfl) rfl #[.slice (some ad192) l0.length c0] (by rfl) rfl rfl (by (try simp only [Y1, Y2, Y3]); first | done | rfl | (simp only [Y4, Y5]; rfl)) ?_
   with_reducible refine (spec_AreTeams.calls k _ _ l0 true _ ?side1 ?side2 A6.out).mono ?_
   (case side1 => repeat (first | exact (Kd.C_below HR0.out HB.out) | (with_reducible first | refine cA ?_ _ | refine cN ?_ _ | refine cD ?_)))
   (case side2 => exact HC0.out)
   rintro e w22 ⟨rfl, hb⟩
   refine ⟨_, rfl, ?_⟩
   replace HB := Aside0.mk (below_step (by repeat (first | (with_reducible first | exact HB.out | apply bA | apply bN | apply bD) | exact HB.out)) hb)
   (try clear hb)
   (try clear hb2)
   (try clear hk)
   (try clear hi)
   refine hK.out _ _ ⟨((HB.out.cell (bl w _ hw192_0)).trans hw192_0), ((HB.out.cell (bl w _ hw192_1)).trans hw192_1), ((HB.out.cell (bl w _ hw192_2)).trans hw192_2), ((HB.out.cell (bl w _ hw192_3)).trans hw192_3), ((HB.out.cell (bl w _ hw192_4)).trans hw192_4), ((HB.out.cell (bl w _ hw192_5)).trans hw192_5), ((HB.out.cell (bl w _ hw193_0)).trans hw193_0), ((HB.out.cell (bl w _ hw193_1)).trans hw193_1), ((HB.out.cell (bl w _ hw193_2)).trans hw193_2), ((HB.out.cell (bl w _ hw193_3)).trans hw193_3), ((HB.out.cell (bl w _ hw193_4)).trans hw193_4), ((HB.out.cell (bl w _ hw193_5)).trans hw193_5)⟩ (fun hHeld => ?_)
   clear hK K
   refine nm_ 16 ?_
   refine pv_ 36 2 17 7 rfl rfl HT_ ?_; refine pv_ 36 3 18 15 rfl rfl HT_ ?_; refine pv_ 36 4 19 31 rfl rfl HT_ ?_; refine pv_ 36 5 20 63 rfl rfl HT_ ?_; refine pv_ 36 6 21 127 rfl rfl HT_ ?_; refine pv_ 36 7 22 255 rfl rfl HT_ ?_; refine pv_ 36 8 23 511 rfl rfl HT_ ?_; refine pv_ 36 9 24 1023 rfl rfl HT_ ?_; refine pv_ 36 10 25 2047 rfl rfl HT_ ?_; refine pv_ 36 11 26 4095 rfl rfl HT_ ?_; refine pv_ 36 12 27 8191 rfl rfl HT_ ?_; refine pv_ 36 13 28 16383 rfl rfl HT_ ?_; refine pv_ 36 14 29 32767 rfl rfl HT_ ?_; refine pv_ 36 15 30 65535 rfl rfl HT_ ?_; refine pv_ 36 16 31 131071 rfl rfl HT_ ?_; refine pv_ 36 17 32 262143 rfl rfl HT_ ?_; refine pv_ 36 18 33 524287 rfl rfl HT_ ?_; refine pv_ 36 19 34 1048575 rfl rfl HT_ ?_; refine pv_ 36 21 36 3145727 rfl rfl HT_ ?_; refine pv_ 36 22 37 7340031 rfl rfl HT_ ?_; refine pv_ 36 23 38 15728639 rfl rfl HT_ ?_; refine pv_ 36 24 39 32505855 rfl rfl HT_ ?_
   refine tv_ 36 20 35 33554431 rfl rfl HT_ HW_ hHeld (by rintro w' ⟨s0, s1, s2, s3, s4, s5, s6, s7, s8, s9, s10, s11⟩; go_simp; with_reducible rfl) ?_
   refine tv_ 36 25 40 67108863 rfl rfl HT_ HW_ hHeld (by rintro w' ⟨s0, s1, s2, s3, s4, s5, s6, s7, s8, s9, s10, s11⟩; go_simp; with_reducible rfl) ?_
   refine pv_ 36 26 41 134217727 rfl rfl HT_ ?_; refine pv_ 36 27 42 268435455 rfl rfl HT_ ?_; refine pv_ 36 28 43 536870911 rfl rfl HT_ ?_; refine pv_ 36 29 44 1073741823 rfl rfl HT_ ?_; refine pv_ 36 30 45 2147483647 rfl rfl HT_ ?_; refine pv_ 36 31 46 4294967295 rfl rfl HT_ ?_
   refine one_ (i := 32) (N := some 47) (bv 36 8589934591) rfl rfl (one_of HT_.out (by kernel_rfl)) (by decide) (fun K hK => ?_)
   refine goes_ Try.func107 (by kernel_rfl) rfl #[.slice (some ad192) l0.length c0, .int .i64 a1, .int .i64 a2] (by rfl) rfl rfl (by (try simp only [Y1, Y2, Y3]); first | done | rfl | (simp only [Y4, Y5]; rfl)) ?_
   with_reducible refine (spec_HaveMet.calls k _ _ l0 a1 a2 t194 _ ?side1 ?side2 A20.out).mono ?_
   (case side1 => repeat (first | exact (Kd.C_below HR0.out HB.out) | (with_reducible first | refine cA ?_ _ | refine cN ?_ _ | refine cD ?_)))
   (case side2 => exact HC0.out)
   rintro e w' ⟨rfl, ⟨nd, rfl⟩⟩
   refine ⟨_, rfl, ?_⟩
   refine hK.out _ _ ⟨((HB.out.cell (bl w _ hw192_0)).trans hw192_0), ((HB.out.cell (bl w _ hw192_1)).trans hw192_1), ((HB.out.cell (bl w _ hw192_2)).trans hw192_2), ((HB.out.cell (bl w _ hw192_3)).trans hw192_3), ((HB.out.cell (bl w _ hw192_4)).trans hw192_4), ((HB.out.cell (bl w _ hw192_5)).trans hw192_5), ((HB.out.cell (bl w _ hw193_0)).trans hw193_0), ((HB.out.cell (bl w _ hw193_1)).trans hw193_1), ((HB.out.cell (bl w _ hw193_2)).trans hw193_2), ((HB.out.cell (bl w _ hw193_3)).trans hw193_3), ((HB.out.cell (bl w _ hw193_4)).trans hw193_4), ((HB.out.cell (bl w _ hw193_5)).trans hw193_5)⟩ (fun hHeld => ?_)
   clear hK K
   refine nm_ 47 ?_
   refine pv_ 36 33 48 17179869183 rfl rfl HT_ ?_; refine pv_ 36 34 49 34359738367 rfl rfl HT_ ?_; refine pv_ 36 35 6 68719476735 rfl rfl HT_ ?_
   refine done_ (done_of HT_.out (by kernel_rfl)) ?_
   try go_wp2
   go_ret
   exact ⟨by first | rfl | (simp [*, errW_none, errW_some] <;> rfl), by repeat (first | (with_reducible first | exact HB.out | apply bA | apply bN | apply bD) | exact HB.out)⟩
  rw [if_pos c17] at H
  have c17b0 : (((rd_T78 l0 t189).f1) == ((rd_T78 l0 t190).f1)) = true := beq_iff_eq.mpr c17
  have c17b1 : (((rd_T78 l0 t189).f1) != ((rd_T78 l0 t190).f1)) = false := bne_eq_false_iff_eq.mpr c17
  clear c17
  obtain rfl := Option.some.inj H
  go_enter Try.func95, Try.ntmps95
  try go_wp2_with (first | ((with_reducible refine gate_callee (f := 62) rfl ?_); refine goesL_ (some 11) rfl rfl Try.func62 (by kernel_rfl) rfl #[.slice A0 l0.length c0, .int .i64 a1] rfl (by (try simp only [Y1, Y2, Y3]); first | done | rfl | (simp only [Y4, Y5]; rfl)) ?_; (with_reducible refine (spec_FindTeam.calls k _ _ l0 a1 t189 _ ?side1 ?side2 A4.out).mono ?_); (case side1 => repeat (first | exact HR0.out | (with_reducible first | refine cA ?_ _ | refine cN ?_ _ | refine cD ?_))); (case side2 => exact HC0.out); rintro e w' ⟨rfl, ⟨nd, rfl⟩⟩; refine ⟨_, rfl, ?_⟩) | ((with_reducible refine gate_callee (f := 62) rfl ?_); refine goesL_ (some 14) rfl rfl Try.func62 (by kernel_rfl) rfl #[.slice A0 l0.length c0, .int .i64 a2] rfl (by (try simp only [Y1, Y2, Y3]); first | done | rfl | (simp only [Y4, Y5]; rfl)) ?_; (with_reducible refine (spec_FindTeam.calls k _ _ l0 a2 t190 _ ?side1 ?side2 A5.out).mono ?_); (case side1 => repeat (first | exact HR0.out | (with_reducible first | refine cA ?_ _ | refine cN ?_ _ | refine cD ?_))); (case side2 => exact HC0.out); rintro e w' ⟨rfl, ⟨nd, rfl⟩⟩; refine ⟨_, rfl, ?_⟩))
  generalize hq_ : World.drewN _ _ = wq
  have n0_ : Aside0 (Below w.heap.size w wq) := ⟨by rw [← hq_]; repeat (first | exact HB.out | apply below_drew1 | apply pw_below_drewN)⟩
  clear HB hq_
  have HB := n0_
  clear n0_
  replace HB := Aside0.mk (below_drew1 HB.out)
  have p192 : 0 ≤ (t189 : Int) := od (by assumption)
  have q192 : t189 < (l0.length : Int) := od (by assumption)
  obtain ⟨ad192, A192_5, c192_5, e192, hx192_0, hx192_1, hx192_2, hx192_3, hx192_4, hx192_5, hl192_5, hi192_5⟩ := at_T78 HR0.out t189 p192 q192
  have hw192_5 := hx192_5
  have hw192_4 := hx192_4
  have hw192_3 := hx192_3
  have hw192_2 := hx192_2
  have hw192_1 := hx192_1
  have hw192_0 := hx192_0
  cases e192
  replace hx192_0 := (HB.out.cell (bl w _ hx192_0)).trans hx192_0
  replace hx192_1 := (HB.out.cell (bl w _ hx192_1)).trans hx192_1
  replace hx192_2 := (HB.out.cell (bl w _ hx192_2)).trans hx192_2
  replace hx192_3 := (HB.out.cell (bl w _ hx192_3)).trans hx192_3
  replace hx192_4 := (HB.out.cell (bl w _ hx192_4)).trans hx192_4
  replace hx192_5 := (HB.out.cell (bl w _ hx192_5)).trans hx192_5
  have HR192_5 := Aside0.mk hi192_5
  have HC192_5 := Aside0.mk hl192_5
  clear hi192_5 hl192_5
  replace p192 := eq_true p192
  replace q192 := eq_true q192
  have p193 : 0 ≤ (t190 : Int) := od (by assumption)
  have q193 : t190 < (l0.length : Int) := od (by assumption)
  obtain ⟨ad193, A193_5, c193_5, e193, hx193_0, hx193_1, hx193_2, hx193_3, hx193_4, hx193_5, hl193_5, hi193_5⟩ := at_T78 HR0.out t190 p193 q193
  have hw193_5 := hx193_5
  have hw193_4 := hx193_4
  have hw193_3 := hx193_3
  have hw193_2 := hx193_2
  have hw193_1 := hx193_1
  have hw193_0 := hx193_0
  obtain rfl : ad192 = ad193 := (by injection e193)
  replace hx193_0 := (HB.out.cell (bl w _ hx193_0)).trans hx193_0
  replace hx193_1 := (HB.out.cell (bl w _ hx193_1)).trans hx193_1
  replace hx193_2 := (HB.out.cell (bl w _ hx193_2)).trans hx193_2
  replace hx193_3 := (HB.out.cell (bl w _ hx193_3)).trans hx193_3
  replace hx193_4 := (HB.out.cell (bl w _ hx193_4)).trans hx193_4
  replace hx193_5 := (HB.out.cell (bl w _ hx193_5)).trans hx193_5
  have HR193_5 := Aside0.mk hi193_5
  have HC193_5 := Aside0.mk hl193_5
  clear hi193_5 hl193_5
  replace p193 := eq_true p193
  replace q193 := eq_true q193
  refine start_ (n := 36) (S := fun w' => w'.cell? (ad192.add ((t189).toNat * 6)) = some (.int .i64 ((rd_T78 l0 t189).f0)) ∧ w'.cell? ⟨(ad192.add ((t189).toNat * 6)).block, (ad192.add ((t189).toNat * 6)).off + 1, none⟩ = some (.int .i64 ((rd_T78 l0 t189).f1)) ∧ w'.cell? ⟨(ad192.add ((t189).toNat * 6)).block, (ad192.add ((t189).toNat * 6)).off + 2, none⟩ = some (.int .i64 ((rd_T78 l0 t189).f2)) ∧ w'.cell? ⟨(ad192.add ((t189).toNat * 6)).block, (ad192.add ((t189).toNat * 6)).off + 3, none⟩ = some (.int .i64 ((rd_T78 l0 t189).f3)) ∧ w'.cell? ⟨(ad192.add ((t189).toNat * 6)).block, (ad192.add ((t189).toNat * 6)).off + 4, none⟩ = some (.int .i64 ((rd_T78 l0 t189).f4)) ∧ w'.cell? ⟨(ad192.add ((t189).toNat * 6)).block, (ad192.add ((t189).toNat * 6)).off + 5, none⟩ = some (.slice A192_5 ((rd_T78 l0 t189).f5).length c192_5) ∧ w'.cell? (ad192.add ((t190).toNat * 6)) = some (.int .i64 ((rd_T78 l0 t190).f0)) ∧ w'.cell? ⟨(ad192.add ((t190).toNat * 6)).block, (ad192.add ((t190).toNat * 6)).off + 1, none⟩ = some (.int .i64 ((rd_T78 l0 t190).f1)) ∧ w'.cell? ⟨(ad192.add ((t190).toNat * 6)).block, (ad192.add ((t190).toNat * 6)).off + 2, none⟩ = some (.int .i64 ((rd_T78 l0 t190).f2)) ∧ w'.cell? ⟨(ad192.add ((t190).toNat * 6)).block, (ad192.add ((t190).toNat * 6)).off + 3, none⟩ = some (.int .i64 ((rd_T78 l0 t190).f3)) ∧ w'.cell? ⟨(ad192.add ((t190).toNat * 6)).block, (ad192.add ((t190).toNat * 6)).off + 4, none⟩ = some (.int .i64 ((rd_T78 l0 t190).f4)) ∧ w'.cell? ⟨(ad192.add ((t190).toNat * 6)).block, (ad192.add ((t190).toNat * 6)).off + 5, none⟩ = some (.slice A193_5 ((rd_T78 l0 t190).f5).length c193_5)) (ds := []) (bv 36 0) (by kernel_rfl) rfl rfl ⟨((HB.out.cell (bl w _ hw192_0)).trans hw192_0), ((HB.out.cell (bl w _ hw192_1)).trans hw192_1), ((HB.out.cell (bl w _ hw192_2)).trans hw192_2), ((HB.out.cell (bl w _ hw192_3)).trans hw192_3), ((HB.out.cell (bl w _ hw192_4)).trans hw192_4), ((HB.out.cell (bl w _ hw192_5)).trans hw192_5), ((HB.out.cell (bl w _ hw193_0)).trans hw193_0), ((HB.out.cell (bl w _ hw193_1)).trans hw193_1), ((HB.out.cell (bl w _ hw193_2)).trans hw193_2), ((HB.out.cell (bl w _ hw193_3)).trans hw193_3), ((HB.out.cell (bl w _ hw193_4)).trans hw193_4), ((HB.out.cell (bl w _ hw193_5)).trans hw193_5)⟩ (fun hHeld => ?_); refine with_tabW spec_MayMeet.tab3 spec_MayMeet.bits3 (fun HT_ HW_ => ?_)
  generalize wq.drew = w18 at HB HR192_5 HR193_5 hx192_0 hx192_1 hx192_2 hx192_3 hx192_4 hx192_5 hx193_0 hx193_1 hx193_2 hx193_3 hx193_4 hx193_5 hHeld ⊢
  refine pv_ 36 0 15 1 rfl rfl HT_ ?_
  refine one_ (i := 1) (N := some 16) (bv 36 3) rfl rfl (one_of HT_.out (by kernel_rfl)) (by decide) (fun K hK => ?_)
  refine goes_ Try.func69 (by kernel_rfl) rfl #[.slice (some ad192) l0.length c0] (by rfl) rfl rfl (by (try simp only [Y1, Y2, Y3]); first | done | rfl | (simp only [Y4, Y5]; rfl)) ?_
  with_reducible refine (spec_AreTeams.calls k _ _ l0 true _ ?side1 ?side2 A6.out).mono ?_
  (case side1 => repeat (first | exact (Kd.C_below HR0.out HB.out) | (with_reducible first | refine cA ?_ _ | refine cN ?_ _ | refine cD ?_)))
  (case side2 => exact HC0.out)
  rintro e w19 ⟨rfl, hb⟩
  refine ⟨_, rfl, ?_⟩
  replace HB := Aside0.mk (below_step (by repeat (first | (with_reducible first | exact HB.out | apply bA | apply bN | apply bD) | exact HB.out)) hb)
  (try clear hb)
  (try clear hb2)
  (try clear hk)
  (try clear hi)
  refine hK.out _ _ ⟨((HB.out.cell (bl w _ hw192_0)).trans hw192_0), ((HB.out.cell (bl w _ hw192_1)).trans hw192_1), ((HB.out.cell (bl w _ hw192_2)).trans hw192_2), ((HB.out.cell (bl w _ hw192_3)).trans hw192_3), ((HB.out.cell (bl w _ hw192_4)).trans hw192_4), ((HB.out.cell (bl w _ hw192_5)).trans hw192_5), ((HB.out.cell (bl w _ hw193_0)).trans hw193_0), ((HB.out.cell (bl w _ hw193_1)).trans hw193_1), ((HB.out.cell (bl w _ hw193_2)).trans hw193_2), ((HB.out.cell (bl w _ hw193_3)).trans hw193_3), ((HB.out.cell (bl w _ hw193_4)).trans hw193_4), ((HB.out.cell (bl w _ hw193_5)).trans hw193_5)⟩ (fun hHeld => ?_)
  clear hK K
  refine nm_ 16 ?_
  refine pv_ 36 2 17 7 rfl rfl HT_ ?_; refine pv_ 36 3 18 15 rfl rfl HT_ ?_; refine pv_ 36 4 19 31 rfl rfl HT_ ?_; refine pv_ 36 5 20 63 rfl rfl HT_ ?_; refine pv_ 36 6 21 127 rfl rfl HT_ ?_; refine pv_ 36 7 22 255 rfl rfl HT_ ?_; refine pv_ 36 8 23 511 rfl rfl HT_ ?_; refine pv_ 36 9 24 1023 rfl rfl HT_ ?_; refine pv_ 36 10 25 2047 rfl rfl HT_ ?_; refine pv_ 36 11 26 4095 rfl rfl HT_ ?_; refine pv_ 36 12 27 8191 rfl rfl HT_ ?_; refine pv_ 36 13 28 16383 rfl rfl HT_ ?_; refine pv_ 36 14 29 32767 rfl rfl HT_ ?_; refine pv_ 36 15 30 65535 rfl rfl HT_ ?_; refine pv_ 36 16 31 131071 rfl rfl HT_ ?_; refine pv_ 36 17 32 262143 rfl rfl HT_ ?_; refine pv_ 36 18 33 524287 rfl rfl HT_ ?_; refine pv_ 36 19 34 1048575 rfl rfl HT_ ?_; refine pv_ 36 21 36 3145727 rfl rfl HT_ ?_; refine pv_ 36 22 37 7340031 rfl rfl HT_ ?_; refine pv_ 36 23 38 15728639 rfl rfl HT_ ?_; refine pv_ 36 24 39 32505855 rfl rfl HT_ ?_
  refine tv_ 36 20 35 33554431 rfl rfl HT_ HW_ hHeld (by rintro w' ⟨s0, s1, s2, s3, s4, s5, s6, s7, s8, s9, s10, s11⟩; go_simp; with_reducible rfl) ?_
  refine tv_ 36 25 40 67108863 rfl rfl HT_ HW_ hHeld (by rintro w' ⟨s0, s1, s2, s3, s4, s5, s6, s7, s8, s9, s10, s11⟩; go_simp; with_reducible rfl) ?_
  refine pv_ 36 26 41 134217727 rfl rfl HT_ ?_; refine pv_ 36 27 42 268435455 rfl rfl HT_ ?_; refine pv_ 36 28 43 536870911 rfl rfl HT_ ?_; refine pu_ 36 29 44 1073741823 rfl rfl HT_ ?_; refine pu_ 36 30 45 2147483647 rfl rfl HT_ ?_; refine pu_ 36 31 46 4294967295 rfl rfl HT_ ?_; refine pu_ 36 32 47 8589934591 rfl rfl HT_ ?_; refine pu_ 36 33 48 17179869183 rfl rfl HT_ ?_; refine pv_ 36 34 49 34359738367 rfl rfl HT_ ?_; refine pv_ 36 35 6 68719476735 rfl rfl HT_ ?_
  refine done_ (done_of HT_.out (by kernel_rfl)) ?_
  try go_wp2
  go_ret
  exact ⟨by first | rfl | (simp [*, errW_none, errW_some] <;> rfl), by repeat (first | (with_reducible first | exact HB.out | apply bA | apply bN | apply bD) | exact HB.out)⟩
 rw [if_pos c10] at H
 have c10b0 : (t189 == t190) = true := beq_iff_eq.mpr c10
 have c10b1 : (t189 != t190) = false := bne_eq_false_iff_eq.mpr c10
 clear c10
 obtain rfl := Option.some.inj H
 go_enter Try.func95, Try.ntmps95
 try go_wp2_with (first | ((with_reducible refine gate_callee (f := 62) rfl ?_); refine goesL_ (some 11) rfl rfl Try.func62 (by kernel_rfl) rfl #[.slice A0 l0.length c0, .int .i64 a1] rfl (by (try simp only [Y1, Y2, Y3]); first | done | rfl | (simp only [Y4, Y5]; rfl)) ?_; (with_reducible refine (spec_FindTeam.calls k _ _ l0 a1 t189 _ ?side1 ?side2 A4.out).mono ?_); (case side1 => repeat (first | exact HR0.out | (with_reducible first | refine cA ?_ _ | refine cN ?_ _ | refine cD ?_))); (case side2 => exact HC0.out); rintro e w' ⟨rfl, ⟨nd, rfl⟩⟩; refine ⟨_, rfl, ?_⟩) | ((with_reducible refine gate_callee (f := 62) rfl ?_); refine goesL_ (some 14) rfl rfl Try.func62 (by kernel_rfl) rfl #[.slice A0 l0.length c0, .int .i64 a2] rfl (by (try simp only [Y1, Y2, Y3]); first | done | rfl | (simp only [Y4, Y5]; rfl)) ?_; (with_reducible refine (spec_FindTeam.calls k _ _ l0 a2 t190 _ ?side1 ?side2 A5.out).mono ?_); (case side1 => repeat (first | exact HR0.out | (with_reducible first | refine cA ?_ _ | refine cN ?_ _ | refine cD ?_))); (case side2 => exact HC0.out); rintro e w' ⟨rfl, ⟨nd, rfl⟩⟩; refine ⟨_, rfl, ?_⟩))
 generalize hq_ : World.drewN _ _ = wq
 have n0_ : Aside0 (Below w.heap.size w wq) := ⟨by rw [← hq_]; repeat (first | exact HB.out | apply below_drew1 | apply pw_below_drewN)⟩
 clear HB hq_
 have HB := n0_
 clear n0_
 replace HB := Aside0.mk (below_drew1 HB.out)
 refine start_ (n := 36) (S := fun w' => True) (ds := []) (bv 36 0) (by kernel_rfl) rfl rfl trivial (fun hHeld => ?_); refine with_tabW spec_MayMeet.tab3 spec_MayMeet.bits3 (fun HT_ HW_ => ?_)
 generalize wq.drew = w11 at HB hHeld ⊢
 refine pv_ 36 0 15 1 rfl rfl HT_ ?_
 refine one_ (i := 1) (N := some 16) (bv 36 3) rfl rfl (one_of HT_.out (by kernel_rfl)) (by decide) (fun K hK => ?_)
 refine goes_ Try.func69 (by kernel_rfl) rfl #[.slice A0 l0.length c0] (by rfl) rfl rfl (by (try simp only [Y1, Y2, Y3]); first | done | rfl | (simp only [Y4, Y5]; rfl)) ?_
 with_reducible refine (spec_AreTeams.calls k _ _ l0 true _ ?side1 ?side2 A6.out).mono ?_
 (case side1 => repeat (first | exact (Kd.C_below HR0.out HB.out) | (with_reducible first | refine cA ?_ _ | refine cN ?_ _ | refine cD ?_)))
 (case side2 => exact HC0.out)
 rintro e w12 ⟨rfl, hb⟩
 refine ⟨_, rfl, ?_⟩
 replace HB := Aside0.mk (below_step (by repeat (first | (with_reducible first | exact HB.out | apply bA | apply bN | apply bD) | exact HB.out)) hb)
 (try clear hb)
 (try clear hb2)
 (try clear hk)
 (try clear hi)
 refine hK.out _ _ trivial (fun hHeld => ?_)
 clear hK K
 refine nm_ 16 ?_
 refine pv_ 36 2 17 7 rfl rfl HT_ ?_; refine pv_ 36 3 18 15 rfl rfl HT_ ?_; refine pv_ 36 4 19 31 rfl rfl HT_ ?_; refine pv_ 36 5 20 63 rfl rfl HT_ ?_; refine pv_ 36 6 21 127 rfl rfl HT_ ?_; refine pv_ 36 7 22 255 rfl rfl HT_ ?_; refine pv_ 36 8 23 511 rfl rfl HT_ ?_; refine pv_ 36 9 24 1023 rfl rfl HT_ ?_; refine pv_ 36 10 25 2047 rfl rfl HT_ ?_; refine pv_ 36 11 26 4095 rfl rfl HT_ ?_; refine pv_ 36 12 27 8191 rfl rfl HT_ ?_; refine pv_ 36 13 28 16383 rfl rfl HT_ ?_; refine pv_ 36 14 29 32767 rfl rfl HT_ ?_; refine pv_ 36 15 30 65535 rfl rfl HT_ ?_; refine pu_ 36 16 31 131071 rfl rfl HT_ ?_; refine pu_ 36 17 32 262143 rfl rfl HT_ ?_; refine pu_ 36 18 33 524287 rfl rfl HT_ ?_; refine pu_ 36 19 34 1048575 rfl rfl HT_ ?_; refine pu_ 36 20 35 2097151 rfl rfl HT_ ?_; refine pu_ 36 21 36 4194303 rfl rfl HT_ ?_; refine pu_ 36 22 37 8388607 rfl rfl HT_ ?_; refine pu_ 36 23 38 16777215 rfl rfl HT_ ?_
 refine pu_ 36 24 39 33554431 rfl rfl HT_ ?_; refine pu_ 36 25 40 67108863 rfl rfl HT_ ?_; refine pu_ 36 26 41 134217727 rfl rfl HT_ ?_; refine pv_ 36 27 42 268435455 rfl rfl HT_ ?_; refine pv_ 36 28 43 536870911 rfl rfl HT_ ?_; refine pu_ 36 29 44 1073741823 rfl rfl HT_ ?_; refine pu_ 36 30 45 2147483647 rfl rfl HT_ ?_; refine pu_ 36 31 46 4294967295 rfl rfl HT_ ?_; refine pu_ 36 32 47 8589934591 rfl rfl HT_ ?_; refine pu_ 36 33 48 17179869183 rfl rfl HT_ ?_; refine pv_ 36 34 49 34359738367 rfl rfl HT_ ?_; refine pv_ 36 35 6 68719476735 rfl rfl HT_ ?_
 refine done_ (done_of HT_.out (by kernel_rfl)) ?_
 try go_wp2
 go_ret
 exact ⟨by first | rfl | (simp [*, errW_none, errW_some] <;> rfl), by repeat (first | (with_reducible first | exact HB.out | apply bA | apply bN | apply bD) | exact HB.out)⟩
def spec_l19Before.f (a0_0 : Int) (a0_1 : Int) (a0_2 : Int) (a0_3 : Int) (a0_4 : Int) (l0_5 : List Int) (a1_0 : Int) (a1_1 : Int) (a1_2 : Int) (a1_3 : Int) (a1_4 : Int) (l1_5 : List Int) : Option (Bool) := if a0_2 = a1_2 then (if a0_3 > a1_3 then (some true) else (if a0_3 = a1_3 then (some (decide (a0_0 < a1_0))) else (some false))) else (some (decide (a0_2 > a1_2)))
set_option maxHeartbeats 8000000 in
set_option maxRecDepth 100000 in
theorem spec_l19Before.calls (a0_0 : Int) (a0_1 : Int) (a0_2 : Int) (a0_3 : Int) (a0_4 : Int) (A0_5 : Option Addr) (c0_5 : Nat) (l0_5 : List Int) (a1_0 : Int) (a1_1 : Int) (a1_2 : Int) (a1_3 : Int) (a1_4 : Int) (A1_5 : Option Addr) (c1_5 : Nat) (l1_5 : List Int) (r : Bool) (w : World) (hr0_5 : Kd.C (Kd.int .i64) w A0_5 l0_5.length l0_5) (hc0_5 : l0_5.length ≤ c0_5) (hr1_5 : Kd.C (Kd.int .i64) w A1_5 l1_5.length l1_5) (hc1_5 : l1_5.length ≤ c1_5) (h : spec_l19Before.f a0_0 a0_1 a0_2 a0_3 a0_4 l0_5 a1_0 a1_1 a1_2 a1_3 a1_4 l1_5 = some r) :
  Calls Try.prog 97 #[.agg #[.int .i64 a0_0, .int .i64 a0_1, .int .i64 a0_2, .int .i64 a0_3, .int .i64 a0_4, .slice A0_5 l0_5.length c0_5], .agg #[.int .i64 a1_0, .int .i64 a1_1, .int .i64 a1_2, .int .i64 a1_3, .int .i64 a1_4, .slice A1_5 l1_5.length c1_5]] w fun e w' => e = .returned (.bool r) ∧ Below w.heap.size w w' := by
 have hu78 := Try.underlying78
 have HR0_5 := Aside0.mk hr0_5
 have HC0_5 := Aside0.mk hc0_5
 clear hr0_5 hc0_5
 have HR1_5 := Aside0.mk hr1_5
 have HC1_5 := Aside0.mk hc1_5
 clear hr1_5 hc1_5
 have HB := Aside0.mk (Below.refl w.heap.size w)
 have H : (if a0_2 = a1_2 then (if a0_3 > a1_3 then (some true) else (if a0_3 = a1_3 then (some (decide (a0_0 < a1_0))) else (some false))) else (some (decide (a0_2 > a1_2)))) = some r := h
 clear h
 by_cases c3 : a0_2 = a1_2
 ·
  rw [if_pos c3] at H
  have c3b0 : (a0_2 == a1_2) = true := beq_iff_eq.mpr c3
  have c3b1 : (a0_2 != a1_2) = false := bne_eq_false_iff_eq.mpr c3
  clear c3
  by_cases c4 : a0_3 > a1_3
  ·
   rw [if_pos c4] at H
   have c4b0 : decide (a1_3 < a0_3) = true := decide_eq_true c4
   clear c4
   obtain rfl := Option.some.inj H
   go_enter Try.func97, Try.ntmps97
   go_wp2_with (first | ((with_reducible refine gate_dst (N := 2) rfl ?_); refine box_event ?hg (N := 2) ?hd (cs := #[.int .i64 a0_0, .int .i64 a0_1, .int .i64 a0_2, .int .i64 a0_3, .int .i64 a0_4, .slice A0_5 l0_5.length c0_5]) (t := 78) ?hr ?_; (case hd => rfl); (case hg => rfl); (case hr => first | (go_simp; done) | (go_simp; rfl)); intro gb195 hg w5 hbox hb; have n0_ := Aside0.mk (below_step (by repeat (first | (with_reducible first | exact HB.out | apply below_alloc | apply pw_below_drewN | apply below_drew1) | exact HB.out)) hb); have n1_ := Aside0.mk (hbox); have n2_ := Aside0.mk ((by rw [hg]; exact (below_size (by repeat (first | (with_reducible first | exact HB.out | apply below_alloc | apply pw_below_drewN | apply below_drew1) | exact HB.out))) : w.heap.size ≤ gb195)); have n3_ := Aside0.mk ((by rw [hg]; exact (below_size (by repeat (first | (with_reducible first | exact HB.out | apply below_alloc | apply pw_below_drewN | apply below_drew1) | exact HB.out))) : w.heap.size ≤ gb195)); clear HB; have HB := n0_; have BK195 := n1_; have GW195 := n2_; have GE195 := n3_; clear n0_ n1_ n2_ n3_; clear hb hbox hg) | ((with_reducible refine gate_dst (N := 3) rfl ?_); refine box_event ?hg (N := 3) ?hd (cs := #[.int .i64 a1_0, .int .i64 a1_1, .int .i64 a1_2, .int .i64 a1_3, .int .i64 a1_4, .slice A1_5 l1_5.length c1_5]) (t := 78) ?hr ?_; (case hd => rfl); (case hg => rfl); (case hr => first | (go_simp; done) | (go_simp; rfl)); intro gb196 hg w6 hbox hb; have n0_ := Aside0.mk (blk_below (g := gb195) (o := .cells #[.int .i64 a0_0, .int .i64 a0_1, .int .i64 a0_2, .int .i64 a0_3, .int .i64 a0_4, .slice A0_5 l0_5.length c0_5] 78 (0, 0)) (by (with_reducible repeat (first | refine blk_drewN ?_ _ | refine blk_drew ?_ | refine blk_alloc ?_ _)); exact BK195.out) hb); have n1_ := Aside0.mk (below_step (by repeat (first | (with_reducible first | exact HB.out | apply below_alloc | apply pw_below_drewN | apply below_drew1 | refine below_set ?_ GE195.out) | exact HB.out)) hb); have n2_ := Aside0.mk (hbox); have n3_ := Aside0.mk ((by rw [hg]; exact (below_size (by repeat (first | (with_reducible first | exact HB.out | apply below_alloc | apply pw_below_drewN | apply below_drew1 | refine below_set ?_ GE195.out) | exact HB.out))) : w.heap.size ≤ gb196)); have n4_ := Aside0.mk ((by rw [hg]; exact (below_size (by repeat (first | (with_reducible first | exact HB.out | apply below_alloc | apply pw_below_drewN | apply below_drew1 | refine below_set ?_ GE195.out) | exact HB.out))) : w.heap.size ≤ gb196)); have n5_ := Aside0.mk ((by rw [hg]; exact Nat.ne_of_lt (blk_lt (g := gb195) (o := .cells #[.int .i64 a0_0, .int .i64 a0_1, .int .i64 a0_2, .int .i64 a0_3, .int .i64 a0_4, .slice A0_5 l0_5.length c0_5] 78 (0, 0)) (by (with_reducible repeat (first | refine blk_drewN ?_ _ | refine blk_drew ?_ | refine blk_alloc ?_ _)); exact BK195.out)) : gb195 ≠ gb196)); have n6_ := Aside0.mk ((by rw [hg]; exact Nat.ne_of_gt (blk_lt (g := gb195) (o := .cells #[.int .i64 a0_0, .int .i64 a0_1, .int .i64 a0_2, .int .i64 a0_3, .int .i64 a0_4, .slice A0_5 l0_5.length c0_5] 78 (0, 0)) (by (with_reducible repeat (first | refine blk_drewN ?_ _ | refine blk_drew ?_ | refine blk_alloc ?_ _)); exact BK195.out)) : gb196 ≠ gb195)); clear BK195; clear HB; have BK195 := n0_; have HB := n1_; have BK196 := n2_; have GW196 := n3_; have GE196 := n4_; have NB195_196 := n5_; have NB196_195 := n6_; clear n0_ n1_ n2_ n3_ n4_ n5_ n6_; clear hb hbox hg; have hnb7 := NB195_196.out; have hnc7 := NB196_195.out; have hcz8_0 : w6.cell? ⟨gb195, 0, none⟩ = some (.int .i64 a0_0) := (blk_cell BK195.out 0).trans rfl; have hcz8_1 : w6.cell? ⟨gb195, 1, none⟩ = some (.int .i64 a0_1) := (blk_cell BK195.out 1).trans rfl; have hcz8_2 : w6.cell? ⟨gb195, 2, none⟩ = some (.int .i64 a0_2) := (blk_cell BK195.out 2).trans rfl; have hcz8_3 : w6.cell? ⟨gb195, 3, none⟩ = some (.int .i64 a0_3) := (blk_cell BK195.out 3).trans rfl; have hcz8_4 : w6.cell? ⟨gb195, 4, none⟩ = some (.int .i64 a0_4) := (blk_cell BK195.out 4).trans rfl; have hcz8_5 : w6.cell? ⟨gb195, 5, none⟩ = some (.slice A0_5 l0_5.length c0_5) := (blk_cell BK195.out 5).trans rfl; have hfz8_0 := blk_frozen BK195.out 0; have hfz8_1 := blk_frozen BK195.out 1; have hfz8_2 := blk_frozen BK195.out 2; have hfz8_3 := blk_frozen BK195.out 3; have hfz8_4 := blk_frozen BK195.out 4; have hfz8_5 := blk_frozen BK195.out 5; have hcz9_0 : w6.cell? ⟨gb196, 0, none⟩ = some (.int .i64 a1_0) := (blk_cell BK196.out 0).trans rfl; have hcz9_1 : w6.cell? ⟨gb196, 1, none⟩ = some (.int .i64 a1_1) := (blk_cell BK196.out 1).trans rfl; have hcz9_2 : w6.cell? ⟨gb196, 2, none⟩ = some (.int .i64 a1_2) := (blk_cell BK196.out 2).trans rfl; have hcz9_3 : w6.cell? ⟨gb196, 3, none⟩ = some (.int .i64 a1_3) := (blk_cell BK196.out 3).trans rfl; have hcz9_4 : w6.cell? ⟨gb196, 4, none⟩ = some (.int .i64 a1_4) := (blk_cell BK196.out 4).trans rfl; have hcz9_5 : w6.cell? ⟨gb196, 5, none⟩ = some (.slice A1_5 l1_5.length c1_5) := (blk_cell BK196.out 5).trans rfl; have hfz9_0 := blk_frozen BK196.out 0; have hfz9_1 := blk_frozen BK196.out 1; have hfz9_2 := blk_frozen BK196.out 2; have hfz9_3 := blk_frozen BK196.out 3; have hfz9_4 := blk_frozen BK196.out 4; have hfz9_5 := blk_frozen BK196.out 5))
   go_ret
   exact ⟨by first | rfl | (simp [errW_none, errW_some] <;> rfl) | (simp [*, errW_none, errW_some] <;> rfl), by repeat (first | (with_reducible first | exact HB.out | apply below_alloc | apply pw_below_drewN | apply below_drew1 | refine below_set ?_ GE195.out | refine below_set ?_ GE196.out) | exact HB.out)⟩
  ·
   rw [if_neg c4] at H
   have c4b0 : decide (a1_3 < a0_3) = false := decide_eq_false c4
   clear c4
   by_cases c10 : a0_3 = a1_3
   ·
    rw [if_pos c10] at H
    have c10b0 : (a0_3 == a1_3) = true := beq_iff_eq.mpr c10
    have c10b1 : (a0_3 != a1_3) = false := bne_eq_false_iff_eq.mpr c10
    clear c10
    obtain rfl := Option.some.inj H
    go_enter Try.func97, Try.ntmps97
    go_wp2_with (first | ((with_reducible refine gate_dst (N := 2) rfl ?_); refine box_event ?hg (N := 2) ?hd (cs := #[.int .i64 a0_0, .int .i64 a0_1, .int .i64 a0_2, .int .i64 a0_3, .int .i64 a0_4, .slice A0_5 l0_5.length c0_5]) (t := 78) ?hr ?_; (case hd => rfl); (case hg => rfl); (case hr => first | (go_simp; done) | (go_simp; rfl)); intro gb195 hg w11 hbox hb; have n0_ := Aside0.mk (below_step (by repeat (first | (with_reducible first | exact HB.out | apply below_alloc | apply pw_below_drewN | apply below_drew1) | exact HB.out)) hb); have n1_ := Aside0.mk (hbox); have n2_ := Aside0.mk ((by rw [hg]; exact (below_size (by repeat (first | (with_reducible first | exact HB.out | apply below_alloc | apply pw_below_drewN | apply below_drew1) | exact HB.out))) : w.heap.size ≤ gb195)); have n3_ := Aside0.mk ((by rw [hg]; exact (below_size (by repeat (first | (with_reducible first | exact HB.out | apply below_alloc | apply pw_below_drewN | apply below_drew1) | exact HB.out))) : w.heap.size ≤ gb195)); clear HB; have HB := n0_; have BK195 := n1_; have GW195 := n2_; have GE195 := n3_; clear n0_ n1_ n2_ n3_; clear hb hbox hg) | ((with_reducible refine gate_dst (N := 3) rfl ?_); refine box_event ?hg (N := 3) ?hd (cs := #[.int .i64 a1_0, .int .i64 a1_1, .int .i64 a1_2, .int .i64 a1_3, .int .i64 a1_4, .slice A1_5 l1_5.length c1_5]) (t := 78) ?hr ?_; (case hd => rfl); (case hg => rfl); (case hr => first | (go_simp; done) | (go_simp; rfl)); intro gb196 hg w12 hbox hb; have n0_ := Aside0.mk (blk_below (g := gb195) (o := .cells #[.int .i64 a0_0, .int .i64 a0_1, .int .i64 a0_2, .int .i64 a0_3, .int .i64 a0_4, .slice A0_5 l0_5.length c0_5] 78 (0, 0)) (by (with_reducible repeat (first | refine blk_drewN ?_ _ | refine blk_drew ?_ | refine blk_alloc ?_ _)); exact BK195.out) hb); have n1_ := Aside0.mk (below_step (by repeat (first | (with_reducible first | exact HB.out | apply below_alloc | apply pw_below_drewN | apply below_drew1 | refine below_set ?_ GE195.out) | exact HB.out)) hb); have n2_ := Aside0.mk (hbox); have n3_ := Aside0.mk ((by rw [hg]; exact (below_size (by repeat (first | (with_reducible first | exact HB.out | apply below_alloc | apply pw_below_drewN | apply below_drew1 | refine below_set ?_ GE195.out) | exact HB.out))) : w.heap.size ≤ gb196)); have n4_ := Aside0.mk ((by rw [hg]; exact (below_size (by repeat (first | (with_reducible first | exact HB.out | apply below_alloc | apply pw_below_drewN | apply below_drew1 | refine below_set ?_ GE195.out) | exact HB.out))) : w.heap.size ≤ gb196)); have n5_ := Aside0.mk ((by rw [hg]; exact Nat.ne_of_lt (blk_lt (g := gb195) (o := .cells #[.int .i64 a0_0, .int .i64 a0_1, .int .i64 a0_2, .int .i64 a0_3, .int .i64 a0_4, .slice A0_5 l0_5.length c0_5] 78 (0, 0)) (by (with_reducible repeat (first | refine blk_drewN ?_ _ | refine blk_drew ?_ | refine blk_alloc ?_ _)); exact BK195.out)) : gb195 ≠ gb196)); have n6_ := Aside0.mk ((by rw [hg]; exact Nat.ne_of_gt (blk_lt (g := gb195) (o := .cells #[.int .i64 a0_0, .int .i64 a0_1, .int .i64 a0_2, .int .i64 a0_3, .int .i64 a0_4, .slice A0_5 l0_5.length c0_5] 78 (0, 0)) (by (with_reducible repeat (first | refine blk_drewN ?_ _ | refine blk_drew ?_ | refine blk_alloc ?_ _)); exact BK195.out)) : gb196 ≠ gb195)); clear BK195; clear HB; have BK195 := n0_; have HB := n1_; have BK196 := n2_; have GW196 := n3_; have GE196 := n4_; have NB195_196 := n5_; have NB196_195 := n6_; clear n0_ n1_ n2_ n3_ n4_ n5_ n6_; clear hb hbox hg; have hnb13 := NB195_196.out; have hnc13 := NB196_195.out; have hcz14_0 : w12.cell? ⟨gb195, 0, none⟩ = some (.int .i64 a0_0) := (blk_cell BK195.out 0).trans rfl; have hcz14_1 : w12.cell? ⟨gb195, 1, none⟩ = some (.int .i64 a0_1) := (blk_cell BK195.out 1).trans rfl; have hcz14_2 : w12.cell? ⟨gb195, 2, none⟩ = some (.int .i64 a0_2) := (blk_cell BK195.out 2).trans rfl; have hcz14_3 : w12.cell? ⟨gb195, 3, none⟩ = some (.int .i64 a0_3) := (blk_cell BK195.out 3).trans rfl; have hcz14_4 : w12.cell? ⟨gb195, 4, none⟩ = some (.int .i64 a0_4) := (blk_cell BK195.out 4).trans rfl; have hcz14_5 : w12.cell? ⟨gb195, 5, none⟩ = some (.slice A0_5 l0_5.length c0_5) := (blk_cell BK195.out 5).trans rfl; have hfz14_0 := blk_frozen BK195.out 0; have hfz14_1 := blk_frozen BK195.out 1; have hfz14_2 := blk_frozen BK195.out 2; have hfz14_3 := blk_frozen BK195.out 3; have hfz14_4 := blk_frozen BK195.out 4; have hfz14_5 := blk_frozen BK195.out 5; have hcz15_0 : w12.cell? ⟨gb196, 0, none⟩ = some (.int .i64 a1_0) := (blk_cell BK196.out 0).trans rfl; have hcz15_1 : w12.cell? ⟨gb196, 1, none⟩ = some (.int .i64 a1_1) := (blk_cell BK196.out 1).trans rfl; have hcz15_2 : w12.cell? ⟨gb196, 2, none⟩ = some (.int .i64 a1_2) := (blk_cell BK196.out 2).trans rfl; have hcz15_3 : w12.cell? ⟨gb196, 3, none⟩ = some (.int .i64 a1_3) := (blk_cell BK196.out 3).trans rfl; have hcz15_4 : w12.cell? ⟨gb196, 4, none⟩ = some (.int .i64 a1_4) := (blk_cell BK196.out 4).trans rfl; have hcz15_5 : w12.cell? ⟨gb196, 5, none⟩ = some (.slice A1_5 l1_5.length c1_5) := (blk_cell BK196.out 5).trans rfl; have hfz15_0 := blk_frozen BK196.out 0; have hfz15_1 := blk_frozen BK196.out 1; have hfz15_2 := blk_frozen BK196.out 2; have hfz15_3 := blk_frozen BK196.out 3; have hfz15_4 := blk_frozen BK196.out 4; have hfz15_5 := blk_frozen BK196.out 5))
    go_ret
    exact ⟨by first | rfl | (simp [errW_none, errW_some] <;> rfl) | (simp [*, errW_none, errW_some] <;> rfl), by repeat (first | (with_reducible first | exact HB.out | apply below_alloc | apply pw_below_drewN | apply below_drew1 | refine below_set ?_ GE195.out | refine below_set ?_ GE196.out) | exact HB.out)⟩
   ·
    rw [if_neg c10] at H
    have c10b0 : (a0_3 == a1_3) = false := beq_eq_false_iff_ne.mpr c10
    have c10b1 : (a0_3 != a1_3) = true := bne_iff_ne.mpr c10
    obtain rfl := Option.some.inj H
    go_enter Try.func97, Try.ntmps97
    go_wp2_with (first | ((with_reducible refine gate_dst (N := 2) rfl ?_); refine box_event ?hg (N := 2) ?hd (cs := #[.int .i64 a0_0, .int .i64 a0_1, .int .i64 a0_2, .int .i64 a0_3, .int .i64 a0_4, .slice A0_5 l0_5.length c0_5]) (t := 78) ?hr ?_; (case hd => rfl); (case hg => rfl); (case hr => first | (go_simp; done) | (go_simp; rfl)); intro gb195 hg w16 hbox hb; have n0_ := Aside0.mk (below_step (by repeat (first | (with_reducible first | exact HB.out | apply below_alloc | apply pw_below_drewN | apply below_drew1) | exact HB.out)) hb); have n1_ := Aside0.mk (hbox); have n2_ := Aside0.mk ((by rw [hg]; exact (below_size (by repeat (first | (with_reducible first | exact HB.out | apply below_alloc | apply pw_below_drewN | apply below_drew1) | exact HB.out))) : w.heap.size ≤ gb195)); have n3_ := Aside0.mk ((by rw [hg]; exact (below_size (by repeat (first | (with_reducible first | exact HB.out | apply below_alloc | apply pw_below_drewN | apply below_drew1) | exact HB.out))) : w.heap.size ≤ gb195)); clear HB; have HB := n0_; have BK195 := n1_; have GW195 := n2_; have GE195 := n3_; clear n0_ n1_ n2_ n3_; clear hb hbox hg) | ((with_reducible refine gate_dst (N := 3) rfl ?_); refine box_event ?hg (N := 3) ?hd (cs := #[.int .i64 a1_0, .int .i64 a1_1, .int .i64 a1_2, .int .i64 a1_3, .int .i64 a1_4, .slice A1_5 l1_5.length c1_5]) (t := 78) ?hr ?_; (case hd => rfl); (case hg => rfl); (case hr => first | (go_simp; done) | (go_simp; rfl)); intro gb196 hg w17 hbox hb; have n0_ := Aside0.mk (blk_below (g := gb195) (o := .cells #[.int .i64 a0_0, .int .i64 a0_1, .int .i64 a0_2, .int .i64 a0_3, .int .i64 a0_4, .slice A0_5 l0_5.length c0_5] 78 (0, 0)) (by (with_reducible repeat (first | refine blk_drewN ?_ _ | refine blk_drew ?_ | refine blk_alloc ?_ _)); exact BK195.out) hb); have n1_ := Aside0.mk (below_step (by repeat (first | (with_reducible first | exact HB.out | apply below_alloc | apply pw_below_drewN | apply below_drew1 | refine below_set ?_ GE195.out) | exact HB.out)) hb); have n2_ := Aside0.mk (hbox); have n3_ := Aside0.mk ((by rw [hg]; exact (below_size (by repeat (first | (with_reducible first | exact HB.out | apply below_alloc | apply pw_below_drewN | apply below_drew1 | refine below_set ?_ GE195.out) | exact HB.out))) : w.heap.size ≤ gb196)); have n4_ := Aside0.mk ((by rw [hg]; exact (below_size (by repeat (first | (with_reducible first | exact HB.out | apply below_alloc | apply pw_below_drewN | apply below_drew1 | refine below_set ?_ GE195.out) | exact HB.out))) : w.heap.size ≤ gb196)); have n5_ := Aside0.mk ((by rw [hg]; exact Nat.ne_of_lt (blk_lt (g := gb195) (o := .cells #[.int .i64 a0_0, .int .i64 a0_1, .int .i64 a0_2, .int .i64 a0_3, .int .i64 a0_4, .slice A0_5 l0_5.length c0_5] 78 (0, 0)) (by (with_reducible repeat (first | refine blk_drewN ?_ _ | refine blk_drew ?_ | refine blk_alloc ?_ _)); exact BK195.out)) : gb195 ≠ gb196)); have n6_ := Aside0.mk ((by rw [hg]; exact Nat.ne_of_gt (blk_lt (g := gb195) (o := .cells #[.int .i64 a0_0, .int .i64 a0_1, .int .i64 a0_2, .int .i64 a0_3, .int .i64 a0_4, .slice A0_5 l0_5.length c0_5] 78 (0, 0)) (by (with_reducible repeat (first | refine blk_drewN ?_ _ | refine blk_drew ?_ | refine blk_alloc ?_ _)); exact BK195.out)) : gb196 ≠ gb195)); clear BK195; clear HB; have BK195 := n0_; have HB := n1_; have BK196 := n2_; have GW196 := n3_; have GE196 := n4_; have NB195_196 := n5_; have NB196_195 := n6_; clear n0_ n1_ n2_ n3_ n4_ n5_ n6_; clear hb hbox hg; have hnb18 := NB195_196.out; have hnc18 := NB196_195.out; have hcz19_0 : w17.cell? ⟨gb195, 0, none⟩ = some (.int .i64 a0_0) := (blk_cell BK195.out 0).trans rfl; have hcz19_1 : w17.cell? ⟨gb195, 1, none⟩ = some (.int .i64 a0_1) := (blk_cell BK195.out 1).trans rfl; have hcz19_2 : w17.cell? ⟨gb195, 2, none⟩ = some (.int .i64 a0_2) := (blk_cell BK195.out 2).trans rfl; have hcz19_3 : w17.cell? ⟨gb195, 3, none⟩ = some (.int .i64 a0_3) := (blk_cell BK195.out 3).trans rfl; have hcz19_4 : w17.cell? ⟨gb195, 4, none⟩ = some (.int .i64 a0_4) := (blk_cell BK195.out 4).trans rfl; have hcz19_5 : w17.cell? ⟨gb195, 5, none⟩ = some (.slice A0_5 l0_5.length c0_5) := (blk_cell BK195.out 5).trans rfl; have hfz19_0 := blk_frozen BK195.out 0; have hfz19_1 := blk_frozen BK195.out 1; have hfz19_2 := blk_frozen BK195.out 2; have hfz19_3 := blk_frozen BK195.out 3; have hfz19_4 := blk_frozen BK195.out 4; have hfz19_5 := blk_frozen BK195.out 5; have hcz20_0 : w17.cell? ⟨gb196, 0, none⟩ = some (.int .i64 a1_0) := (blk_cell BK196.out 0).trans rfl; have hcz20_1 : w17.cell? ⟨gb196, 1, none⟩ = some (.int .i64 a1_1) := (blk_cell BK196.out 1).trans rfl; have hcz20_2 : w17.cell? ⟨gb196, 2, none⟩ = some (.int .i64 a1_2) := (blk_cell BK196.out 2).trans rfl; have hcz20_3 : w17.cell? ⟨gb196, 3, none⟩ = some (.int .i64 a1_3) := (blk_cell BK196.out 3).trans rfl; have hcz20_4 : w17.cell? ⟨gb196, 4, none⟩ = some (.int .i64 a1_4) := (blk_cell BK196.out 4).trans rfl; have hcz20_5 : w17.cell? ⟨gb196, 5, none⟩ = some (.slice A1_5 l1_5.length c1_5) := (blk_cell BK196.out 5).trans rfl; have hfz20_0 := blk_frozen BK196.out 0; have hfz20_1 := blk_frozen BK196.out 1; have hfz20_2 := blk_frozen BK196.out 2; have hfz20_3 := blk_frozen BK196.out 3; have hfz20_4 := blk_frozen BK196.out 4; have hfz20_5 := blk_frozen BK196.out 5))
    go_ret
    exact ⟨by first | rfl | (simp [errW_none, errW_some] <;> rfl) | (simp [*, errW_none, errW_some] <;> rfl), by repeat (first | (with_reducible first | exact HB.out | apply below_alloc | apply pw_below_drewN | apply below_drew1 | refine below_set ?_ GE195.out | refine below_set ?_ GE196.out) | exact HB.out)⟩
 ·
  rw [if_neg c3] at H
  have c3b0 : (a0_2 == a1_2) = false := beq_eq_false_iff_ne.mpr c3
  have c3b1 : (a0_2 != a1_2) = true := bne_iff_ne.mpr c3
  obtain rfl := Option.some.inj H
  go_enter Try.func97, Try.ntmps97
  go_wp2_with (first | ((with_reducible refine gate_dst (N := 2) rfl ?_); refine box_event ?hg (N := 2) ?hd (cs := #[.int .i64 a0_0, .int .i64 a0_1, .int .i64 a0_2, .int .i64 a0_3, .int .i64 a0_4, .slice A0_5 l0_5.length c0_5]) (t := 78) ?hr ?_; (case hd => rfl); (case hg => rfl); (case hr => first | (go_simp; done) | (go_simp; rfl)); intro gb195 hg w21 hbox hb; have n0_ := Aside0.mk (below_step (by repeat (first | (with_reducible first | exact HB.out | apply below_alloc | apply pw_below_drewN | apply below_drew1) | exact HB.out)) hb); have n1_ := Aside0.mk (hbox); have n2_ := Aside0.mk ((by rw [hg]; exact (below_size (by repeat (first | (with_reducible first | exact HB.out | apply below_alloc | apply pw_below_drewN | apply below_drew1) | exact HB.out))) : w.heap.size ≤ gb195)); have n3_ := Aside0.mk ((by rw [hg]; exact (below_size (by repeat (first | (with_reducible first | exact HB.out | apply below_alloc | apply pw_below_drewN | apply below_drew1) | exact HB.out))) : w.heap.size ≤ gb195)); clear HB; have HB := n0_; have BK195 := n1_; have GW195 := n2_; have GE195 := n3_; clear n0_ n1_ n2_ n3_; clear hb hbox hg) | ((with_reducible refine gate_dst (N := 3) rfl ?_); refine box_event ?hg (N := 3) ?hd (cs := #[.int .i64 a1_0, .int .i64 a1_1, .int .i64 a1_2, .int .i64 a1_3, .int .i64 a1_4, .slice A1_5 l1_5.length c1_5]) (t := 78) ?hr ?_; (case hd => rfl); (case hg => rfl); (case hr => first | (go_simp; done) | (go_simp; rfl)); intro gb196 hg w22 hbox hb; have n0_ := Aside0.mk (blk_below (g := gb195) (o := .cells #[.int .i64 a0_0, .int .i64 a0_1, .int .i64 a0_2, .int .i64 a0_3, .int .i64 a0_4, .slice A0_5 l0_5.length c0_5] 78 (0, 0)) (by (with_reducible repeat (first | refine blk_drewN ?_ _ | refine blk_drew ?_ | refine blk_alloc ?_ _)); exact BK195.out) hb); have n1_ := Aside0.mk (below_step (by repeat (first | (with_reducible first | exact HB.out | apply below_alloc | apply pw_below_drewN | apply below_drew1 | refine below_set ?_ GE195.out) | exact HB.out)) hb); have n2_ := Aside0.mk (hbox); have n3_ := Aside0.mk ((by rw [hg]; exact (below_size (by repeat (first | (with_reducible first | exact HB.out | apply below_alloc | apply pw_below_drewN | apply below_drew1 | refine below_set ?_ GE195.out) | exact HB.out))) : w.heap.size ≤ gb196)); have n4_ := Aside0.mk ((by rw [hg]; exact (below_size (by repeat (first | (with_reducible first | exact HB.out | apply below_alloc | apply pw_below_drewN | apply below_drew1 | refine below_set ?_ GE195.out) | exact HB.out))) : w.heap.size ≤ gb196)); have n5_ := Aside0.mk ((by rw [hg]; exact Nat.ne_of_lt (blk_lt (g := gb195) (o := .cells #[.int .i64 a0_0, .int .i64 a0_1, .int .i64 a0_2, .int .i64 a0_3, .int .i64 a0_4, .slice A0_5 l0_5.length c0_5] 78 (0, 0)) (by (with_reducible repeat (first | refine blk_drewN ?_ _ | refine blk_drew ?_ | refine blk_alloc ?_ _)); exact BK195.out)) : gb195 ≠ gb196)); have n6_ := Aside0.mk ((by rw [hg]; exact Nat.ne_of_gt (blk_lt (g := gb195) (o := .cells #[.int .i64 a0_0, .int .i64 a0_1, .int .i64 a0_2, .int .i64 a0_3, .int .i64 a0_4, .slice A0_5 l0_5.length c0_5] 78 (0, 0)) (by (with_reducible repeat (first | refine blk_drewN ?_ _ | refine blk_drew ?_ | refine blk_alloc ?_ _)); exact BK195.out)) : gb196 ≠ gb195)); clear BK195; clear HB; have BK195 := n0_; have HB := n1_; have BK196 := n2_; have GW196 := n3_; have GE196 := n4_; have NB195_196 := n5_; have NB196_195 := n6_; clear n0_ n1_ n2_ n3_ n4_ n5_ n6_; clear hb hbox hg; have hnb23 := NB195_196.out; have hnc23 := NB196_195.out; have hcz24_0 : w22.cell? ⟨gb195, 0, none⟩ = some (.int .i64 a0_0) := (blk_cell BK195.out 0).trans rfl; have hcz24_1 : w22.cell? ⟨gb195, 1, none⟩ = some (.int .i64 a0_1) := (blk_cell BK195.out 1).trans rfl; have hcz24_2 : w22.cell? ⟨gb195, 2, none⟩ = some (.int .i64 a0_2) := (blk_cell BK195.out 2).trans rfl; have hcz24_3 : w22.cell? ⟨gb195, 3, none⟩ = some (.int .i64 a0_3) := (blk_cell BK195.out 3).trans rfl; have hcz24_4 : w22.cell? ⟨gb195, 4, none⟩ = some (.int .i64 a0_4) := (blk_cell BK195.out 4).trans rfl; have hcz24_5 : w22.cell? ⟨gb195, 5, none⟩ = some (.slice A0_5 l0_5.length c0_5) := (blk_cell BK195.out 5).trans rfl; have hfz24_0 := blk_frozen BK195.out 0; have hfz24_1 := blk_frozen BK195.out 1; have hfz24_2 := blk_frozen BK195.out 2; have hfz24_3 := blk_frozen BK195.out 3; have hfz24_4 := blk_frozen BK195.out 4; have hfz24_5 := blk_frozen BK195.out 5; have hcz25_0 : w22.cell? ⟨gb196, 0, none⟩ = some (.int .i64 a1_0) := (blk_cell BK196.out 0).trans rfl; have hcz25_1 : w22.cell? ⟨gb196, 1, none⟩ = some (.int .i64 a1_1) := (blk_cell BK196.out 1).trans rfl; have hcz25_2 : w22.cell? ⟨gb196, 2, none⟩ = some (.int .i64 a1_2) := (blk_cell BK196.out 2).trans rfl; have hcz25_3 : w22.cell? ⟨gb196, 3, none⟩ = some (.int .i64 a1_3) := (blk_cell BK196.out 3).trans rfl; have hcz25_4 : w22.cell? ⟨gb196, 4, none⟩ = some (.int .i64 a1_4) := (blk_cell BK196.out 4).trans rfl; have hcz25_5 : w22.cell? ⟨gb196, 5, none⟩ = some (.slice A1_5 l1_5.length c1_5) := (blk_cell BK196.out 5).trans rfl; have hfz25_0 := blk_frozen BK196.out 0; have hfz25_1 := blk_frozen BK196.out 1; have hfz25_2 := blk_frozen BK196.out 2; have hfz25_3 := blk_frozen BK196.out 3; have hfz25_4 := blk_frozen BK196.out 4; have hfz25_5 := blk_frozen BK196.out 5))
  go_ret
  exact ⟨by first | rfl | (simp [errW_none, errW_some] <;> rfl) | (simp [*, errW_none, errW_some] <;> rfl), by repeat (first | (with_reducible first | exact HB.out | apply below_alloc | apply pw_below_drewN | apply below_drew1 | refine below_set ?_ GE195.out | refine below_set ?_ GE196.out) | exact HB.out)⟩
def spec_SideFor.j0 : Nat → List (S78) → Int → Int → Int → Int → Bool → Option (Int × Int)
  | 0, _, _, _, _, _, _ => none
  | k + 1, x0, x1, x2, x7, x8, x30 => if x30 = true then (some (0, 0)) else (if 0 ≤ x8 then (if x8 < (x0.length : Int) then (if 0 ≤ x7 then (if x7 < (x0.length : Int) then (if ((rd_T78 x0 x8).f4) < ((rd_T78 x0 x7).f4) then (some (x2, x1)) else (if ((rd_T78 x0 x8).f4) = ((rd_T78 x0 x7).f4) then ((spec_l19Before.f ((rd_T78 x0 x8).f0) ((rd_T78 x0 x8).f1) ((rd_T78 x0 x8).f2) ((rd_T78 x0 x8).f3) ((rd_T78 x0 x8).f4) ((rd_T78 x0 x8).f5) ((rd_T78 x0 x7).f0) ((rd_T78 x0 x7).f1) ((rd_T78 x0 x7).f2) ((rd_T78 x0 x7).f3) ((rd_T78 x0 x7).f4) ((rd_T78 x0 x7).f5)).bind fun t207 => (if t207 = true then (some (x2, x1)) else (some (x1, x2)))) else (some (x1, x2)))) else (none)) else (none)) else (none)) else (none))
def spec_SideFor.f (k : Nat) (l0 : List (S78)) (a1 : Int) (a2 : Int) : Option (Int × Int) := (spec_FindTeam.f k l0 a1).bind fun t198 => ((spec_FindTeam.f k l0 a2).bind fun t199 => ((spec_AreTeams.f k l0).bind fun t200 => (if t200 = true then (if t198 < 0 then (spec_SideFor.j0 k l0 a1 a2 t198 t199 true) else (if t199 < 0 then (spec_SideFor.j0 k l0 a1 a2 t198 t199 true) else (spec_SideFor.j0 k l0 a1 a2 t198 t199 (t198 == t199)))) else (spec_SideFor.j0 k l0 a1 a2 t198 t199 true))))
def spec_SideFor.T5 : Bool × List (List Nat × List Nat) := (true, [([], []), ([], []), ([0, 1], [0, 1]), ([2], [2]), ([3], [3]), ([], []), ([], []), ([5, 6], [5, 6]), ([7], [7]), ([8], [8]), ([4, 9], [4, 9]), ([10], [10]), ([11], [11]), ([11], [11]), ([12, 13, 11], [11, 12, 13]), ([14, 11], [11, 14]), ([15, 11], [11, 15]), ([11], [11]), ([11], [11]), ([17, 18, 11], [11, 17, 18]), ([19, 11], [11, 19]), ([20, 11], [11, 20]), ([16, 21, 11], [11, 16, 21]), ([22, 11, 11], [11, 22]), ([23], [23]), ([23], [23]), ([24, 25, 23], [23, 24, 25]), ([26, 23], [23, 26]), ([23], [23]), ([23], [23]), ([28, 29, 23], [23, 28, 29]), ([30, 23], [23, 30]), ([27, 31, 23, 23], [23, 27, 31]), ([23, 32, 11], [11, 23, 32]), ([11, 33], [11, 33])])
def spec_SideFor.B5 : List Nat := [0, 0, 3, 7, 15, 0, 0, 96, 224, 480, 1023, 2047, 4095, 4095, 16383, 32767, 65535, 4095, 4095, 397311, 921599, 1970175, 4194303, 8388607, 16777215, 16777215, 67108863, 134217727, 16777215, 16777215, 822083583, 1895825407, 4294967295, 8589934591, 17179869183]
theorem spec_SideFor.tab5 : rtab .any (opsOf Try.f96 5) = spec_SideFor.T5 := by kernel_rfl
theorem spec_SideFor.bits5 : waitsOk spec_SideFor.T5.2 spec_SideFor.B5 = true := by kernel_rfl
set_option maxHeartbeats 8000000 in
set_option maxRecDepth 100000 in
theorem spec_SideFor.calls (k : Nat) (A0 : Option Addr) (c0 : Nat) (l0 : List (S78)) (a1 : Int) (a2 : Int) (r1 : Int) (r2 : Int) (w : World) (hr0 : Kd.C k78 w A0 l0.length l0) (hc0 : l0.length ≤ c0) (h : spec_SideFor.f k l0 a1 a2 = some (r1, r2)) :
  Calls Try.prog 96 #[.slice A0 l0.length c0, .int .i64 a1, .int .i64 a2] w fun e w' => e = .returned (.agg #[.int .i64 r1, .int .i64 r2]) ∧ Below w.heap.size w w' := by
 have hu48 := Try.underlying48
 have hu78 := Try.underlying78
 have HR0 := Aside0.mk hr0
 have HC0 := Aside0.mk hc0
 clear hr0 hc0
 have HB := Aside0.mk (Below.refl w.heap.size w)
 have H : ((spec_FindTeam.f k l0 a1).bind fun t198 => ((spec_FindTeam.f k l0 a2).bind fun t199 => ((spec_AreTeams.f k l0).bind fun t200 => (if t200 = true then (if t198 < 0 then (spec_SideFor.j0 k l0 a1 a2 t198 t199 true) else (if t199 < 0 then (spec_SideFor.j0 k l0 a1 a2 t198 t199 true) else (spec_SideFor.j0 k l0 a1 a2 t198 t199 (t198 == t199)))) else (spec_SideFor.j0 k l0 a1 a2 t198 t199 true))))) = some (r1, r2) := h
 clear h
 replace H := Option.bind_eq_some_iff.mp H
 obtain ⟨t198, A40, H⟩ := H
 replace H : ((spec_FindTeam.f k l0 a2).bind fun t199 => ((spec_AreTeams.f k l0).bind fun t200 => (if t200 = true then (if t198 < 0 then (spec_SideFor.j0 k l0 a1 a2 t198 t199 true) else (if t199 < 0 then (spec_SideFor.j0 k l0 a1 a2 t198 t199 true) else (spec_SideFor.j0 k l0 a1 a2 t198 t199 (t198 == t199)))) else (spec_SideFor.j0 k l0 a1 a2 t198 t199 true)))) = some (r1, r2) := H
 have A4 := Aside0.mk A40
 clear A40
 replace H := Option.bind_eq_some_iff.mp H
 obtain ⟨t199, A50, H⟩ := H
 replace H : ((spec_AreTeams.f k l0).bind fun t200 => (if t200 = true then (if t198 < 0 then (spec_SideFor.j0 k l0 a1 a2 t198 t199 true) else (if t199 < 0 then (spec_SideFor.j0 k l0 a1 a2 t198 t199 true) else (spec_SideFor.j0 k l0 a1 a2 t198 t199 (t198 == t199)))) else (spec_SideFor.j0 k l0 a1 a2 t198 t199 true))) = some (r1, r2) := H
 have A5 := Aside0.mk A50
 clear A50
 have HC6 := Aside0.mk H
 clear H
 go_enter Try.func96, Try.ntmps96
 go_upto_region 3 with (first | ((with_reducible refine gate_dst (N := 6) rfl ?_); refine box_event ?hg (N := 6) ?hd (cs := #[.int .i64 0, .int .i64 0]) (t := 48) ?hr ?_; (case hd => rfl); (case hg => rfl); (case hr => first | (go_simp; done) | (go_simp; rfl)); intro gb197 hg w7 hbox hb; have n0_ := Aside0.mk (below_step (by repeat (first | (with_reducible first | exact HB.out | apply bA | apply bN | apply bD) | exact HB.out)) hb); have n1_ := Aside0.mk (hbox); have n2_ := Aside0.mk ((by rw [hg]; exact (below_size (by repeat (first | (with_reducible first | exact HB.out | apply bA | apply bN | apply bD) | exact HB.out))) : w.heap.size ≤ gb197)); have n3_ := Aside0.mk ((by rw [hg]; exact (below_size (by repeat (first | (with_reducible first | exact HB.out | apply bA | apply bN | apply bD) | exact HB.out))) : w.heap.size ≤ gb197)); clear HB; have HB := n0_; have BK197 := n1_; have GW197 := n2_; have GE197 := n3_; clear n0_ n1_ n2_ n3_; clear hb hbox hg) | ((with_reducible refine gate_callee (f := 62) rfl ?_); refine goesL_ (some 11) rfl rfl Try.func62 (by kernel_rfl) rfl #[.slice A0 l0.length c0, .int .i64 a1] rfl (by (try simp only [Y1, Y2, Y3]); first | done | rfl | (simp only [Y4, Y5]; rfl)) ?_; (with_reducible refine (spec_FindTeam.calls k _ _ l0 a1 t198 _ ?side1 ?side2 A4.out).mono ?_); (case side1 => repeat (first | exact (Kd.C_below HR0.out HB.out) | (with_reducible first | refine cA ?_ _ | refine cN ?_ _ | refine cD ?_))); (case side2 => exact HC0.out); rintro e w' ⟨rfl, ⟨nd, rfl⟩⟩; refine ⟨_, rfl, ?_⟩) | ((with_reducible refine gate_callee (f := 62) rfl ?_); refine goesL_ (some 14) rfl rfl Try.func62 (by kernel_rfl) rfl #[.slice A0 l0.length c0, .int .i64 a2] rfl (by (try simp only [Y1, Y2, Y3]); first | done | rfl | (simp only [Y4, Y5]; rfl)) ?_; (with_reducible refine (spec_FindTeam.calls k _ _ l0 a2 t199 _ ?side1 ?side2 A5.out).mono ?_); (case side1 => repeat (first | exact (Kd.C_below HR0.out (by repeat (first | (with_reducible first | exact HB.out | apply bA | apply bN | apply bD | refine below_set ?_ GE197.out) | exact HB.out))) | (with_reducible first | refine cA ?_ _ | refine cN ?_ _ | refine cD ?_))); (case side2 => exact HC0.out); rintro e w' ⟨rfl, ⟨nd, rfl⟩⟩; refine ⟨_, rfl, ?_⟩))
 (try simp only [Act.put, Z1, Z2, Z3])
 go_cut [30] (fun v30 wc => ∃ (kq : Nat) (x30_5 : Bool), v30 = .bool x30_5 ∧ Aside0 (spec_SideFor.j0 kq l0 a1 a2 t198 t199 x30_5 = some (r1, r2)) ∧ Aside0 (kq ≤ k) ∧ Aside0 (wc.heap[gb197]? = some (.cells #[.int .i64 0, .int .i64 0] 48 (0, 0))) ∧ Aside0 (Below w.heap.size w wc))
 case first =>
  have H := HC6.out
  clear HC6
  replace H := Option.bind_eq_some_iff.mp H
  obtain ⟨t200, A80, H⟩ := H
  replace H : (if t200 = true then (if t198 < 0 then (spec_SideFor.j0 k l0 a1 a2 t198 t199 true) else (if t199 < 0 then (spec_SideFor.j0 k l0 a1 a2 t198 t199 true) else (spec_SideFor.j0 k l0 a1 a2 t198 t199 (t198 == t199)))) else (spec_SideFor.j0 k l0 a1 a2 t198 t199 true)) = some (r1, r2) := H
  have A8 := Aside0.mk A80
  clear A80
  by_cases c9 : t200 = true
  rotate_left
  ·
   replace c9 := Bool.eq_false_iff.mpr c9
   subst c9
   have H1 : (spec_SideFor.j0 k l0 a1 a2 t198 t199 true) = some (r1, r2) := by rw [if_neg (show ¬ (false = true) by decide)] at H; exact H
   clear H
   have H := H1
   clear H1
   have H' := Aside0.mk H
   clear H
   go_wp2_with (first | ((with_reducible refine gate_callee (f := 69) rfl ?_); refine goesL_ (some 16) rfl rfl Try.func69 (by kernel_rfl) rfl #[.slice A0 l0.length c0] rfl (by (try simp only [Y1, Y2, Y3]); first | done | rfl | (simp only [Y4, Y5]; rfl)) ?_; (with_reducible refine (spec_AreTeams.calls k _ _ l0 false _ ?side1 ?side2 A8.out).mono ?_); (case side1 => repeat (first | exact (Kd.C_below HR0.out HB.out) | (with_reducible first | refine cA ?_ _ | refine cN ?_ _ | refine cD ?_))); (case side2 => exact HC0.out); rintro e w15 ⟨rfl, hb⟩; refine ⟨_, rfl, ?_⟩; replace BK197 := Aside0.mk (blk_below (g := gb197) (o := .cells #[.int .i64 0, .int .i64 0] 48 (0, 0)) (by (with_reducible repeat (first | refine kN ?_ _ | refine kD ?_ | refine kA ?_ _)); exact BK197.out) hb); replace HB := Aside0.mk (below_step (by repeat (first | (with_reducible first | exact HB.out | apply bA | apply bN | apply bD | refine below_set ?_ GE197.out) | exact HB.out)) hb); (try clear hb); (try clear hb2); (try clear hk); (try clear hi)))
   go_meet
   case rel => exact ⟨_, (true), (by first | rfl | (simp; done) | (simp [*]; done)), H', ⟨by first | omega | exact Nat.le_refl _⟩, ⟨by (with_reducible repeat (first | refine kN ?_ _ | refine kD ?_ | refine kA ?_ _)); exact BK197.out⟩, ⟨by repeat (first | (with_reducible first | exact HB.out | apply bA | apply bN | apply bD | refine below_set ?_ GE197.out) | exact HB.out)⟩⟩
  subst c9
  have H1 : (if t198 < 0 then (spec_SideFor.j0 k l0 a1 a2 t198 t199 true) else (if t199 < 0 then (spec_SideFor.j0 k l0 a1 a2 t198 t199 true) else (spec_SideFor.j0 k l0 a1 a2 t198 t199 (t198 == t199)))) = some (r1, r2) := by rw [if_pos rfl] at H; exact H
  clear H
  have H := H1
  clear H1
  by_cases c10 : t198 < 0
  rotate_left
  ·
   rw [if_neg c10] at H
   have c10b0 : decide (t198 < 0) = false := decide_eq_false c10
   clear c10
   (first | rw [c10b0] | (simp only [i64_w, i32_w]; rw [c10b0]) | skip)
   by_cases c12 : t199 < 0
   rotate_left
   ·
    rw [if_neg c12] at H
    have c12b0 : decide (t199 < 0) = false := decide_eq_false c12
    clear c12
    have H' := Aside0.mk H
    clear H
    go_wp2_with (first | ((with_reducible refine gate_callee (f := 69) rfl ?_); refine goesL_ (some 16) rfl rfl Try.func69 (by kernel_rfl) rfl #[.slice A0 l0.length c0] rfl (by (try simp only [Y1, Y2, Y3]); first | done | rfl | (simp only [Y4, Y5]; rfl)) ?_; (with_reducible refine (spec_AreTeams.calls k _ _ l0 true _ ?side1 ?side2 A8.out).mono ?_); (case side1 => repeat (first | exact (Kd.C_below HR0.out HB.out) | (with_reducible first | refine cA ?_ _ | refine cN ?_ _ | refine cD ?_))); (case side2 => exact HC0.out); rintro e w14 ⟨rfl, hb⟩; refine ⟨_, rfl, ?_⟩; replace BK197 := Aside0.mk (blk_below (g := gb197) (o := .cells #[.int .i64 0, .int .i64 0] 48 (0, 0)) (by (with_reducible repeat (first | refine kN ?_ _ | refine kD ?_ | refine kA ?_ _)); exact BK197.out) hb); replace HB := Aside0.mk (below_step (by repeat (first | (with_reducible first | exact HB.out | apply bA | apply bN | apply bD | refine below_set ?_ GE197.out) | exact HB.out)) hb); (try clear hb); (try clear hb2); (try clear hk); (try clear hi)))
    go_meet
    case rel => exact ⟨_, ((t198 == t199)), (by first | rfl | (simp; done) | (simp [*]; done)), H', ⟨by first | omega | exact Nat.le_refl _⟩, ⟨by (with_reducible repeat (first | refine kN ?_ _ | refine kD ?_ | refine kA ?_ _)); exact BK197.out⟩, ⟨by repeat (first | (with_reducible first | exact HB.out | apply bA | apply bN | apply bD | refine below_set ?_ GE197.out) | exact HB.out)⟩⟩
   rw [if_pos c12] at H
   have c12b0 : decide (t199 < 0) = true := decide_eq_true c12
   clear c12
   have H' := Aside0.mk H
   clear H
   go_wp2_with (first | ((with_reducible refine gate_callee (f := 69) rfl ?_); refine goesL_ (some 16) rfl rfl Try.func69 (by kernel_rfl) rfl #[.slice A0 l0.length c0] rfl (by (try simp only [Y1, Y2, Y3]); first | done | rfl | (simp only [Y4, Y5]; rfl)) ?_; (with_reducible refine (spec_AreTeams.calls k _ _ l0 true _ ?side1 ?side2 A8.out).mono ?_); (case side1 => repeat (first | exact (Kd.C_below HR0.out HB.out) | (with_reducible first | refine cA ?_ _ | refine cN ?_ _ | refine cD ?_))); (case side2 => exact HC0.out); rintro e w13 ⟨rfl, hb⟩; refine ⟨_, rfl, ?_⟩; replace BK197 := Aside0.mk (blk_below (g := gb197) (o := .cells #[.int .i64 0, .int .i64 0] 48 (0, 0)) (by (with_reducible repeat (first | refine kN ?_ _ | refine kD ?_ | refine kA ?_ _)); exact BK197.out) hb); replace HB := Aside0.mk (below_step (by repeat (first | (with_reducible first | exact HB.out | apply bA | apply bN | apply bD | refine below_set ?_ GE197.out) | exact HB.out)) hb); (try clear hb); (try clear hb2); (try clear hk); (try clear hi)))
   go_meet
   case rel => exact ⟨_, (true), (by first | rfl | (simp; done) | (simp [*]; done)), H', ⟨by first | omega | exact Nat.le_refl _⟩, ⟨by (with_reducible repeat (first | refine kN ?_ _ | refine kD ?_ | refine kA ?_ _)); exact BK197.out⟩, ⟨by repeat (first | (with_reducible first | exact HB.out | apply bA | apply bN | apply bD | refine below_set ?_ GE197.out) | exact HB.out)⟩⟩
  rw [if_pos c10] at H
  have c10b0 : decide (t198 < 0) = true := decide_eq_true c10
  clear c10
  (first | rw [c10b0] | (simp only [i64_w, i32_w]; rw [c10b0]) | skip)
  have H' := Aside0.mk H
  clear H
  go_wp2_with (first | ((with_reducible refine gate_callee (f := 69) rfl ?_); refine goesL_ (some 16) rfl rfl Try.func69 (by kernel_rfl) rfl #[.slice A0 l0.length c0] rfl (by (try simp only [Y1, Y2, Y3]); first | done | rfl | (simp only [Y4, Y5]; rfl)) ?_; (with_reducible refine (spec_AreTeams.calls k _ _ l0 true _ ?side1 ?side2 A8.out).mono ?_); (case side1 => repeat (first | exact (Kd.C_below HR0.out HB.out) | (with_reducible first | refine cA ?_ _ | refine cN ?_ _ | refine cD ?_))); (case side2 => exact HC0.out); rintro e w11 ⟨rfl, hb⟩; refine ⟨_, rfl, ?_⟩; replace BK197 := Aside0.mk (blk_below (g := gb197) (o := .cells #[.int .i64 0, .int .i64 0] 48 (0, 0)) (by (with_reducible repeat (first | refine kN ?_ _ | refine kD ?_ | refine kA ?_ _)); exact BK197.out) hb); replace HB := Aside0.mk (below_step (by repeat (first | (with_reducible first | exact HB.out | apply bA | apply bN | apply bD | refine below_set ?_ GE197.out) | exact HB.out)) hb); (try clear hb); (try clear hb2); (try clear hk); (try clear hi)))
  go_meet
  case rel => exact ⟨_, (true), (by first | rfl | (simp; done) | (simp [*]; done)), H', ⟨by first | omega | exact Nat.le_refl _⟩, ⟨by (with_reducible repeat (first | refine kN ?_ _ | refine kD ?_ | refine kA ?_ _)); exact BK197.out⟩, ⟨by repeat (first | (with_reducible first | exact HB.out | apply bA | apply bN | apply bD | refine below_set ?_ GE197.out) | exact HB.out)⟩⟩
 case rest =>
  clear HC6
  try clear c1
  try clear p2
  try clear c6
  try clear c9
  try clear c10
  try clear c10b0
  try clear c12
  try clear c12b0
  obtain ⟨kq, x30_5, rfl, HA, HJ5, BK197, HB⟩ := hcut
  cases kq with
  | zero => exact absurd HA.out (by simp [spec_SideFor.j0])
  | succ kj5 =>
   have H := HA.out
   clear HA
   simp only [spec_SideFor.j0] at H
   by_cases c16 : x30_5 = true
   rotate_left
   ·
    replace c16 := Bool.eq_false_iff.mpr c16
    subst c16
    have H1 : (if 0 ≤ t199 then (if t199 < (l0.length : Int) then (if 0 ≤ t198 then (if t198 < (l0.length : Int) then (if ((rd_T78 l0 t199).f4) < ((rd_T78 l0 t198).f4) then (some (a2, a1)) else (if ((rd_T78 l0 t199).f4) = ((rd_T78 l0 t198).f4) then ((spec_l19Before.f ((rd_T78 l0 t199).f0) ((rd_T78 l0 t199).f1) ((rd_T78 l0 t199).f2) ((rd_T78 l0 t199).f3) ((rd_T78 l0 t199).f4) ((rd_T78 l0 t199).f5) ((rd_T78 l0 t198).f0) ((rd_T78 l0 t198).f1) ((rd_T78 l0 t198).f2) ((rd_T78 l0 t198).f3) ((rd_T78 l0 t198).f4) ((rd_T78 l0 t198).f5)).bind fun t207 => (if t207 = true then (some (a2, a1)) else (some (a1, a2)))) else (some (a1, a2)))) else (none)) else (none)) else (none)) else (none)) = some (r1, r2) := by rw [if_neg (show ¬ (false = true) by decide)] at H; exact H
    clear H
    have H := H1
    clear H1
    by_cases c18 : 0 ≤ t199
    rotate_left
    ·
     rw [if_neg c18] at H
     exact absurd H (by simp)

    rw [if_pos c18] at H
    have c18b0 : decide (0 ≤ t199) = true := decide_eq_true c18
    clear c18
    by_cases c19 : t199 < (l0.length : Int)
    rotate_left
    ·
     rw [if_neg c19] at H
     exact absurd H (by simp)
    rw [if_pos c19] at H
    have c19b0 : decide (t199 < (l0.length : Int)) = true := decide_eq_true c19
    clear c19
    by_cases c20 : 0 ≤ t198
    rotate_left
    ·
     rw [if_neg c20] at H
     exact absurd H (by simp)
    rw [if_pos c20] at H
    have c20b0 : decide (0 ≤ t198) = true := decide_eq_true c20
    clear c20
    by_cases c21 : t198 < (l0.length : Int)
    rotate_left
    ·
     rw [if_neg c21] at H
     exact absurd H (by simp)
    rw [if_pos c21] at H
    have c21b0 : decide (t198 < (l0.length : Int)) = true := decide_eq_true c21
    clear c21
    by_cases c22 : ((rd_T78 l0 t199).f4) < ((rd_T78 l0 t198).f4)
    rotate_left
    ·
     rw [if_neg c22] at H
     have c22b0 : decide (((rd_T78 l0 t199).f4) < ((rd_T78 l0 t198).f4)) = false := decide_eq_false c22
     clear c22
     by_cases c25 : ((rd_T78 l0 t199).f4) = ((rd_T78 l0 t198).f4)
     rotate_left
     ·
      rw [if_neg c25] at H
      have c25b0 : (((rd_T78 l0 t199).f4) == ((rd_T78 l0 t198).f4)) = false := beq_eq_false_iff_ne.mpr c25
      have c25b1 : (((rd_T78 l0 t199).f4) != ((rd_T78 l0 t198).f4)) = true := bne_iff_ne.mpr c25
      simp only [Option.some.injEq, Prod.mk.injEq] at H
      obtain ⟨rfl, rfl⟩ := H
      try go_wp2
      replace BK197 := Aside0.mk (blk_drew BK197.out)
      replace HB := Aside0.mk (below_drew1 HB.out)
      have p201 : 0 ≤ (t199 : Int) := od (by assumption)
      have q201 : t199 < (l0.length : Int) := od (by assumption)
      obtain ⟨ad201, A201_5, c201_5, e201, hx201_0, hx201_1, hx201_2, hx201_3, hx201_4, hx201_5, hl201_5, hi201_5⟩ := at_T78 HR0.out t199 p201 q201
      have hw201_5 := hx201_5
      have hw201_4 := hx201_4
      have hw201_3 := hx201_3
      have hw201_2 := hx201_2
      have hw201_1 := hx201_1
      have hw201_0 := hx201_0
      cases e201
      replace hx201_0 := (HB.out.cell (bl w _ hx201_0)).trans hx201_0
      replace hx201_1 := (HB.out.cell (bl w _ hx201_1)).trans hx201_1
      replace hx201_2 := (HB.out.cell (bl w _ hx201_2)).trans hx201_2
      replace hx201_3 := (HB.out.cell (bl w _ hx201_3)).trans hx201_3
      replace hx201_4 := (HB.out.cell (bl w _ hx201_4)).trans hx201_4
      replace hx201_5 := (HB.out.cell (bl w _ hx201_5)).trans hx201_5
      have HR201_5 := Aside0.mk hi201_5
      have HC201_5 := Aside0.mk hl201_5
      clear hi201_5 hl201_5
      replace p201 := eq_true p201
      replace q201 := eq_true q201
      have p202 : 0 ≤ (t198 : Int) := od (by assumption)
      have q202 : t198 < (l0.length : Int) := od (by assumption)
      obtain ⟨ad202, A202_5, c202_5, e202, hx202_0, hx202_1, hx202_2, hx202_3, hx202_4, hx202_5, hl202_5, hi202_5⟩ := at_T78 HR0.out t198 p202 q202
      have hw202_5 := hx202_5
      have hw202_4 := hx202_4
      have hw202_3 := hx202_3
      have hw202_2 := hx202_2
      have hw202_1 := hx202_1
      have hw202_0 := hx202_0
      obtain rfl : ad201 = ad202 := (by injection e202)
      replace hx202_0 := (HB.out.cell (bl w _ hx202_0)).trans hx202_0
      replace hx202_1 := (HB.out.cell (bl w _ hx202_1)).trans hx202_1
      replace hx202_2 := (HB.out.cell (bl w _ hx202_2)).trans hx202_2
      replace hx202_3 := (HB.out.cell (bl w _ hx202_3)).trans hx202_3
      replace hx202_4 := (HB.out.cell (bl w _ hx202_4)).trans hx202_4
      replace hx202_5 := (HB.out.cell (bl w _ hx202_5)).trans hx202_5
      have HR202_5 := Aside0.mk hi202_5
      have HC202_5 := Aside0.mk hl202_5
      clear hi202_5 hl202_5
      replace p202 := eq_true p202
      replace q202 := eq_true q202
      have p203 : 0 ≤ (t199 : Int) := od (by assumption)
      have q203 : t199 < (l0.length : Int) := od (by assumption)
      obtain ⟨ad203, A203_5, c203_5, e203, hx203_0, hx203_1, hx203_2, hx203_3, hx203_4, hx203_5, hl203_5, hi203_5⟩ := at_T78 HR0.out t199 p203 q203
      have hw203_5 := hx203_5
      have hw203_4 := hx203_4
      have hw203_3 := hx203_3
      have hw203_2 := hx203_2
      have hw203_1 := hx203_1
      have hw203_0 := hx203_0
      obtain rfl : ad201 = ad203 := (by injection e203)
      replace hx203_0 := (HB.out.cell (bl w _ hx203_0)).trans hx203_0
      replace hx203_1 := (HB.out.cell (bl w _ hx203_1)).trans hx203_1
      replace hx203_2 := (HB.out.cell (bl w _ hx203_2)).trans hx203_2
      replace hx203_3 := (HB.out.cell (bl w _ hx203_3)).trans hx203_3
      replace hx203_4 := (HB.out.cell (bl w _ hx203_4)).trans hx203_4
      replace hx203_5 := (HB.out.cell (bl w _ hx203_5)).trans hx203_5
      have HR203_5 := Aside0.mk hi203_5
      have HC203_5 := Aside0.mk hl203_5
      clear hi203_5 hl203_5
      replace p203 := eq_true p203
      replace q203 := eq_true q203
      have ea_ := Option.some.inj (hx201_5.symm.trans hx203_5)
      injection ea_ with ea_ en_ ec_
      subst ea_
      subst ec_
      clear en_
      have p204 : 0 ≤ (t198 : Int) := od (by assumption)
      have q204 : t198 < (l0.length : Int) := od (by assumption)
      obtain ⟨ad204, A204_5, c204_5, e204, hx204_0, hx204_1, hx204_2, hx204_3, hx204_4, hx204_5, hl204_5, hi204_5⟩ := at_T78 HR0.out t198 p204 q204
      have hw204_5 := hx204_5
      have hw204_4 := hx204_4
      have hw204_3 := hx204_3
      have hw204_2 := hx204_2
      have hw204_1 := hx204_1
      have hw204_0 := hx204_0
      obtain rfl : ad201 = ad204 := (by injection e204)
      replace hx204_0 := (HB.out.cell (bl w _ hx204_0)).trans hx204_0
      replace hx204_1 := (HB.out.cell (bl w _ hx204_1)).trans hx204_1
      replace hx204_2 := (HB.out.cell (bl w _ hx204_2)).trans hx204_2
      replace hx204_3 := (HB.out.cell (bl w _ hx204_3)).trans hx204_3
      replace hx204_4 := (HB.out.cell (bl w _ hx204_4)).trans hx204_4
      replace hx204_5 := (HB.out.cell (bl w _ hx204_5)).trans hx204_5
      have HR204_5 := Aside0.mk hi204_5
      have HC204_5 := Aside0.mk hl204_5
      clear hi204_5 hl204_5
      replace p204 := eq_true p204
      replace q204 := eq_true q204
      have ea_ := Option.some.inj (hx202_5.symm.trans hx204_5)
      injection ea_ with ea_ en_ ec_
      subst ea_
      subst ec_
      clear en_
      refine start_ (n := 35) (S := fun w' => w'.cell? (ad201.add ((t199).toNat * 6)) = some (.int .i64 ((rd_T78 l0 t199).f0)) ∧ w'.cell? ⟨(ad201.add ((t199).toNat * 6)).block, (ad201.add ((t199).toNat * 6)).off + 1, none⟩ = some (.int .i64 ((rd_T78 l0 t199).f1)) ∧ w'.cell? ⟨(ad201.add ((t199).toNat * 6)).block, (ad201.add ((t199).toNat * 6)).off + 2, none⟩ = some (.int .i64 ((rd_T78 l0 t199).f2)) ∧ w'.cell? ⟨(ad201.add ((t199).toNat * 6)).block, (ad201.add ((t199).toNat * 6)).off + 3, none⟩ = some (.int .i64 ((rd_T78 l0 t199).f3)) ∧ w'.cell? ⟨(ad201.add ((t199).toNat * 6)).block, (ad201.add ((t199).toNat * 6)).off + 4, none⟩ = some (.int .i64 ((rd_T78 l0 t199).f4)) ∧ w'.cell? ⟨(ad201.add ((t199).toNat * 6)).block, (ad201.add ((t199).toNat * 6)).off + 5, none⟩ = some (.slice A201_5 ((rd_T78 l0 t199).f5).length c201_5) ∧ w'.cell? (ad201.add ((t198).toNat * 6)) = some (.int .i64 ((rd_T78 l0 t198).f0)) ∧ w'.cell? ⟨(ad201.add ((t198).toNat * 6)).block, (ad201.add ((t198).toNat * 6)).off + 1, none⟩ = some (.int .i64 ((rd_T78 l0 t198).f1)) ∧ w'.cell? ⟨(ad201.add ((t198).toNat * 6)).block, (ad201.add ((t198).toNat * 6)).off + 2, none⟩ = some (.int .i64 ((rd_T78 l0 t198).f2)) ∧ w'.cell? ⟨(ad201.add ((t198).toNat * 6)).block, (ad201.add ((t198).toNat * 6)).off + 3, none⟩ = some (.int .i64 ((rd_T78 l0 t198).f3)) ∧ w'.cell? ⟨(ad201.add ((t198).toNat * 6)).block, (ad201.add ((t198).toNat * 6)).off + 4, none⟩ = some (.int .i64 ((rd_T78 l0 t198).f4)) ∧ w'.cell? ⟨(ad201.add ((t198).toNat * 6)).block, (ad201.add ((t198).toNat * 6)).off + 5, none⟩ = some (.slice A202_5 ((rd_T78 l0 t198).f5).length c202_5) ∧ w'.cell? (ad201.add ((t199).toNat * 6)) = some (.int .i64 ((rd_T78 l0 t199).f0)) ∧ w'.cell? ⟨(ad201.add ((t199).toNat * 6)).block, (ad201.add ((t199).toNat * 6)).off + 1, none⟩ = some (.int .i64 ((rd_T78 l0 t199).f1)) ∧ w'.cell? ⟨(ad201.add ((t199).toNat * 6)).block, (ad201.add ((t199).toNat * 6)).off + 2, none⟩ = some (.int .i64 ((rd_T78 l0 t199).f2)) ∧ w'.cell? ⟨(ad201.add ((t199).toNat * 6)).block, (ad201.add ((t199).toNat * 6)).off + 3, none⟩ = some (.int .i64 ((rd_T78 l0 t199).f3)) ∧ w'.cell? ⟨(ad201.add ((t199).toNat * 6)).block, (ad201.add ((t199).toNat * 6)).off + 4, none⟩ = some (.int .i64 ((rd_T78 l0 t199).f4)) ∧ w'.cell? ⟨(ad201.add ((t199).toNat * 6)).block, (ad201.add ((t199).toNat * 6)).off + 5, none⟩ = some (.slice A201_5 ((rd_T78 l0 t199).f5).length c201_5) ∧ w'.cell? (ad201.add ((t198).toNat * 6)) = some (.int .i64 ((rd_T78 l0 t198).f0)) ∧ w'.cell? ⟨(ad201.add ((t198).toNat * 6)).block, (ad201.add ((t198).toNat * 6)).off + 1, none⟩ = some (.int .i64 ((rd_T78 l0 t198).f1)) ∧ w'.cell? ⟨(ad201.add ((t198).toNat * 6)).block, (ad201.add ((t198).toNat * 6)).off + 2, none⟩ = some (.int .i64 ((rd_T78 l0 t198).f2)) ∧ w'.cell? ⟨(ad201.add ((t198).toNat * 6)).block, (ad201.add ((t198).toNat * 6)).off + 3, none⟩ = some (.int .i64 ((rd_T78 l0 t198).f3)) ∧ w'.cell? ⟨(ad201.add ((t198).toNat * 6)).block, (ad201.add ((t198).toNat * 6)).off + 4, none⟩ = some (.int .i64 ((rd_T78 l0 t198).f4)) ∧ w'.cell? ⟨(ad201.add ((t198).toNat * 6)).block, (ad201.add ((t198).toNat * 6)).off + 5, none⟩ = some (.slice A202_5 ((rd_T78 l0 t198).f5).length c202_5)) (ds := []) (bv 35 0) (by kernel_rfl) rfl rfl ⟨((HB.out.cell (bl w _ hw201_0)).trans hw201_0), ((HB.out.cell (bl w _ hw201_1)).trans hw201_1), ((HB.out.cell (bl w _ hw201_2)).trans hw201_2), ((HB.out.cell (bl w _ hw201_3)).trans hw201_3), ((HB.out.cell (bl w _ hw201_4)).trans hw201_4), ((HB.out.cell (bl w _ hw201_5)).trans hw201_5), ((HB.out.cell (bl w _ hw202_0)).trans hw202_0), ((HB.out.cell (bl w _ hw202_1)).trans hw202_1), ((HB.out.cell (bl w _ hw202_2)).trans hw202_2), ((HB.out.cell (bl w _ hw202_3)).trans hw202_3), ((HB.out.cell (bl w _ hw202_4)).trans hw202_4), ((HB.out.cell (bl w _ hw202_5)).trans hw202_5), ((HB.out.cell (bl w _ hw203_0)).trans hw203_0), ((HB.out.cell (bl w _ hw203_1)).trans hw203_1), ((HB.out.cell (bl w _ hw203_2)).trans hw203_2), ((HB.out.cell (bl w _ hw203_3)).trans hw203_3), ((HB.out.cell (bl w _ hw203_4)).trans hw203_4), ((HB.out.cell (bl w _ hw203_5)).trans hw203_5), ((HB.out.cell (bl w _ hw204_0)).trans hw204_0), ((HB.out.cell (bl w _ hw204_1)).trans hw204_1), ((HB.out.cell (bl w _ hw204_2)).trans hw204_2), ((HB.out.cell (bl w _ hw204_3)).trans hw204_3), ((HB.out.cell (bl w _ hw204_4)).trans hw204_4), ((HB.out.cell (bl w _ hw204_5)).trans hw204_5)⟩ (fun hHeld => ?_); refine with_tabW spec_SideFor.tab5 spec_SideFor.bits5 (fun HT_ HW_ => ?_)
      generalize wc.drew = w34 at BK197 HB HR201_5 HR202_5 HR203_5 HR204_5 hx201_0 hx201_1 hx201_2 hx201_3 hx201_4 hx201_5 hx202_0 hx202_1 hx202_2 hx202_3 hx202_4 hx202_5 hx203_0 hx203_1 hx203_2 hx203_3 hx203_4 hx203_5 hx204_0 hx204_1 hx204_2 hx204_3 hx204_4 hx204_5 hHeld ⊢
      refine pv_ 35 0 32 1 rfl rfl HT_ ?_; refine pv_ 35 1 33 3 rfl rfl HT_ ?_; refine pv_ 35 2 34 7 rfl rfl HT_ ?_; refine pv_ 35 3 35 15 rfl rfl HT_ ?_; refine pv_ 35 5 37 47 rfl rfl HT_ ?_; refine pv_ 35 6 38 111 rfl rfl HT_ ?_; refine pv_ 35 7 39 239 rfl rfl HT_ ?_; refine pv_ 35 8 40 495 rfl rfl HT_ ?_
      refine tv_ 35 4 36 511 rfl rfl HT_ HW_ hHeld (by rintro w' ⟨s0, s1, s2, s3, s4, s5, s6, s7, s8, s9, s10, s11, s12, s13, s14, s15, s16, s17, s18, s19, s20, s21, s22, s23⟩; go_simp; with_reducible rfl) ?_
      refine tv_ 35 9 41 1023 rfl rfl HT_ HW_ hHeld (by rintro w' ⟨s0, s1, s2, s3, s4, s5, s6, s7, s8, s9, s10, s11, s12, s13, s14, s15, s16, s17, s18, s19, s20, s21, s22, s23⟩; go_simp; with_reducible rfl) ?_
      refine pv_ 35 10 42 2047 rfl rfl HT_ ?_; refine pv_ 35 11 43 4095 rfl rfl HT_ ?_; refine pv_ 35 12 44 8191 rfl rfl HT_ ?_; refine pv_ 35 13 45 16383 rfl rfl HT_ ?_; refine pv_ 35 14 46 32767 rfl rfl HT_ ?_; refine pv_ 35 15 47 65535 rfl rfl HT_ ?_; refine pv_ 35 17 49 196607 rfl rfl HT_ ?_; refine pv_ 35 18 50 458751 rfl rfl HT_ ?_; refine pv_ 35 19 51 983039 rfl rfl HT_ ?_; refine pv_ 35 20 52 2031615 rfl rfl HT_ ?_
      refine tv_ 35 16 48 2097151 rfl rfl HT_ HW_ hHeld (by rintro w' ⟨s0, s1, s2, s3, s4, s5, s6, s7, s8, s9, s10, s11, s12, s13, s14, s15, s16, s17, s18, s19, s20, s21, s22, s23⟩; go_simp; with_reducible rfl) ?_
      refine tv_ 35 21 53 4194303 rfl rfl HT_ HW_ hHeld (by rintro w' ⟨s0, s1, s2, s3, s4, s5, s6, s7, s8, s9, s10, s11, s12, s13, s14, s15, s16, s17, s18, s19, s20, s21, s22, s23⟩; go_simp; with_reducible rfl) ?_
      refine pv_ 35 22 54 8388607 rfl rfl HT_ ?_; refine pv_ 35 23 55 16777215 rfl rfl HT_ ?_; refine pu_ 35 24 56 33554431 rfl rfl HT_ ?_; refine pu_ 35 25 57 67108863 rfl rfl HT_ ?_; refine pu_ 35 26 58 134217727 rfl rfl HT_ ?_; refine pu_ 35 27 59 268435455 rfl rfl HT_ ?_; refine pu_ 35 28 60 536870911 rfl rfl HT_ ?_; refine pu_ 35 29 61 1073741823 rfl rfl HT_ ?_; refine pu_ 35 30 62 2147483647 rfl rfl HT_ ?_; refine pu_ 35 31 63 4294967295 rfl rfl HT_ ?_; refine pu_ 35 32 64 8589934591 rfl rfl HT_ ?_; refine pv_ 35 33 65 17179869183 rfl rfl HT_ ?_; refine pv_ 35 34 66 34359738367 rfl rfl HT_ ?_
      refine done_ (done_of HT_.out (by kernel_rfl)) ?_
      have hcz35_0 : w34.cell? ⟨gb197, 0, none⟩ = some (.int .i64 0) := (blk_cell BK197.out 0).trans rfl
      have hcz35_1 : w34.cell? ⟨gb197, 1, none⟩ = some (.int .i64 0) := (blk_cell BK197.out 1).trans rfl
      have hfz35_0 := blk_frozen BK197.out 0
      have hfz35_1 := blk_frozen BK197.out 1
      try go_wp2
      refine bodyPost_ret (results_cell_row rfl _ _ gb197 48 #[.int .i64 a1, .int .i64 a2] (0, 0) _ rfl (by (with_reducible repeat (first | refine kN ?_ _ | refine kD ?_ | refine kA ?_ _)); refine blk_put (cs := #[.int .i64 a1, .int .i64 0]) ?_ 1 _ rfl; (with_reducible repeat (first | refine kN ?_ _ | refine kD ?_ | refine kA ?_ _)); refine blk_put (cs := #[.int .i64 0, .int .i64 0]) ?_ 0 _ rfl; (with_reducible repeat (first | refine kN ?_ _ | refine kD ?_ | refine kA ?_ _)); exact BK197.out) Try.underlying48 rfl (by kernel_rfl)) rfl ?_
      exact ⟨by first | rfl | (simp [*, errW_none, errW_some] <;> rfl), by repeat (first | (with_reducible first | exact HB.out | apply bA | apply bN | apply bD | refine below_set ?_ GE197.out) | exact HB.out)⟩
     rw [if_pos c25] at H
     have c25b0 : (((rd_T78 l0 t199).f4) == ((rd_T78 l0 t198).f4)) = true := beq_iff_eq.mpr c25
     have c25b1 : (((rd_T78 l0 t199).f4) != ((rd_T78 l0 t198).f4)) = false := bne_eq_false_iff_eq.mpr c25
     clear c25
     replace H := Option.bind_eq_some_iff.mp H
     obtain ⟨t207, A260, H⟩ := H
     replace H : (if t207 = true then (some (a2, a1)) else (some (a1, a2))) = some (r1, r2) := H
     have A26 := Aside0.mk A260
     clear A260
     by_cases c27 : t207 = true
     rotate_left
     ·
      replace c27 := Bool.eq_false_iff.mpr c27
      subst c27
      have H1 : (some (a1, a2)) = some (r1, r2) := by rw [if_neg (show ¬ (false = true) by decide)] at H; exact H
      clear H
      have H := H1
      clear H1
      simp only [Option.some.injEq, Prod.mk.injEq] at H
      obtain ⟨rfl, rfl⟩ := H
      try go_wp2
      replace BK197 := Aside0.mk (blk_drew BK197.out)
      replace HB := Aside0.mk (below_drew1 HB.out)
      have p201 : 0 ≤ (t199 : Int) := od (by assumption)
      have q201 : t199 < (l0.length : Int) := od (by assumption)
      obtain ⟨ad201, A201_5, c201_5, e201, hx201_0, hx201_1, hx201_2, hx201_3, hx201_4, hx201_5, hl201_5, hi201_5⟩ := at_T78 HR0.out t199 p201 q201
      have hw201_5 := hx201_5
      have hw201_4 := hx201_4
      have hw201_3 := hx201_3
      have hw201_2 := hx201_2
      have hw201_1 := hx201_1
      have hw201_0 := hx201_0
      cases e201
      replace hx201_0 := (HB.out.cell (bl w _ hx201_0)).trans hx201_0
      replace hx201_1 := (HB.out.cell (bl w _ hx201_1)).trans hx201_1
      replace hx201_2 := (HB.out.cell (bl w _ hx201_2)).trans hx201_2
      replace hx201_3 := (HB.out.cell (bl w _ hx201_3)).trans hx201_3
      replace hx201_4 := (HB.out.cell (bl w _ hx201_4)).trans hx201_4
      replace hx201_5 := (HB.out.cell (bl w _ hx201_5)).trans hx201_5
      have HR201_5 := Aside0.mk hi201_5
      have HC201_5 := Aside0.mk hl201_5
      clear hi201_5 hl201_5
      replace p201 := eq_true p201
      replace q201 := eq_true q201
      have p202 : 0 ≤ (t198 : Int) := od (by assumption)
      have q202 : t198 < (l0.length : Int) := od (by assumption)
      obtain ⟨ad202, A202_5, c202_5, e202, hx202_0, hx202_1, hx202_2, hx202_3, hx202_4, hx202_5, hl202_5, hi202_5⟩ := at_T78 HR0.out t198 p202 q202
      have hw202_5 := hx202_5
      have hw202_4 := hx202_4
      have hw202_3 := hx202_3
      have hw202_2 := hx202_2
      have hw202_1 := hx202_1
      have hw202_0 := hx202_0
      obtain rfl : ad201 = ad202 := (by injection e202)
      replace hx202_0 := (HB.out.cell (bl w _ hx202_0)).trans hx202_0
      replace hx202_1 := (HB.out.cell (bl w _ hx202_1)).trans hx202_1
      replace hx202_2 := (HB.out.cell (bl w _ hx202_2)).trans hx202_2
      replace hx202_3 := (HB.out.cell (bl w _ hx202_3)).trans hx202_3
      replace hx202_4 := (HB.out.cell (bl w _ hx202_4)).trans hx202_4
      replace hx202_5 := (HB.out.cell (bl w _ hx202_5)).trans hx202_5
      have HR202_5 := Aside0.mk hi202_5
      have HC202_5 := Aside0.mk hl202_5
      clear hi202_5 hl202_5
      replace p202 := eq_true p202
      replace q202 := eq_true q202
      have p203 : 0 ≤ (t199 : Int) := od (by assumption)
      have q203 : t199 < (l0.length : Int) := od (by assumption)
      obtain ⟨ad203, A203_5, c203_5, e203, hx203_0, hx203_1, hx203_2, hx203_3, hx203_4, hx203_5, hl203_5, hi203_5⟩ := at_T78 HR0.out t199 p203 q203
      have hw203_5 := hx203_5
      have hw203_4 := hx203_4
      have hw203_3 := hx203_3
      have hw203_2 := hx203_2
      have hw203_1 := hx203_1
      have hw203_0 := hx203_0
      obtain rfl : ad201 = ad203 := (by injection e203)
      replace hx203_0 := (HB.out.cell (bl w _ hx203_0)).trans hx203_0
      replace hx203_1 := (HB.out.cell (bl w _ hx203_1)).trans hx203_1
      replace hx203_2 := (HB.out.cell (bl w _ hx203_2)).trans hx203_2
      replace hx203_3 := (HB.out.cell (bl w _ hx203_3)).trans hx203_3
      replace hx203_4 := (HB.out.cell (bl w _ hx203_4)).trans hx203_4
      replace hx203_5 := (HB.out.cell (bl w _ hx203_5)).trans hx203_5
      have HR203_5 := Aside0.mk hi203_5
      have HC203_5 := Aside0.mk hl203_5
      clear hi203_5 hl203_5
      replace p203 := eq_true p203
      replace q203 := eq_true q203
      have ea_ := Option.some.inj (hx201_5.symm.trans hx203_5)
      injection ea_ with ea_ en_ ec_
      subst ea_
      subst ec_
      clear en_
      have p204 : 0 ≤ (t198 : Int) := od (by assumption)
      have q204 : t198 < (l0.length : Int) := od (by assumption)
      obtain ⟨ad204, A204_5, c204_5, e204, hx204_0, hx204_1, hx204_2, hx204_3, hx204_4, hx204_5, hl204_5, hi204_5⟩ := at_T78 HR0.out t198 p204 q204
      have hw204_5 := hx204_5
      have hw204_4 := hx204_4
      have hw204_3 := hx204_3
      have hw204_2 := hx204_2
      have hw204_1 := hx204_1
      have hw204_0 := hx204_0
      obtain rfl : ad201 = ad204 := (by injection e204)
      replace hx204_0 := (HB.out.cell (bl w _ hx204_0)).trans hx204_0
      replace hx204_1 := (HB.out.cell (bl w _ hx204_1)).trans hx204_1
      replace hx204_2 := (HB.out.cell (bl w _ hx204_2)).trans hx204_2
      replace hx204_3 := (HB.out.cell (bl w _ hx204_3)).trans hx204_3
      replace hx204_4 := (HB.out.cell (bl w _ hx204_4)).trans hx204_4
      replace hx204_5 := (HB.out.cell (bl w _ hx204_5)).trans hx204_5
      have HR204_5 := Aside0.mk hi204_5
      have HC204_5 := Aside0.mk hl204_5
      clear hi204_5 hl204_5
      replace p204 := eq_true p204
      replace q204 := eq_true q204
      have ea_ := Option.some.inj (hx202_5.symm.trans hx204_5)
      injection ea_ with ea_ en_ ec_
      subst ea_
      subst ec_
      clear en_
      have p205 : 0 ≤ (t199 : Int) := od (by assumption)
      have q205 : t199 < (l0.length : Int) := od (by assumption)
      obtain ⟨ad205, A205_5, c205_5, e205, hx205_0, hx205_1, hx205_2, hx205_3, hx205_4, hx205_5, hl205_5, hi205_5⟩ := at_T78 HR0.out t199 p205 q205
      have hw205_5 := hx205_5
      have hw205_4 := hx205_4
      have hw205_3 := hx205_3
      have hw205_2 := hx205_2
      have hw205_1 := hx205_1
      have hw205_0 := hx205_0
      obtain rfl : ad201 = ad205 := (by injection e205)
      replace hx205_0 := (HB.out.cell (bl w _ hx205_0)).trans hx205_0
      replace hx205_1 := (HB.out.cell (bl w _ hx205_1)).trans hx205_1
      replace hx205_2 := (HB.out.cell (bl w _ hx205_2)).trans hx205_2
      replace hx205_3 := (HB.out.cell (bl w _ hx205_3)).trans hx205_3
      replace hx205_4 := (HB.out.cell (bl w _ hx205_4)).trans hx205_4
      replace hx205_5 := (HB.out.cell (bl w _ hx205_5)).trans hx205_5
      have HR205_5 := Aside0.mk hi205_5
      have HC205_5 := Aside0.mk hl205_5
      clear hi205_5 hl205_5
      replace p205 := eq_true p205
      replace q205 := eq_true q205
      have ea_ := Option.some.inj (hx201_5.symm.trans hx205_5)
      injection ea_ with ea_ en_ ec_
      subst ea_
      subst ec_
      clear en_
      have p206 : 0 ≤ (t198 : Int) := od (by assumption)
      have q206 : t198 < (l0.length : Int) := od (by assumption)
      obtain ⟨ad206, A206_5, c206_5, e206, hx206_0, hx206_1, hx206_2, hx206_3, hx206_4, hx206_5, hl206_5, hi206_5⟩ := at_T78 HR0.out t198 p206 q206
      have hw206_5 := hx206_5
      have hw206_4 := hx206_4
      have hw206_3 := hx206_3
      have hw206_2 := hx206_2
      have hw206_1 := hx206_1
      have hw206_0 := hx206_0
      obtain rfl : ad201 = ad206 := (by injection e206)
      replace hx206_0 := (HB.out.cell (bl w _ hx206_0)).trans hx206_0
      replace hx206_1 := (HB.out.cell (bl w _ hx206_1)).trans hx206_1
      replace hx206_2 := (HB.out.cell (bl w _ hx206_2)).trans hx206_2
      replace hx206_3 := (HB.out.cell (bl w _ hx206_3)).trans hx206_3
      replace hx206_4 := (HB.out.cell (bl w _ hx206_4)).trans hx206_4
      replace hx206_5 := (HB.out.cell (bl w _ hx206_5)).trans hx206_5
      have HR206_5 := Aside0.mk hi206_5
      have HC206_5 := Aside0.mk hl206_5
      clear hi206_5 hl206_5
      replace p206 := eq_true p206
      replace q206 := eq_true q206
      have ea_ := Option.some.inj (hx202_5.symm.trans hx206_5)
      injection ea_ with ea_ en_ ec_
      subst ea_
      subst ec_
      clear en_
      refine start_ (n := 35) (S := fun w' => w'.cell? (ad201.add ((t199).toNat * 6)) = some (.int .i64 ((rd_T78 l0 t199).f0)) ∧ w'.cell? ⟨(ad201.add ((t199).toNat * 6)).block, (ad201.add ((t199).toNat * 6)).off + 1, none⟩ = some (.int .i64 ((rd_T78 l0 t199).f1)) ∧ w'.cell? ⟨(ad201.add ((t199).toNat * 6)).block, (ad201.add ((t199).toNat * 6)).off + 2, none⟩ = some (.int .i64 ((rd_T78 l0 t199).f2)) ∧ w'.cell? ⟨(ad201.add ((t199).toNat * 6)).block, (ad201.add ((t199).toNat * 6)).off + 3, none⟩ = some (.int .i64 ((rd_T78 l0 t199).f3)) ∧ w'.cell? ⟨(ad201.add ((t199).toNat * 6)).block, (ad201.add ((t199).toNat * 6)).off + 4, none⟩ = some (.int .i64 ((rd_T78 l0 t199).f4)) ∧ w'.cell? ⟨(ad201.add ((t199).toNat * 6)).block, (ad201.add ((t199).toNat * 6)).off + 5, none⟩ = some (.slice A201_5 ((rd_T78 l0 t199).f5).length c201_5) ∧ w'.cell? (ad201.add ((t198).toNat * 6)) = some (.int .i64 ((rd_T78 l0 t198).f0)) ∧ w'.cell? ⟨(ad201.add ((t198).toNat * 6)).block, (ad201.add ((t198).toNat * 6)).off + 1, none⟩ = some (.int .i64 ((rd_T78 l0 t198).f1)) ∧ w'.cell? ⟨(ad201.add ((t198).toNat * 6)).block, (ad201.add ((t198).toNat * 6)).off + 2, none⟩ = some (.int .i64 ((rd_T78 l0 t198).f2)) ∧ w'.cell? ⟨(ad201.add ((t198).toNat * 6)).block, (ad201.add ((t198).toNat * 6)).off + 3, none⟩ = some (.int .i64 ((rd_T78 l0 t198).f3)) ∧ w'.cell? ⟨(ad201.add ((t198).toNat * 6)).block, (ad201.add ((t198).toNat * 6)).off + 4, none⟩ = some (.int .i64 ((rd_T78 l0 t198).f4)) ∧ w'.cell? ⟨(ad201.add ((t198).toNat * 6)).block, (ad201.add ((t198).toNat * 6)).off + 5, none⟩ = some (.slice A202_5 ((rd_T78 l0 t198).f5).length c202_5) ∧ w'.cell? (ad201.add ((t199).toNat * 6)) = some (.int .i64 ((rd_T78 l0 t199).f0)) ∧ w'.cell? ⟨(ad201.add ((t199).toNat * 6)).block, (ad201.add ((t199).toNat * 6)).off + 1, none⟩ = some (.int .i64 ((rd_T78 l0 t199).f1)) ∧ w'.cell? ⟨(ad201.add ((t199).toNat * 6)).block, (ad201.add ((t199).toNat * 6)).off + 2, none⟩ = some (.int .i64 ((rd_T78 l0 t199).f2)) ∧ w'.cell? ⟨(ad201.add ((t199).toNat * 6)).block, (ad201.add ((t199).toNat * 6)).off + 3, none⟩ = some (.int .i64 ((rd_T78 l0 t199).f3)) ∧ w'.cell? ⟨(ad201.add ((t199).toNat * 6)).block, (ad201.add ((t199).toNat * 6)).off + 4, none⟩ = some (.int .i64 ((rd_T78 l0 t199).f4)) ∧ w'.cell? ⟨(ad201.add ((t199).toNat * 6)).block, (ad201.add ((t199).toNat * 6)).off + 5, none⟩ = some (.slice A201_5 ((rd_T78 l0 t199).f5).length c201_5) ∧ w'.cell? (ad201.add ((t198).toNat * 6)) = some (.int .i64 ((rd_T78 l0 t198).f0)) ∧ w'.cell? ⟨(ad201.add ((t198).toNat * 6)).block, (ad201.add ((t198).toNat * 6)).off + 1, none⟩ = some (.int .i64 ((rd_T78 l0 t198).f1)) ∧ w'.cell? ⟨(ad201.add ((t198).toNat * 6)).block, (ad201.add ((t198).toNat * 6)).off + 2, none⟩ = some (.int .i64 ((rd_T78 l0 t198).f2)) ∧ w'.cell? ⟨(ad201.add ((t198).toNat * 6)).block, (ad201.add ((t198).toNat * 6)).off + 3, none⟩ = some (.int .i64 ((rd_T78 l0 t198).f3)) ∧ w'.cell? ⟨(ad201.add ((t198).toNat * 6)).block, (ad201.add ((t198).toNat * 6)).off + 4, none⟩ = some (.int .i64 ((rd_T78 l0 t198).f4)) ∧ w'.cell? ⟨(ad201.add ((t198).toNat * 6)).block, (ad201.add ((t198).toNat * 6)).off + 5, none⟩ = some (.slice A202_5 ((rd_T78 l0 t198).f5).length c202_5) ∧ w'.cell? (ad201.add ((t199).toNat * 6)) = some (.int .i64 ((rd_T78 l0 t199).f0)) ∧ w'.cell? ⟨(ad201.add ((t199).toNat * 6)).block, (ad201.add ((t199).toNat * 6)).off + 1, none⟩ = some (.int .i64 ((rd_T78 l0 t199).f1)) ∧ w'.cell? ⟨(ad201.add ((t199).toNat * 6)).block, (ad201.add ((t199).toNat * 6)).off + 2, none⟩ = some (.int .i64 ((rd_T78 l0 t199).f2)) ∧ w'.cell? ⟨(ad201.add ((t199).toNat * 6)).block, (ad201.add ((t199).toNat * 6)).off + 3, none⟩ = some (.int .i64 ((rd_T78 l0 t199).f3)) ∧ w'.cell? ⟨(ad201.add ((t199).toNat * 6)).block, (ad201.add ((t199).toNat * 6)).off + 4, none⟩ = some (.int .i64 ((rd_T78 l0 t199).f4)) ∧ w'.cell? ⟨(ad201.add ((t199).toNat * 6)).block, (ad201.add ((t199).toNat * 6)).off + 5, none⟩ = some (.slice A201_5 ((rd_T78 l0 t199).f5).length c201_5) ∧ w'.cell? (ad201.add ((t198).toNat * 6)) = some (.int .i64 ((rd_T78 l0 t198).f0)) ∧ w'.cell? ⟨(ad201.add ((t198).toNat * 6)).block, (ad201.add ((t198).toNat * 6)).off + 1, none⟩ = some (.int .i64 ((rd_T78 l0 t198).f1)) ∧ w'.cell? ⟨(ad201.add ((t198).toNat * 6)).block, (ad201.add ((t198).toNat * 6)).off + 2, none⟩ = some (.int .i64 ((rd_T78 l0 t198).f2)) ∧ w'.cell? ⟨(ad201.add ((t198).toNat * 6)).block, (ad201.add ((t198).toNat * 6)).off + 3, none⟩ = some (.int .i64 ((rd_T78 l0 t198).f3)) ∧ w'.cell? ⟨(ad201.add ((t198).toNat * 6)).block, (ad201.add ((t198).toNat * 6)).off + 4, none⟩ = some (.int .i64 ((rd_T78 l0 t198).f4)) ∧ w'.cell? ⟨(ad201.add ((t198).toNat * 6)).block, (ad201.add ((t198).toNat * 6)).off + 5, none⟩ = some (.slice A202_5 ((rd_T78 l0 t198).f5).length c202_5)) (ds := []) (bv 35 0) (by kernel_rfl) rfl rfl ⟨((HB.out.cell (bl w _ hw201_0)).trans hw201_0), ((HB.out.cell (bl w _ hw201_1)).trans hw201_1), ((HB.out.cell (bl w _ hw201_2)).trans hw201_2), ((HB.out.cell (bl w _ hw201_3)).trans hw201_3), ((HB.out.cell (bl w _ hw201_4)).trans hw201_4), ((HB.out.cell (bl w _ hw201_5)).trans hw201_5), ((HB.out.cell (bl w _ hw202_0)).trans hw202_0), ((HB.out.cell (bl w _ hw202_1)).trans hw202_1), ((HB.out.cell (bl w _ hw202_2)).trans hw202_2), ((HB.out.cell (bl w _ hw202_3)).trans hw202_3), ((HB.out.cell (bl w _ hw202_4)).trans hw202_4), ((HB.out.cell (bl w _ hw202_5)).trans hw202_5), ((HB.out.cell (bl w _ hw203_0)).trans hw203_0), ((HB.out.cell (bl w _ hw203_1)).trans hw203_1), ((HB.out.cell (bl w _ hw203_2)).trans hw203_2), ((HB.out.cell (bl w _ hw203_3)).trans hw203_3), ((HB.out.cell (bl w _ hw203_4)).trans hw203_4), ((HB.out.cell (bl w _ hw203_5)).trans hw203_5), ((HB.out.cell (bl w _ hw204_0)).trans hw204_0), ((HB.out.cell (bl w _ hw204_1)).trans hw204_1), ((HB.out.cell (bl w _ hw204_2)).trans hw204_2), ((HB.out.cell (bl w _ hw204_3)).trans hw204_3), ((HB.out.cell (bl w _ hw204_4)).trans hw204_4), ((HB.out.cell (bl w _ hw204_5)).trans hw204_5), ((HB.out.cell (bl w _ hw205_0)).trans hw205_0), ((HB.out.cell (bl w _ hw205_1)).trans hw205_1), ((HB.out.cell (bl w _ hw205_2)).trans hw205_2), ((HB.out.cell (bl w _ hw205_3)).trans hw205_3), ((HB.out.cell (bl w _ hw205_4)).trans hw205_4), ((HB.out.cell (bl w _ hw205_5)).trans hw205_5), ((HB.out.cell (bl w _ hw206_0)).trans hw206_0), ((HB.out.cell (bl w _ hw206_1)).trans hw206_1), ((HB.out.cell (bl w _ hw206_2)).trans hw206_2), ((HB.out.cell (bl w _ hw206_3)).trans hw206_3), ((HB.out.cell (bl w _ hw206_4)).trans hw206_4), ((HB.out.cell (bl w _ hw206_5)).trans hw206_5)⟩ (fun hHeld => ?_); refine with_tabW spec_SideFor.tab5 spec_SideFor.bits5 (fun HT_ HW_ => ?_)
      generalize wc.drew = w31 at BK197 HB HR201_5 HR202_5 HR203_5 HR204_5 HR205_5 HR206_5 hx201_0 hx201_1 hx201_2 hx201_3 hx201_4 hx201_5 hx202_0 hx202_1 hx202_2 hx202_3 hx202_4 hx202_5 hx203_0 hx203_1 hx203_2 hx203_3 hx203_4 hx203_5 hx204_0 hx204_1 hx204_2 hx204_3 hx204_4 hx204_5 hx205_0 hx205_1 hx205_2 hx205_3 hx205_4 hx205_5 hx206_0 hx206_1 hx206_2 hx206_3 hx206_4 hx206_5 hHeld ⊢
      refine pv_ 35 0 32 1 rfl rfl HT_ ?_; refine pv_ 35 1 33 3 rfl rfl HT_ ?_; refine pv_ 35 2 34 7 rfl rfl HT_ ?_; refine pv_ 35 3 35 15 rfl rfl HT_ ?_; refine pv_ 35 5 37 47 rfl rfl HT_ ?_; refine pv_ 35 6 38 111 rfl rfl HT_ ?_; refine pv_ 35 7 39 239 rfl rfl HT_ ?_; refine pv_ 35 8 40 495 rfl rfl HT_ ?_
      refine tv_ 35 4 36 511 rfl rfl HT_ HW_ hHeld (by rintro w' ⟨s0, s1, s2, s3, s4, s5, s6, s7, s8, s9, s10, s11, s12, s13, s14, s15, s16, s17, s18, s19, s20, s21, s22, s23, s24, s25, s26, s27, s28, s29, s30, s31, s32, s33, s34, s35⟩; go_simp; with_reducible rfl) ?_
      refine tv_ 35 9 41 1023 rfl rfl HT_ HW_ hHeld (by rintro w' ⟨s0, s1, s2, s3, s4, s5, s6, s7, s8, s9, s10, s11, s12, s13, s14, s15, s16, s17, s18, s19, s20, s21, s22, s23, s24, s25, s26, s27, s28, s29, s30, s31, s32, s33, s34, s35⟩; go_simp; with_reducible rfl) ?_
      refine pv_ 35 10 42 2047 rfl rfl HT_ ?_; refine pv_ 35 11 43 4095 rfl rfl HT_ ?_; refine pv_ 35 12 44 8191 rfl rfl HT_ ?_; refine pv_ 35 13 45 16383 rfl rfl HT_ ?_; refine pv_ 35 14 46 32767 rfl rfl HT_ ?_; refine pv_ 35 15 47 65535 rfl rfl HT_ ?_; refine pv_ 35 17 49 196607 rfl rfl HT_ ?_; refine pv_ 35 18 50 458751 rfl rfl HT_ ?_; refine pv_ 35 19 51 983039 rfl rfl HT_ ?_; refine pv_ 35 20 52 2031615 rfl rfl HT_ ?_
      refine tv_ 35 16 48 2097151 rfl rfl HT_ HW_ hHeld (by rintro w' ⟨s0, s1, s2, s3, s4, s5, s6, s7, s8, s9, s10, s11, s12, s13, s14, s15, s16, s17, s18, s19, s20, s21, s22, s23, s24, s25, s26, s27, s28, s29, s30, s31, s32, s33, s34, s35⟩; go_simp; with_reducible rfl) ?_
      refine tv_ 35 21 53 4194303 rfl rfl HT_ HW_ hHeld (by rintro w' ⟨s0, s1, s2, s3, s4, s5, s6, s7, s8, s9, s10, s11, s12, s13, s14, s15, s16, s17, s18, s19, s20, s21, s22, s23, s24, s25, s26, s27, s28, s29, s30, s31, s32, s33, s34, s35⟩; go_simp; with_reducible rfl) ?_
      refine pv_ 35 22 54 8388607 rfl rfl HT_ ?_; refine pv_ 35 23 55 16777215 rfl rfl HT_ ?_; refine pv_ 35 24 56 33554431 rfl rfl HT_ ?_; refine pv_ 35 25 57 67108863 rfl rfl HT_ ?_; refine pv_ 35 26 58 134217727 rfl rfl HT_ ?_; refine pv_ 35 28 60 402653183 rfl rfl HT_ ?_; refine pv_ 35 29 61 939524095 rfl rfl HT_ ?_; refine pv_ 35 30 62 2013265919 rfl rfl HT_ ?_
      refine tv_ 35 27 59 2147483647 rfl rfl HT_ HW_ hHeld (by rintro w' ⟨s0, s1, s2, s3, s4, s5, s6, s7, s8, s9, s10, s11, s12, s13, s14, s15, s16, s17, s18, s19, s20, s21, s22, s23, s24, s25, s26, s27, s28, s29, s30, s31, s32, s33, s34, s35⟩; go_simp; with_reducible rfl) ?_
      refine tv_ 35 31 63 4294967295 rfl rfl HT_ HW_ hHeld (by rintro w' ⟨s0, s1, s2, s3, s4, s5, s6, s7, s8, s9, s10, s11, s12, s13, s14, s15, s16, s17, s18, s19, s20, s21, s22, s23, s24, s25, s26, s27, s28, s29, s30, s31, s32, s33, s34, s35⟩; go_simp; with_reducible rfl) ?_
      refine one_ (i := 32) (N := some 64) (bv 35 8589934591) rfl rfl (one_of HT_.out (by kernel_rfl)) (by decide) (fun K hK => ?_)
      refine goes_ Try.func97 (by kernel_rfl) rfl #[.agg #[.int .i64 ((rd_T78 l0 t199).f0), .int .i64 ((rd_T78 l0 t199).f1), .int .i64 ((rd_T78 l0 t199).f2), .int .i64 ((rd_T78 l0 t199).f3), .int .i64 ((rd_T78 l0 t199).f4), .slice A201_5 ((rd_T78 l0 t199).f5).length c201_5], .agg #[.int .i64 ((rd_T78 l0 t198).f0), .int .i64 ((rd_T78 l0 t198).f1), .int .i64 ((rd_T78 l0 t198).f2), .int .i64 ((rd_T78 l0 t198).f3), .int .i64 ((rd_T78 l0 t198).f4), .slice A202_5 ((rd_T78 l0 t198).f5).length c202_5]] (by rfl) rfl rfl (by (try simp only [Y1, Y2, Y3]); first | done | rfl | (simp only [Y4, Y5]; rfl)) ?_
      with_reducible refine (spec_l19Before.calls ((rd_T78 l0 t199).f0) ((rd_T78 l0 t199).f1) ((rd_T78 l0 t199).f2) ((rd_T78 l0 t199).f3) ((rd_T78 l0 t199).f4) _ _ ((rd_T78 l0 t199).f5) ((rd_T78 l0 t198).f0) ((rd_T78 l0 t198).f1) ((rd_T78 l0 t198).f2) ((rd_T78 l0 t198).f3) ((rd_T78 l0 t198).f4) _ _ ((rd_T78 l0 t198).f5) false _ ?side1 ?side2 ?side3 ?side4 A26.out).mono ?_
      (case side1 => repeat (first | exact (Kd.C_below HR205_5.out HB.out) | (with_reducible first | refine cA ?_ _ | refine cN ?_ _ | refine cD ?_)))
      (case side2 => exact HC205_5.out)
      (case side3 => repeat (first | exact (Kd.C_below HR206_5.out HB.out) | (with_reducible first | refine cA ?_ _ | refine cN ?_ _ | refine cD ?_)))
      (case side4 => exact HC206_5.out)
      rintro e w32 ⟨rfl, hb⟩
      refine ⟨_, rfl, ?_⟩
      replace BK197 := Aside0.mk (blk_below (g := gb197) (o := .cells #[.int .i64 0, .int .i64 0] 48 (0, 0)) (by (with_reducible repeat (first | refine kN ?_ _ | refine kD ?_ | refine kA ?_ _)); exact BK197.out) hb)
      replace HB := Aside0.mk (below_step (by repeat (first | (with_reducible first | exact HB.out | apply bA | apply bN | apply bD | refine below_set ?_ GE197.out) | exact HB.out)) hb)
      (try clear hb)
      (try clear hb2)
      (try clear hk)
      (try clear hi)
      refine hK.out _ _ ⟨((HB.out.cell (bl w _ hw201_0)).trans hw201_0), ((HB.out.cell (bl w _ hw201_1)).trans hw201_1), ((HB.out.cell (bl w _ hw201_2)).trans hw201_2), ((HB.out.cell (bl w _ hw201_3)).trans hw201_3), ((HB.out.cell (bl w _ hw201_4)).trans hw201_4), ((HB.out.cell (bl w _ hw201_5)).trans hw201_5), ((HB.out.cell (bl w _ hw202_0)).trans hw202_0), ((HB.out.cell (bl w _ hw202_1)).trans hw202_1), ((HB.out.cell (bl w _ hw202_2)).trans hw202_2), ((HB.out.cell (bl w _ hw202_3)).trans hw202_3), ((HB.out.cell (bl w _ hw202_4)).trans hw202_4), ((HB.out.cell (bl w _ hw202_5)).trans hw202_5), ((HB.out.cell (bl w _ hw203_0)).trans hw203_0), ((HB.out.cell (bl w _ hw203_1)).trans hw203_1), ((HB.out.cell (bl w _ hw203_2)).trans hw203_2), ((HB.out.cell (bl w _ hw203_3)).trans hw203_3), ((HB.out.cell (bl w _ hw203_4)).trans hw203_4), ((HB.out.cell (bl w _ hw203_5)).trans hw203_5), ((HB.out.cell (bl w _ hw204_0)).trans hw204_0), ((HB.out.cell (bl w _ hw204_1)).trans hw204_1), ((HB.out.cell (bl w _ hw204_2)).trans hw204_2), ((HB.out.cell (bl w _ hw204_3)).trans hw204_3), ((HB.out.cell (bl w _ hw204_4)).trans hw204_4), ((HB.out.cell (bl w _ hw204_5)).trans hw204_5), ((HB.out.cell (bl w _ hw205_0)).trans hw205_0), ((HB.out.cell (bl w _ hw205_1)).trans hw205_1), ((HB.out.cell (bl w _ hw205_2)).trans hw205_2), ((HB.out.cell (bl w _ hw205_3)).trans hw205_3), ((HB.out.cell (bl w _ hw205_4)).trans hw205_4), ((HB.out.cell (bl w _ hw205_5)).trans hw205_5), ((HB.out.cell (bl w _ hw206_0)).trans hw206_0), ((HB.out.cell (bl w _ hw206_1)).trans hw206_1), ((HB.out.cell (bl w _ hw206_2)).trans hw206_2), ((HB.out.cell (bl w _ hw206_3)).trans hw206_3), ((HB.out.cell (bl w _ hw206_4)).trans hw206_4), ((HB.out.cell (bl w _ hw206_5)).trans hw206_5)⟩ (fun hHeld => ?_)
      clear hK K
      refine nm_ 64 ?_
      refine pv_ 35 33 65 17179869183 rfl rfl HT_ ?_; refine pv_ 35 34 66 34359738367 rfl rfl HT_ ?_
      refine done_ (done_of HT_.out (by kernel_rfl)) ?_
      have hcz33_0 : w32.cell? ⟨gb197, 0, none⟩ = some (.int .i64 0) := (blk_cell BK197.out 0).trans rfl
      have hcz33_1 : w32.cell? ⟨gb197, 1, none⟩ = some (.int .i64 0) := (blk_cell BK197.out 1).trans rfl
      have hfz33_0 := blk_frozen BK197.out 0
      have hfz33_1 := blk_frozen BK197.out 1
      try go_wp2
      refine bodyPost_ret (results_cell_row rfl _ _ gb197 48 #[.int .i64 a1, .int .i64 a2] (0, 0) _ rfl (by (with_reducible repeat (first | refine kN ?_ _ | refine kD ?_ | refine kA ?_ _)); refine blk_put (cs := #[.int .i64 a1, .int .i64 0]) ?_ 1 _ rfl; (with_reducible repeat (first | refine kN ?_ _ | refine kD ?_ | refine kA ?_ _)); refine blk_put (cs := #[.int .i64 0, .int .i64 0]) ?_ 0 _ rfl; (with_reducible repeat (first | refine kN ?_ _ | refine kD ?_ | refine kA ?_ _)); exact BK197.out) Try.underlying48 rfl (by kernel_rfl)) rfl ?_
      exact ⟨by first | rfl | (simp [*, errW_none, errW_some] <;> rfl), by repeat (first | (with_reducible first | exact HB.out | apply bA | apply bN | apply bD | refine below_set ?_ GE197.out) | exact HB.out)⟩
     subst c27
     have H1 : (some (a2, a1)) = some (r1, r2) := by rw [if_pos rfl] at H; exact H
     clear H
     have H := H1
     clear H1
     simp only [Option.some.injEq, Prod.mk.injEq] at H
     obtain ⟨rfl, rfl⟩ := H
     try go_wp2
     replace BK197 := Aside0.mk (blk_drew BK197.out)
     replace HB := Aside0.mk (below_drew1 HB.out)
     have p201 : 0 ≤ (t199 : Int) := od (by assumption)
     have q201 : t199 < (l0.length : Int) := od (by assumption)
     obtain ⟨ad201, A201_5, c201_5, e201, hx201_0, hx201_1, hx201_2, hx201_3, hx201_4, hx201_5, hl201_5, hi201_5⟩ := at_T78 HR0.out t199 p201 q201
     have hw201_5 := hx201_5
     have hw201_4 := hx201_4
     have hw201_3 := hx201_3
     have hw201_2 := hx201_2
     have hw201_1 := hx201_1
     have hw201_0 := hx201_0
     cases e201
     replace hx201_0 := (HB.out.cell (bl w _ hx201_0)).trans hx201_0
     replace hx201_1 := (HB.out.cell (bl w _ hx201_1)).trans hx201_1
     replace hx201_2 := (HB.out.cell (bl w _ hx201_2)).trans hx201_2
     replace hx201_3 := (HB.out.cell (bl w _ hx201_3)).trans hx201_3
     replace hx201_4 := (HB.out.cell (bl w _ hx201_4)).trans hx201_4
     replace hx201_5 := (HB.out.cell (bl w _ hx201_5)).trans hx201_5
     have HR201_5 := Aside0.mk hi201_5
     have HC201_5 := Aside0.mk hl201_5
     clear hi201_5 hl201_5
     replace p201 := eq_true p201
     replace q201 := eq_true q201
     have p202 : 0 ≤ (t198 : Int) := od (by assumption)
     have q202 : t198 < (l0.length : Int) := od (by assumption)
     obtain ⟨ad202, A202_5, c202_5, e202, hx202_0, hx202_1, hx202_2, hx202_3, hx202_4, hx202_5, hl202_5, hi202_5⟩ := at_T78 HR0.out t198 p202 q202
     have hw202_5 := hx202_5
     have hw202_4 := hx202_4
     have hw202_3 := hx202_3
     have hw202_2 := hx202_2
     have hw202_1 := hx202_1
     have hw202_0 := hx202_0
     obtain rfl : ad201 = ad202 := (by injection e202)
     replace hx202_0 := (HB.out.cell (bl w _ hx202_0)).trans hx202_0
     replace hx202_1 := (HB.out.cell (bl w _ hx202_1)).trans hx202_1
     replace hx202_2 := (HB.out.cell (bl w _ hx202_2)).trans hx202_2
     replace hx202_3 := (HB.out.cell (bl w _ hx202_3)).trans hx202_3
     replace hx202_4 := (HB.out.cell (bl w _ hx202_4)).trans hx202_4
     replace hx202_5 := (HB.out.cell (bl w _ hx202_5)).trans hx202_5
     have HR202_5 := Aside0.mk hi202_5
     have HC202_5 := Aside0.mk hl202_5
     clear hi202_5 hl202_5
     replace p202 := eq_true p202
     replace q202 := eq_true q202
     have p203 : 0 ≤ (t199 : Int) := od (by assumption)
     have q203 : t199 < (l0.length : Int) := od (by assumption)
     obtain ⟨ad203, A203_5, c203_5, e203, hx203_0, hx203_1, hx203_2, hx203_3, hx203_4, hx203_5, hl203_5, hi203_5⟩ := at_T78 HR0.out t199 p203 q203
     have hw203_5 := hx203_5
     have hw203_4 := hx203_4
     have hw203_3 := hx203_3
     have hw203_2 := hx203_2
     have hw203_1 := hx203_1
     have hw203_0 := hx203_0
     obtain rfl : ad201 = ad203 := (by injection e203)
     replace hx203_0 := (HB.out.cell (bl w _ hx203_0)).trans hx203_0
     replace hx203_1 := (HB.out.cell (bl w _ hx203_1)).trans hx203_1
     replace hx203_2 := (HB.out.cell (bl w _ hx203_2)).trans hx203_2
     replace hx203_3 := (HB.out.cell (bl w _ hx203_3)).trans hx203_3
     replace hx203_4 := (HB.out.cell (bl w _ hx203_4)).trans hx203_4
     replace hx203_5 := (HB.out.cell (bl w _ hx203_5)).trans hx203_5
     have HR203_5 := Aside0.mk hi203_5
     have HC203_5 := Aside0.mk hl203_5
     clear hi203_5 hl203_5
     replace p203 := eq_true p203
     replace q203 := eq_true q203
     have ea_ := Option.some.inj (hx201_5.symm.trans hx203_5)
     injection ea_ with ea_ en_ ec_
     subst ea_
     subst ec_
     clear en_
     have p204 : 0 ≤ (t198 : Int) := od (by assumption)
     have q204 : t198 < (l0.length : Int) := od (by assumption)
     obtain ⟨ad204, A204_5, c204_5, e204, hx204_0, hx204_1, hx204_2, hx204_3, hx204_4, hx204_5, hl204_5, hi204_5⟩ := at_T78 HR0.out t198 p204 q204
     have hw204_5 := hx204_5
     have hw204_4 := hx204_4
     have hw204_3 := hx204_3
     have hw204_2 := hx204_2
     have hw204_1 := hx204_1
     have hw204_0 := hx204_0
     obtain rfl : ad201 = ad204 := (by injection e204)
     replace hx204_0 := (HB.out.cell (bl w _ hx204_0)).trans hx204_0
     replace hx204_1 := (HB.out.cell (bl w _ hx204_1)).trans hx204_1
     replace hx204_2 := (HB.out.cell (bl w _ hx204_2)).trans hx204_2
     replace hx204_3 := (HB.out.cell (bl w _ hx204_3)).trans hx204_3
     replace hx204_4 := (HB.out.cell (bl w _ hx204_4)).trans hx204_4
     replace hx204_5 := (HB.out.cell (bl w _ hx204_5)).trans hx204_5
     have HR204_5 := Aside0.mk hi204_5
     have HC204_5 := Aside0.mk hl204_5
     clear hi204_5 hl204_5
     replace p204 := eq_true p204
     replace q204 := eq_true q204
     have ea_ := Option.some.inj (hx202_5.symm.trans hx204_5)
     injection ea_ with ea_ en_ ec_
     subst ea_
     subst ec_
     clear en_
     have p205 : 0 ≤ (t199 : Int) := od (by assumption)
     have q205 : t199 < (l0.length : Int) := od (by assumption)
     obtain ⟨ad205, A205_5, c205_5, e205, hx205_0, hx205_1, hx205_2, hx205_3, hx205_4, hx205_5, hl205_5, hi205_5⟩ := at_T78 HR0.out t199 p205 q205
     have hw205_5 := hx205_5
     have hw205_4 := hx205_4
     have hw205_3 := hx205_3
     have hw205_2 := hx205_2
     have hw205_1 := hx205_1
     have hw205_0 := hx205_0
     obtain rfl : ad201 = ad205 := (by injection e205)
     replace hx205_0 := (HB.out.cell (bl w _ hx205_0)).trans hx205_0
     replace hx205_1 := (HB.out.cell (bl w _ hx205_1)).trans hx205_1
     replace hx205_2 := (HB.out.cell (bl w _ hx205_2)).trans hx205_2
     replace hx205_3 := (HB.out.cell (bl w _ hx205_3)).trans hx205_3
     replace hx205_4 := (HB.out.cell (bl w _ hx205_4)).trans hx205_4
     replace hx205_5 := (HB.out.cell (bl w _ hx205_5)).trans hx205_5
     have HR205_5 := Aside0.mk hi205_5
     have HC205_5 := Aside0.mk hl205_5
     clear hi205_5 hl205_5
     replace p205 := eq_true p205
     replace q205 := eq_true q205
     have ea_ := Option.some.inj (hx201_5.symm.trans hx205_5)
     injection ea_ with ea_ en_ ec_
     subst ea_
     subst ec_
     clear en_
     have p206 : 0 ≤ (t198 : Int) := od (by assumption)
     have q206 : t198 < (l0.length : Int) := od (by assumption)
     obtain ⟨ad206, A206_5, c206_5, e206, hx206_0, hx206_1, hx206_2, hx206_3, hx206_4, hx206_5, hl206_5, hi206_5⟩ := at_T78 HR0.out t198 p206 q206
     have hw206_5 := hx206_5
     have hw206_4 := hx206_4
     have hw206_3 := hx206_3
     have hw206_2 := hx206_2
     have hw206_1 := hx206_1
     have hw206_0 := hx206_0
     obtain rfl : ad201 = ad206 := (by injection e206)
     replace hx206_0 := (HB.out.cell (bl w _ hx206_0)).trans hx206_0
     replace hx206_1 := (HB.out.cell (bl w _ hx206_1)).trans hx206_1
     replace hx206_2 := (HB.out.cell (bl w _ hx206_2)).trans hx206_2
     replace hx206_3 := (HB.out.cell (bl w _ hx206_3)).trans hx206_3
     replace hx206_4 := (HB.out.cell (bl w _ hx206_4)).trans hx206_4
     replace hx206_5 := (HB.out.cell (bl w _ hx206_5)).trans hx206_5
     have HR206_5 := Aside0.mk hi206_5
     have HC206_5 := Aside0.mk hl206_5
     clear hi206_5 hl206_5
     replace p206 := eq_true p206
     replace q206 := eq_true q206
     have ea_ := Option.some.inj (hx202_5.symm.trans hx206_5)
     injection ea_ with ea_ en_ ec_
     subst ea_
     subst ec_
     clear en_
     refine start_ (n := 35) (S := fun w' => w'.cell? (ad201.add ((t199).toNat * 6)) = some (.int .i64 ((rd_T78 l0 t199).f0)) ∧ w'.cell? ⟨(ad201.add ((t199).toNat * 6)).block, (ad201.add ((t199).toNat * 6)).off + 1, none⟩ = some (.int .i64 ((rd_T78 l0 t199).f1)) ∧ w'.cell? ⟨(ad201.add ((t199).toNat * 6)).block, (ad201.add ((t199).toNat * 6)).off + 2, none⟩ = some (.int .i64 ((rd_T78 l0 t199).f2)) ∧ w'.cell? ⟨(ad201.add ((t199).toNat * 6)).block, (ad201.add ((t199).toNat * 6)).off + 3, none⟩ = some (.int .i64 ((rd_T78 l0 t199).f3)) ∧ w'.cell? ⟨(ad201.add ((t199).toNat * 6)).block, (ad201.add ((t199).toNat * 6)).off + 4, none⟩ = some (.int .i64 ((rd_T78 l0 t199).f4)) ∧ w'.cell? ⟨(ad201.add ((t199).toNat * 6)).block, (ad201.add ((t199).toNat * 6)).off + 5, none⟩ = some (.slice A201_5 ((rd_T78 l0 t199).f5).length c201_5) ∧ w'.cell? (ad201.add ((t198).toNat * 6)) = some (.int .i64 ((rd_T78 l0 t198).f0)) ∧ w'.cell? ⟨(ad201.add ((t198).toNat * 6)).block, (ad201.add ((t198).toNat * 6)).off + 1, none⟩ = some (.int .i64 ((rd_T78 l0 t198).f1)) ∧ w'.cell? ⟨(ad201.add ((t198).toNat * 6)).block, (ad201.add ((t198).toNat * 6)).off + 2, none⟩ = some (.int .i64 ((rd_T78 l0 t198).f2)) ∧ w'.cell? ⟨(ad201.add ((t198).toNat * 6)).block, (ad201.add ((t198).toNat * 6)).off + 3, none⟩ = some (.int .i64 ((rd_T78 l0 t198).f3)) ∧ w'.cell? ⟨(ad201.add ((t198).toNat * 6)).block, (ad201.add ((t198).toNat * 6)).off + 4, none⟩ = some (.int .i64 ((rd_T78 l0 t198).f4)) ∧ w'.cell? ⟨(ad201.add ((t198).toNat * 6)).block, (ad201.add ((t198).toNat * 6)).off + 5, none⟩ = some (.slice A202_5 ((rd_T78 l0 t198).f5).length c202_5) ∧ w'.cell? (ad201.add ((t199).toNat * 6)) = some (.int .i64 ((rd_T78 l0 t199).f0)) ∧ w'.cell? ⟨(ad201.add ((t199).toNat * 6)).block, (ad201.add ((t199).toNat * 6)).off + 1, none⟩ = some (.int .i64 ((rd_T78 l0 t199).f1)) ∧ w'.cell? ⟨(ad201.add ((t199).toNat * 6)).block, (ad201.add ((t199).toNat * 6)).off + 2, none⟩ = some (.int .i64 ((rd_T78 l0 t199).f2)) ∧ w'.cell? ⟨(ad201.add ((t199).toNat * 6)).block, (ad201.add ((t199).toNat * 6)).off + 3, none⟩ = some (.int .i64 ((rd_T78 l0 t199).f3)) ∧ w'.cell? ⟨(ad201.add ((t199).toNat * 6)).block, (ad201.add ((t199).toNat * 6)).off + 4, none⟩ = some (.int .i64 ((rd_T78 l0 t199).f4)) ∧ w'.cell? ⟨(ad201.add ((t199).toNat * 6)).block, (ad201.add ((t199).toNat * 6)).off + 5, none⟩ = some (.slice A201_5 ((rd_T78 l0 t199).f5).length c201_5) ∧ w'.cell? (ad201.add ((t198).toNat * 6)) = some (.int .i64 ((rd_T78 l0 t198).f0)) ∧ w'.cell? ⟨(ad201.add ((t198).toNat * 6)).block, (ad201.add ((t198).toNat * 6)).off + 1, none⟩ = some (.int .i64 ((rd_T78 l0 t198).f1)) ∧ w'.cell? ⟨(ad201.add ((t198).toNat * 6)).block, (ad201.add ((t198).toNat * 6)).off + 2, none⟩ = some (.int .i64 ((rd_T78 l0 t198).f2)) ∧ w'.cell? ⟨(ad201.add ((t198).toNat * 6)).block, (ad201.add ((t198).toNat * 6)).off + 3, none⟩ = some (.int .i64 ((rd_T78 l0 t198).f3)) ∧ w'.cell? ⟨(ad201.add ((t198).toNat * 6)).block, (ad201.add ((t198).toNat * 6)).off + 4, none⟩ = some (.int .i64 ((rd_T78 l0 t198).f4)) ∧ w'.cell? ⟨(ad201.add ((t198).toNat * 6)).block, (ad201.add ((t198).toNat * 6)).off + 5, none⟩ = some (.slice A202_5 ((rd_T78 l0 t198).f5).length c202_5) ∧ w'.cell? (ad201.add ((t199).toNat * 6)) = some (.int .i64 ((rd_T78 l0 t199).f0)) ∧ w'.cell? ⟨(ad201.add ((t199).toNat * 6)).block, (ad201.add ((t199).toNat * 6)).off + 1, none⟩ = some (.int .i64 ((rd_T78 l0 t199).f1)) ∧ w'.cell? ⟨(ad201.add ((t199).toNat * 6)).block, (ad201.add ((t199).toNat * 6)).off + 2, none⟩ = some (.int .i64 ((rd_T78 l0 t199).f2)) ∧ w'.cell? ⟨(ad201.add ((t199).toNat * 6)).block, (ad201.add ((t199).toNat * 6)).off + 3, none⟩ = some (.int .i64 ((rd_T78 l0 t199).f3)) ∧ w'.cell? ⟨(ad201.add ((t199).toNat * 6)).block, (ad201.add ((t199).toNat * 6)).off + 4, none⟩ = some (.int .i64 ((rd_T78 l0 t199).f4)) ∧ w'.cell? ⟨(ad201.add ((t199).toNat * 6)).block, (ad201.add ((t199).toNat * 6)).off + 5, none⟩ = some (.slice A201_5 ((rd_T78 l0 t199).f5).length c201_5) ∧ w'.cell? (ad201.add ((t198).toNat * 6)) = some (.int .i64 ((rd_T78 l0 t198).f0)) ∧ w'.cell? ⟨(ad201.add ((t198).toNat * 6)).block, (ad201.add ((t198).toNat * 6)).off + 1, none⟩ = some (.int .i64 ((rd_T78 l0 t198).f1)) ∧ w'.cell? ⟨(ad201.add ((t198).toNat * 6)).block, (ad201.add ((t198).toNat * 6)).off + 2, none⟩ = some (.int .i64 ((rd_T78 l0 t198).f2)) ∧ w'.cell? ⟨(ad201.add ((t198).toNat * 6)).block, (ad201.add ((t198).toNat * 6)).off + 3, none⟩ = some (.int .i64 ((rd_T78 l0 t198).f3)) ∧ w'.cell? ⟨(ad201.add ((t198).toNat * 6)).block, (ad201.add ((t198).toNat * 6)).off + 4, none⟩ = some (.int .i64 ((rd_T78 l0 t198).f4)) ∧ w'.cell? ⟨(ad201.add ((t198).toNat * 6)).block, (ad201.add ((t198).toNat * 6)).off + 5, none⟩ = some (.slice A202_5 ((rd_T78 l0 t198).f5).length c202_5)) (ds := []) (bv 35 0) (by kernel_rfl) rfl rfl ⟨((HB.out.cell (bl w _ hw201_0)).trans hw201_0), ((HB.out.cell (bl w _ hw201_1)).trans hw201_1), ((HB.out.cell (bl w _ hw201_2)).trans hw201_2), ((HB.out.cell (bl w _ hw201_3)).trans hw201_3), ((HB.out.cell (bl w _ hw201_4)).trans hw201_4), ((HB.out.cell (bl w _ hw201_5)).trans hw201_5), ((HB.out.cell (bl w _ hw202_0)).trans hw202_0), ((HB.out.cell (bl w _ hw202_1)).trans hw202_1), ((HB.out.cell (bl w _ hw202_2)).trans hw202_2), ((HB.out.cell (bl w _ hw202_3)).trans hw202_3), ((HB.out.cell (bl w _ hw202_4)).trans hw202_4), ((HB.out.cell (bl w _ hw202_5)).trans hw202_5), ((HB.out.cell (bl w _ hw203_0)).trans hw203_0), ((HB.out.cell (bl w _ hw203_1)).trans hw203_1), ((HB.out.cell (bl w _ hw203_2)).trans hw203_2), ((HB.out.cell (bl w _ hw203_3)).trans hw203_3), ((HB.out.cell (bl w _ hw203_4)).trans hw203_4), ((HB.out.cell (bl w _ hw203_5)).trans hw203_5), ((HB.out.cell (bl w _ hw204_0)).trans hw204_0), ((HB.out.cell (bl w _ hw204_1)).trans hw204_1), ((HB.out.cell (bl w _ hw204_2)).trans hw204_2), ((HB.out.cell (bl w _ hw204_3)).trans hw204_3), ((HB.out.cell (bl w _ hw204_4)).trans hw204_4), ((HB.out.cell (bl w _ hw204_5)).trans hw204_5), ((HB.out.cell (bl w _ hw205_0)).trans hw205_0), ((HB.out.cell (bl w _ hw205_1)).trans hw205_1), ((HB.out.cell (bl w _ hw205_2)).trans hw205_2), ((HB.out.cell (bl w _ hw205_3)).trans hw205_3), ((HB.out.cell (bl w _ hw205_4)).trans hw205_4), ((HB.out.cell (bl w _ hw205_5)).trans hw205_5), ((HB.out.cell (bl w _ hw206_0)).trans hw206_0), ((HB.out.cell (bl w _ hw206_1)).trans hw206_1), ((HB.out.cell (bl w _ hw206_2)).trans hw206_2), ((HB.out.cell (bl w _ hw206_3)).trans hw206_3), ((HB.out.cell (bl w _ hw206_4)).trans hw206_4), ((HB.out.cell (bl w _ hw206_5)).trans hw206_5)⟩ (fun hHeld => ?_); refine with_tabW spec_SideFor.tab5 spec_SideFor.bits5 (fun HT_ HW_ => ?_)
     generalize wc.drew = w28 at BK197 HB HR201_5 HR202_5 HR203_5 HR204_5 HR205_5 HR206_5 hx201_0 hx201_1 hx201_2 hx201_3 hx201_4 hx201_5 hx202_0 hx202_1 hx202_2 hx202_3 hx202_4 hx202_5 hx203_0 hx203_1 hx203_2 hx203_3 hx203_4 hx203_5 hx204_0 hx204_1 hx204_2 hx204_3 hx204_4 hx204_5 hx205_0 hx205_1 hx205_2 hx205_3 hx205_4 hx205_5 hx206_0 hx206_1 hx206_2 hx206_3 hx206_4 hx206_5 hHeld ⊢
     refine pv_ 35 0 32 1 rfl rfl HT_ ?_; refine pv_ 35 1 33 3 rfl rfl HT_ ?_; refine pv_ 35 2 34 7 rfl rfl HT_ ?_; refine pv_ 35 3 35 15 rfl rfl HT_ ?_; refine pv_ 35 5 37 47 rfl rfl HT_ ?_; refine pv_ 35 6 38 111 rfl rfl HT_ ?_; refine pv_ 35 7 39 239 rfl rfl HT_ ?_; refine pv_ 35 8 40 495 rfl rfl HT_ ?_
     refine tv_ 35 4 36 511 rfl rfl HT_ HW_ hHeld (by rintro w' ⟨s0, s1, s2, s3, s4, s5, s6, s7, s8, s9, s10, s11, s12, s13, s14, s15, s16, s17, s18, s19, s20, s21, s22, s23, s24, s25, s26, s27, s28, s29, s30, s31, s32, s33, s34, s35⟩; go_simp; with_reducible rfl) ?_
     refine tv_ 35 9 41 1023 rfl rfl HT_ HW_ hHeld (by rintro w' ⟨s0, s1, s2, s3, s4, s5, s6, s7, s8, s9, s10, s11, s12, s13, s14, s15, s16, s17, s18, s19, s20, s21, s22, s23, s24, s25, s26, s27, s28, s29, s30, s31, s32, s33, s34, s35⟩; go_simp; with_reducible rfl) ?_
     refine pv_ 35 10 42 2047 rfl rfl HT_ ?_; refine pv_ 35 11 43 4095 rfl rfl HT_ ?_; refine pv_ 35 12 44 8191 rfl rfl HT_ ?_; refine pv_ 35 13 45 16383 rfl rfl HT_ ?_; refine pv_ 35 14 46 32767 rfl rfl HT_ ?_; refine pv_ 35 15 47 65535 rfl rfl HT_ ?_; refine pv_ 35 17 49 196607 rfl rfl HT_ ?_; refine pv_ 35 18 50 458751 rfl rfl HT_ ?_; refine pv_ 35 19 51 983039 rfl rfl HT_ ?_; refine pv_ 35 20 52 2031615 rfl rfl HT_ ?_
     refine tv_ 35 16 48 2097151 rfl rfl HT_ HW_ hHeld (by rintro w' ⟨s0, s1, s2, s3, s4, s5, s6, s7, s8, s9, s10, s11, s12, s13, s14, s15, s16, s17, s18, s19, s20, s21, s22, s23, s24, s25, s26, s27, s28, s29, s30, s31, s32, s33, s34, s35⟩; go_simp; with_reducible rfl) ?_
     refine tv_ 35 21 53 4194303 rfl rfl HT_ HW_ hHeld (by rintro w' ⟨s0, s1, s2, s3, s4, s5, s6, s7, s8, s9, s10, s11, s12, s13, s14, s15, s16, s17, s18, s19, s20, s21, s22, s23, s24, s25, s26, s27, s28, s29, s30, s31, s32, s33, s34, s35⟩; go_simp; with_reducible rfl) ?_
     refine pv_ 35 22 54 8388607 rfl rfl HT_ ?_; refine pv_ 35 23 55 16777215 rfl rfl HT_ ?_; refine pv_ 35 24 56 33554431 rfl rfl HT_ ?_; refine pv_ 35 25 57 67108863 rfl rfl HT_ ?_; refine pv_ 35 26 58 134217727 rfl rfl HT_ ?_; refine pv_ 35 28 60 402653183 rfl rfl HT_ ?_; refine pv_ 35 29 61 939524095 rfl rfl HT_ ?_; refine pv_ 35 30 62 2013265919 rfl rfl HT_ ?_
     refine tv_ 35 27 59 2147483647 rfl rfl HT_ HW_ hHeld (by rintro w' ⟨s0, s1, s2, s3, s4, s5, s6, s7, s8, s9, s10, s11, s12, s13, s14, s15, s16, s17, s18, s19, s20, s21, s22, s23, s24, s25, s26, s27, s28, s29, s30, s31, s32, s33, s34, s35⟩; go_simp; with_reducible rfl) ?_
     refine tv_ 35 31 63 4294967295 rfl rfl HT_ HW_ hHeld (by rintro w' ⟨s0, s1, s2, s3, s4, s5, s6, s7, s8, s9, s10, s11, s12, s13, s14, s15, s16, s17, s18, s19, s20, s21, s22, s23, s24, s25, s26, s27, s28, s29, s30, s31, s32, s33, s34, s35⟩; go_simp; with_reducible rfl) ?_
     refine one_ (i := 32) (N := some 64) (bv 35 8589934591) rfl rfl (one_of HT_.out (by kernel_rfl)) (by decide) (fun K hK => ?_)
     refine goes_ Try.func97 (by kernel_rfl) rfl #[.agg #[.int .i64 ((rd_T78 l0 t199).f0), .int .i64 ((rd_T78 l0 t199).f1), .int .i64 ((rd_T78 l0 t199).f2), .int .i64 ((rd_T78 l0 t199).f3), .int .i64 ((rd_T78 l0 t199).f4), .slice A201_5 ((rd_T78 l0 t199).f5).length c201_5], .agg #[.int .i64 ((rd_T78 l0 t198).f0), .int .i64 ((rd_T78 l0 t198).f1), .int .i64 ((rd_T78 l0 t198).f2), .int .i64 ((rd_T78 l0 t198).f3), .int .i64 ((rd_T78 l0 t198).f4), .slice A202_5 ((rd_T78 l0 t198).f5).length c202_5]] (by rfl) rfl rfl (by (try simp only [Y1, Y2, Y3]); first | done | rfl | (simp only [Y4, Y5]; rfl)) ?_
     with_reducible refine (spec_l19Before.calls ((rd_T78 l0 t199).f0) ((rd_T78 l0 t199).f1) ((rd_T78 l0 t199).f2) ((rd_T78 l0 t199).f3) ((rd_T78 l0 t199).f4) _ _ ((rd_T78 l0 t199).f5) ((rd_T78 l0 t198).f0) ((rd_T78 l0 t198).f1) ((rd_T78 l0 t198).f2) ((rd_T78 l0 t198).f3) ((rd_T78 l0 t198).f4) _ _ ((rd_T78 l0 t198).f5) true _ ?side1 ?side2 ?side3 ?side4 A26.out).mono ?_
     (case side1 => repeat (first | exact (Kd.C_below HR205_5.out HB.out) | (with_reducible first | refine cA ?_ _ | refine cN ?_ _ | refine cD ?_)))
     (case side2 => exact HC205_5.out)
     (case side3 => repeat (first | exact (Kd.C_below HR206_5.out HB.out) | (with_reducible first | refine cA ?_ _ | refine cN ?_ _ | refine cD ?_)))
     (case side4 => exact HC206_5.out)
     rintro e w29 ⟨rfl, hb⟩
     refine ⟨_, rfl, ?_⟩
     replace BK197 := Aside0.mk (blk_below (g := gb197) (o := .cells #[.int .i64 0, .int .i64 0] 48 (0, 0)) (by (with_reducible repeat (first | refine kN ?_ _ | refine kD ?_ | refine kA ?_ _)); exact BK197.out) hb)
     replace HB := Aside0.mk (below_step (by repeat (first | (with_reducible first | exact HB.out | apply bA | apply bN | apply bD | refine below_set ?_ GE197.out) | exact HB.out)) hb)
     (try clear hb)
     (try clear hb2)
     (try clear hk)
     (try clear hi)
     refine hK.out _ _ ⟨((HB.out.cell (bl w _ hw201_0)).trans hw201_0), ((HB.out.cell (bl w _ hw201_1)).trans hw201_1), ((HB.out.cell (bl w _ hw201_2)).trans hw201_2), ((HB.out.cell (bl w _ hw201_3)).trans hw201_3), ((HB.out.cell (bl w _ hw201_4)).trans hw201_4), ((HB.out.cell (bl w _ hw201_5)).trans hw201_5), ((HB.out.cell (bl w _ hw202_0)).trans hw202_0), ((HB.out.cell (bl w _ hw202_1)).trans hw202_1), ((HB.out.cell (bl w _ hw202_2)).trans hw202_2), ((HB.out.cell (bl w _ hw202_3)).trans hw202_3), ((HB.out.cell (bl w _ hw202_4)).trans hw202_4), ((HB.out.cell (bl w _ hw202_5)).trans hw202_5), ((HB.out.cell (bl w _ hw203_0)).trans hw203_0), ((HB.out.cell (bl w _ hw203_1)).trans hw203_1), ((HB.out.cell (bl w _ hw203_2)).trans hw203_2), ((HB.out.cell (bl w _ hw203_3)).trans hw203_3), ((HB.out.cell (bl w _ hw203_4)).trans hw203_4), ((HB.out.cell (bl w _ hw203_5)).trans hw203_5), ((HB.out.cell (bl w _ hw204_0)).trans hw204_0), ((HB.out.cell (bl w _ hw204_1)).trans hw204_1), ((HB.out.cell (bl w _ hw204_2)).trans hw204_2), ((HB.out.cell (bl w _ hw204_3)).trans hw204_3), ((HB.out.cell (bl w _ hw204_4)).trans hw204_4), ((HB.out.cell (bl w _ hw204_5)).trans hw204_5), ((HB.out.cell (bl w _ hw205_0)).trans hw205_0), ((HB.out.cell (bl w _ hw205_1)).trans hw205_1), ((HB.out.cell (bl w _ hw205_2)).trans hw205_2), ((HB.out.cell (bl w _ hw205_3)).trans hw205_3), ((HB.out.cell (bl w _ hw205_4)).trans hw205_4), ((HB.out.cell (bl w _ hw205_5)).trans hw205_5), ((HB.out.cell (bl w _ hw206_0)).trans hw206_0), ((HB.out.cell (bl w _ hw206_1)).trans hw206_1), ((HB.out.cell (bl w _ hw206_2)).trans hw206_2), ((HB.out.cell (bl w _ hw206_3)).trans hw206_3), ((HB.out.cell (bl w _ hw206_4)).trans hw206_4), ((HB.out.cell (bl w _ hw206_5)).trans hw206_5)⟩ (fun hHeld => ?_)
     clear hK K
     refine nm_ 64 ?_
     refine pv_ 35 33 65 17179869183 rfl rfl HT_ ?_; refine pv_ 35 34 66 34359738367 rfl rfl HT_ ?_
     refine done_ (done_of HT_.out (by kernel_rfl)) ?_
     have hcz30_0 : w29.cell? ⟨gb197, 0, none⟩ = some (.int .i64 0) := (blk_cell BK197.out 0).trans rfl
     have hcz30_1 : w29.cell? ⟨gb197, 1, none⟩ = some (.int .i64 0) := (blk_cell BK197.out 1).trans rfl
     have hfz30_0 := blk_frozen BK197.out 0
     have hfz30_1 := blk_frozen BK197.out 1
     try go_wp2
     refine bodyPost_ret (results_cell_row rfl _ _ gb197 48 #[.int .i64 a2, .int .i64 a1] (0, 0) _ rfl (by (with_reducible repeat (first | refine kN ?_ _ | refine kD ?_ | refine kA ?_ _)); refine blk_put (cs := #[.int .i64 a2, .int .i64 0]) ?_ 1 _ rfl; (with_reducible repeat (first | refine kN ?_ _ | refine kD ?_ | refine kA ?_ _)); refine blk_put (cs := #[.int .i64 0, .int .i64 0]) ?_ 0 _ rfl; (with_reducible repeat (first | refine kN ?_ _ | refine kD ?_ | refine kA ?_ _)); exact BK197.out) Try.underlying48 rfl (by kernel_rfl)) rfl ?_
     exact ⟨by first | rfl | (simp [*, errW_none, errW_some] <;> rfl), by repeat (first | (with_reducible first | exact HB.out | apply bA | apply bN | apply bD | refine below_set ?_ GE197.out) | exact HB.out)⟩
    rw [if_pos c22] at H
    have c22b0 : decide (((rd_T78 l0 t199).f4) < ((rd_T78 l0 t198).f4)) = true := decide_eq_true c22
    clear c22
    simp only [Option.some.injEq, Prod.mk.injEq] at H
    obtain ⟨rfl, rfl⟩ := H
    try go_wp2
    replace BK197 := Aside0.mk (blk_drew BK197.out)
    replace HB := Aside0.mk (below_drew1 HB.out)
    have p201 : 0 ≤ (t199 : Int) := od (by assumption)
    have q201 : t199 < (l0.length : Int) := od (by assumption)
    obtain ⟨ad201, A201_5, c201_5, e201, hx201_0, hx201_1, hx201_2, hx201_3, hx201_4, hx201_5, hl201_5, hi201_5⟩ := at_T78 HR0.out t199 p201 q201
    have hw201_5 := hx201_5
    have hw201_4 := hx201_4
    have hw201_3 := hx201_3
    have hw201_2 := hx201_2
    have hw201_1 := hx201_1
    have hw201_0 := hx201_0
    cases e201
    replace hx201_0 := (HB.out.cell (bl w _ hx201_0)).trans hx201_0
    replace hx201_1 := (HB.out.cell (bl w _ hx201_1)).trans hx201_1
    replace hx201_2 := (HB.out.cell (bl w _ hx201_2)).trans hx201_2
    replace hx201_3 := (HB.out.cell (bl w _ hx201_3)).trans hx201_3
    replace hx201_4 := (HB.out.cell (bl w _ hx201_4)).trans hx201_4
    replace hx201_5 := (HB.out.cell (bl w _ hx201_5)).trans hx201_5
    have HR201_5 := Aside0.mk hi201_5
    have HC201_5 := Aside0.mk hl201_5
    clear hi201_5 hl201_5
    replace p201 := eq_true p201
    replace q201 := eq_true q201
    have p202 : 0 ≤ (t198 : Int) := od (by assumption)
    have q202 : t198 < (l0.length : Int) := od (by assumption)
    obtain ⟨ad202, A202_5, c202_5, e202, hx202_0, hx202_1, hx202_2, hx202_3, hx202_4, hx202_5, hl202_5, hi202_5⟩ := at_T78 HR0.out t198 p202 q202
    have hw202_5 := hx202_5
    have hw202_4 := hx202_4
    have hw202_3 := hx202_3
    have hw202_2 := hx202_2
    have hw202_1 := hx202_1
    have hw202_0 := hx202_0
    obtain rfl : ad201 = ad202 := (by injection e202)
    replace hx202_0 := (HB.out.cell (bl w _ hx202_0)).trans hx202_0
    replace hx202_1 := (HB.out.cell (bl w _ hx202_1)).trans hx202_1
    replace hx202_2 := (HB.out.cell (bl w _ hx202_2)).trans hx202_2
    replace hx202_3 := (HB.out.cell (bl w _ hx202_3)).trans hx202_3
    replace hx202_4 := (HB.out.cell (bl w _ hx202_4)).trans hx202_4
    replace hx202_5 := (HB.out.cell (bl w _ hx202_5)).trans hx202_5
    have HR202_5 := Aside0.mk hi202_5
    have HC202_5 := Aside0.mk hl202_5
    clear hi202_5 hl202_5
    replace p202 := eq_true p202
    replace q202 := eq_true q202
    refine start_ (n := 35) (S := fun w' => w'.cell? (ad201.add ((t199).toNat * 6)) = some (.int .i64 ((rd_T78 l0 t199).f0)) ∧ w'.cell? ⟨(ad201.add ((t199).toNat * 6)).block, (ad201.add ((t199).toNat * 6)).off + 1, none⟩ = some (.int .i64 ((rd_T78 l0 t199).f1)) ∧ w'.cell? ⟨(ad201.add ((t199).toNat * 6)).block, (ad201.add ((t199).toNat * 6)).off + 2, none⟩ = some (.int .i64 ((rd_T78 l0 t199).f2)) ∧ w'.cell? ⟨(ad201.add ((t199).toNat * 6)).block, (ad201.add ((t199).toNat * 6)).off + 3, none⟩ = some (.int .i64 ((rd_T78 l0 t199).f3)) ∧ w'.cell? ⟨(ad201.add ((t199).toNat * 6)).block, (ad201.add ((t199).toNat * 6)).off + 4, none⟩ = some (.int .i64 ((rd_T78 l0 t199).f4)) ∧ w'.cell? ⟨(ad201.add ((t199).toNat * 6)).block, (ad201.add ((t199).toNat * 6)).off + 5, none⟩ = some (.slice A201_5 ((rd_T78 l0 t199).f5).length c201_5) ∧ w'.cell? (ad201.add ((t198).toNat * 6)) = some (.int .i64 ((rd_T78 l0 t198).f0)) ∧ w'.cell? ⟨(ad201.add ((t198).toNat * 6)).block, (ad201.add ((t198).toNat * 6)).off + 1, none⟩ = some (.int .i64 ((rd_T78 l0 t198).f1)) ∧ w'.cell? ⟨(ad201.add ((t198).toNat * 6)).block, (ad201.add ((t198).toNat * 6)).off + 2, none⟩ = some (.int .i64 ((rd_T78 l0 t198).f2)) ∧ w'.cell? ⟨(ad201.add ((t198).toNat * 6)).block, (ad201.add ((t198).toNat * 6)).off + 3, none⟩ = some (.int .i64 ((rd_T78 l0 t198).f3)) ∧ w'.cell? ⟨(ad201.add ((t198).toNat * 6)).block, (ad201.add ((t198).toNat * 6)).off + 4, none⟩ = some (.int .i64 ((rd_T78 l0 t198).f4)) ∧ w'.cell? ⟨(ad201.add ((t198).toNat * 6)).block, (ad201.add ((t198).toNat * 6)).off + 5, none⟩ = some (.slice A202_5 ((rd_T78 l0 t198).f5).length c202_5)) (ds := []) (bv 35 0) (by kernel_rfl) rfl rfl ⟨((HB.out.cell (bl w _ hw201_0)).trans hw201_0), ((HB.out.cell (bl w _ hw201_1)).trans hw201_1), ((HB.out.cell (bl w _ hw201_2)).trans hw201_2), ((HB.out.cell (bl w _ hw201_3)).trans hw201_3), ((HB.out.cell (bl w _ hw201_4)).trans hw201_4), ((HB.out.cell (bl w _ hw201_5)).trans hw201_5), ((HB.out.cell (bl w _ hw202_0)).trans hw202_0), ((HB.out.cell (bl w _ hw202_1)).trans hw202_1), ((HB.out.cell (bl w _ hw202_2)).trans hw202_2), ((HB.out.cell (bl w _ hw202_3)).trans hw202_3), ((HB.out.cell (bl w _ hw202_4)).trans hw202_4), ((HB.out.cell (bl w _ hw202_5)).trans hw202_5)⟩ (fun hHeld => ?_); refine with_tabW spec_SideFor.tab5 spec_SideFor.bits5 (fun HT_ HW_ => ?_)
    generalize wc.drew = w23 at BK197 HB HR201_5 HR202_5 hx201_0 hx201_1 hx201_2 hx201_3 hx201_4 hx201_5 hx202_0 hx202_1 hx202_2 hx202_3 hx202_4 hx202_5 hHeld ⊢
    refine pv_ 35 0 32 1 rfl rfl HT_ ?_; refine pv_ 35 1 33 3 rfl rfl HT_ ?_; refine pv_ 35 2 34 7 rfl rfl HT_ ?_; refine pv_ 35 3 35 15 rfl rfl HT_ ?_; refine pv_ 35 5 37 47 rfl rfl HT_ ?_; refine pv_ 35 6 38 111 rfl rfl HT_ ?_; refine pv_ 35 7 39 239 rfl rfl HT_ ?_; refine pv_ 35 8 40 495 rfl rfl HT_ ?_
    refine tv_ 35 4 36 511 rfl rfl HT_ HW_ hHeld (by rintro w' ⟨s0, s1, s2, s3, s4, s5, s6, s7, s8, s9, s10, s11⟩; go_simp; with_reducible rfl) ?_
    refine tv_ 35 9 41 1023 rfl rfl HT_ HW_ hHeld (by rintro w' ⟨s0, s1, s2, s3, s4, s5, s6, s7, s8, s9, s10, s11⟩; go_simp; with_reducible rfl) ?_
    refine pv_ 35 10 42 2047 rfl rfl HT_ ?_; refine pv_ 35 11 43 4095 rfl rfl HT_ ?_; refine pu_ 35 12 44 8191 rfl rfl HT_ ?_; refine pu_ 35 13 45 16383 rfl rfl HT_ ?_; refine pu_ 35 14 46 32767 rfl rfl HT_ ?_; refine pu_ 35 15 47 65535 rfl rfl HT_ ?_; refine pu_ 35 16 48 131071 rfl rfl HT_ ?_; refine pu_ 35 17 49 262143 rfl rfl HT_ ?_; refine pu_ 35 18 50 524287 rfl rfl HT_ ?_; refine pu_ 35 19 51 1048575 rfl rfl HT_ ?_; refine pu_ 35 20 52 2097151 rfl rfl HT_ ?_; refine pu_ 35 21 53 4194303 rfl rfl HT_ ?_; refine pu_ 35 22 54 8388607 rfl rfl HT_ ?_; refine pu_ 35 23 55 16777215 rfl rfl HT_ ?_; refine pu_ 35 24 56 33554431 rfl rfl HT_ ?_; refine pu_ 35 25 57 67108863 rfl rfl HT_ ?_; refine pu_ 35 26 58 134217727 rfl rfl HT_ ?_; refine pu_ 35 27 59 268435455 rfl rfl HT_ ?_; refine pu_ 35 28 60 536870911 rfl rfl HT_ ?_; refine pu_ 35 29 61 1073741823 rfl rfl HT_ ?_; refine pu_ 35 30 62 2147483647 rfl rfl HT_ ?_
    refine pu_ 35 31 63 4294967295 rfl rfl HT_ ?_; refine pu_ 35 32 64 8589934591 rfl rfl HT_ ?_; refine pu_ 35 33 65 17179869183 rfl rfl HT_ ?_; refine pv_ 35 34 66 34359738367 rfl rfl HT_ ?_
    refine done_ (done_of HT_.out (by kernel_rfl)) ?_
    have hcz24_0 : w23.cell? ⟨gb197, 0, none⟩ = some (.int .i64 0) := (blk_cell BK197.out 0).trans rfl
    have hcz24_1 : w23.cell? ⟨gb197, 1, none⟩ = some (.int .i64 0) := (blk_cell BK197.out 1).trans rfl
    have hfz24_0 := blk_frozen BK197.out 0
    have hfz24_1 := blk_frozen BK197.out 1
    try go_wp2
    refine bodyPost_ret (results_cell_row rfl _ _ gb197 48 #[.int .i64 a2, .int .i64 a1] (0, 0) _ rfl (by (with_reducible repeat (first | refine kN ?_ _ | refine kD ?_ | refine kA ?_ _)); refine blk_put (cs := #[.int .i64 a2, .int .i64 0]) ?_ 1 _ rfl; (with_reducible repeat (first | refine kN ?_ _ | refine kD ?_ | refine kA ?_ _)); refine blk_put (cs := #[.int .i64 0, .int .i64 0]) ?_ 0 _ rfl; (with_reducible repeat (first | refine kN ?_ _ | refine kD ?_ | refine kA ?_ _)); exact BK197.out) Try.underlying48 rfl (by kernel_rfl)) rfl ?_
    exact ⟨by first | rfl | (simp [*, errW_none, errW_some] <;> rfl), by repeat (first | (with_reducible first | exact HB.out | apply bA | apply bN | apply bD | refine below_set ?_ GE197.out) | exact HB.out)⟩
   subst c16
   have H1 : (some (0, 0)) = some (r1, r2) := by rw [if_pos rfl] at H; exact H
   clear H
   have H := H1
   clear H1
   simp only [Option.some.injEq, Prod.mk.injEq] at H
   obtain ⟨rfl, rfl⟩ := H
   have hcz17_0 : wc.cell? ⟨gb197, 0, none⟩ = some (.int .i64 0) := (blk_cell BK197.out 0).trans rfl
   have hcz17_1 : wc.cell? ⟨gb197, 1, none⟩ = some (.int .i64 0) := (blk_cell BK197.out 1).trans rfl
   have hfz17_0 := blk_frozen BK197.out 0
   have hfz17_1 := blk_frozen BK197.out 1
   go_wp2
   refine bodyPost_ret (results_cell_row rfl _ _ gb197 48 #[.int .i64 0, .int .i64 0] (0, 0) _ rfl (by (with_reducible repeat (first | refine kN ?_ _ | refine kD ?_ | refine kA ?_ _)); refine blk_put (cs := #[.int .i64 0, .int .i64 0]) ?_ 1 _ rfl; (with_reducible repeat (first | refine kN ?_ _ | refine kD ?_ | refine kA ?_ _)); refine blk_put (cs := #[.int .i64 0, .int .i64 0]) ?_ 0 _ rfl; (with_reducible repeat (first | refine kN ?_ _ | refine kD ?_ | refine kA ?_ _)); exact BK197.out) Try.underlying48 rfl (by kernel_rfl)) rfl ?_
   exact ⟨by first | rfl | (simp [*, errW_none, errW_some] <;> rfl), by repeat (first | (with_reducible first | exact HB.out | apply bA | apply bN | apply bD | refine below_set ?_ GE197.out) | exact HB.out)⟩
end Go.Proofs.Ytdlebbmmanjffaa.A
end
