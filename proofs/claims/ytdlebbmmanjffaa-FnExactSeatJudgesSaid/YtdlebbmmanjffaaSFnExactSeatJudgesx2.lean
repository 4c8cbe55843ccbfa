/- What the row FnExactSeatJudges rests on, put together: LHAreTs, A5, A15, A27. No condition. -/
import Derived.Test.YtdlebbmmanjffaaSFnExactSeatJudgesx1
import Derived.BigQuiet
import Derived.Test.YtdlebbmmanjffaaSFnExactSeatJudgesx0
section
set_option linter.unusedVariables false
set_option linter.unusedSimpArgs false
namespace Go.Proofs.Ytdlebbmmanjffaa.A
open Go.RowKit Go.Proofs.YtdlebbmmanjffaaW.PrintWords Go.Proofs.YtdlebbmmanjffaaW.PrintLast Go.Proofs.YtdlebbmmanjffaaW.PrintMore Go.Shelf Go.Proofs.Ytdlebbmmanjffaa.L
def spec_AreTeams.f (k : Nat) (l0 : List S78) : Option Bool := if smallT l0 = true then some (areT l0) else none
theorem spec_l19Countex (l : List Int) (x : Int) (hl : l.length ≤ 1099511627776) : ∃ k, spec_l19Count.f k l x = some ((l.count x : Nat) : Int) := by
  obtain ⟨k, h⟩ := l19Count_ev l x hl
  exact ⟨k, h k (Nat.le_refl _)⟩
set_option maxHeartbeats 16000000 in
set_option maxRecDepth 100000 in
theorem spec_AreTeams.calls (k : Nat) (A0 : Option Addr) (c0 : Nat) (l0 : List S78) (r : Bool) (w : World) (hr0 : Kd.C k78 w A0 l0.length l0) (hc0 : l0.length ≤ c0) (h : spec_AreTeams.f k l0 = some r) :
    Calls Try.prog 69 #[.slice A0 l0.length c0] w fun e w' => e = .returned (.bool r) ∧ Below w.heap.size w w' := by
  unfold spec_AreTeams.f at h
  by_cases hs : smallT l0 = true
  rotate_left
  · rw [if_neg hs] at h
    cases h
  rw [if_pos hs] at h
  have hr := Option.some.inj h
  have hsm := small_of hs
  clear h hs
  have hu78 := Try.underlying78
  have HR0 := Aside0.mk hr0
  have HC0 := Aside0.mk hc0
  have HR := Aside0.mk hr
  have HS := Aside0.mk hsm
  clear hr0 hc0 hr hsm
  go_enter Try.func69, Try.ntmps69
  go_wp2
  go_loopg [3] l0.length (fun gg v3 wr => ∃ kk : Nat, v3 = .int .i64 kk ∧ Aside0 (kk ≤ l0.length ∧ l0.length - kk ≤ gg) ∧ Aside0 (∀ j : Nat, j < kk → okT l0 j = true) ∧ Aside0 (Below w.heap.size w wr))
  case atStart => exact ⟨0, rfl, ⟨by omega⟩, ⟨fun j hj => by omega⟩, ⟨Below.refl _ w⟩⟩
  case round =>
    obtain ⟨kk, rfl, HI, HOK, HB⟩ := hrel
    by_cases hlt : kk < l0.length
    rotate_left
    · have hltb : ((kk : Int) < (l0.length : Int)) = False := eq_false (by omega)
      have HR1 : Aside0 (r = decide (l0.length ≤ 10)) := ⟨by
        rw [← HR.out]
        by_cases h10 : l0.length ≤ 10
        · rw [decide_eq_true h10]
          exact areT_yes h10 (fun i hi => HOK.out i (by omega))
        · rw [decide_eq_false h10]
          exact areT_big h10⟩
      clear hlt
      go_wp2
      go_ret
      exact ⟨by rw [HR1.out]; simp; omega, HB.out⟩
    have hltb : ((kk : Int) < (l0.length : Int)) = True := eq_true (by omega)
    obtain ⟨ad, A5, c5, e0, hat, hl5, hi5⟩ := tmAt_of HR0.out kk hlt
    subst e0
    obtain ⟨x0, x1, x2, x3, x4, x5⟩ := hat.below HB.out
    clear hat
    obtain ⟨x, hx⟩ : ∃ x, rdT l0 (kk : Int) = x := ⟨_, rfl⟩
    rw [hx] at x0 x1 x2 x3 x4 x5 hl5 hi5
    have hx5 : x.f5.length ≤ 1099511627776 := by rw [← hx]; exact HS.out.2 _ (rdTm_mem (by omega) (by omega))
    have HX := Aside0.mk hx
    have HLT := Aside0.mk hlt
    have HL5 := Aside0.mk hl5
    have HX5 := Aside0.mk hx5
    have HI6 : Aside0 (∀ W, Below w.heap.size w W → Kd.C (Kd.int .i64) W A5 x.f5.length x.f5) := ⟨fun W h => Kd.C_below hi5 h⟩
    clear hx hlt hi5 hl5 hx5
    go_upto_region 5 with (first | ((with_reducible refine gate_dst (N := 4) rfl ?_); refine box_event ?hg (N := 4) ?hd (cs := #[.int .i64 0, .int .i64 0, .int .i64 0, .int .i64 0, .int .i64 0, .slice none 0 0]) (t := 78) ?hr ?_; (case hd => rfl); (case hg => rfl); (case hr => first | (go_simp; done) | (go_simp; rfl)); intro gb hg w7 hbox hb; have HBX := Aside0.mk hbox; have HG := Aside0.mk (show w.heap.size ≤ gb by rw [hg]; exact below_size (by repeat (first | exact HB.out | apply pw_below_drewN | apply below_drew1))); have HB7 := Aside0.mk (below_step (by repeat (first | exact HB.out | apply pw_below_drewN | apply below_drew1)) hb); clear hb hg; obtain ⟨⟨hz0, hz1, hz2, hz3, hz4, hz5⟩, hf0, hf1, hf2, hf3, hf4, hf5⟩ := cells6 hbox; clear hbox))
    try simp only [Act.put, Z1, Z2, Z3]
    obtain ⟨w8, e8, hbx, hb8⟩ := box6 HBX.out HB7.out HG.out (.int .i64 x.f0) (.int .i64 x.f1) (.int .i64 x.f2) (.int .i64 x.f3) (.int .i64 x.f4) (.slice A5 x.f5.length c5)
    rw [← e8]
    clear e8 hz0 hz1 hz2 hz3 hz4 hz5 hf0 hf1 hf2 hf3 hf4 hf5 x0 x1 x2 x3 x4 x5 HBX HB7
    have HBX := Aside0.mk hbx
    have HB8 := Aside0.mk hb8
    obtain ⟨⟨hz0, hz1, hz2, hz3, hz4, hz5⟩, _⟩ := cells6 hbx
    clear hbx hb8
    have hI : ∀ (a lo hi : Int) (b : Bool), inR a lo hi = b → ∀ W, Calls Try.prog 56 #[.int .i64 a, .int .i64 lo, .int .i64 hi] W fun e w' => e = .returned (.bool b) ∧ Drawn0 W w' := fun a lo hi b e W => spec_l1In.calls a lo hi b W (by rw [l1In_eq, e])
    obtain ⟨b1, hb1⟩ : ∃ b, inR x.f0 1 99 = b := ⟨_, rfl⟩
    obtain ⟨b2, hb2⟩ : ∃ b, inR x.f1 1 99 = b := ⟨_, rfl⟩
    obtain ⟨b3, hb3⟩ : ∃ b, inR x.f2 0 (x.f5.length : Int) = b := ⟨_, rfl⟩
    obtain ⟨b4, hb4⟩ : ∃ b, inR x.f4 0 (x.f5.length : Int) = b := ⟨_, rfl⟩
    obtain ⟨b5, hb5⟩ : ∃ b, inR x.f3 0 100000 = b := ⟨_, rfl⟩
    have hI1 := hI _ _ _ _ hb1
    have hI2 := hI _ _ _ _ hb2
    have hI3 := hI _ _ _ _ hb3
    have hI4 := hI _ _ _ _ hb4
    have hI5 := hI _ _ _ _ hb5
    have HE1 := Aside0.mk hb1
    have HE2 := Aside0.mk hb2
    have HE3 := Aside0.mk hb3
    have HE4 := Aside0.mk hb4
    have HE5 := Aside0.mk hb5
    clear hI hb1 hb2 hb3 hb4 hb5
    go_cut [71] (fun v71 wc => ∃ b : Bool, v71 = .bool b ∧ Aside0 (b = !rowT l0 (kk : Int)) ∧ Aside0 (wc.heap[gb]? = some (.cells #[.int .i64 x.f0, .int .i64 x.f1, .int .i64 x.f2, .int .i64 x.f3, .int .i64 x.f4, .slice A5 x.f5.length c5] 78 (0, 0))) ∧ Aside0 (Below w.heap.size w wc))
    case first =>
      cases b1 with
      | false =>
        have HRW : Aside0 (rowT l0 (kk : Int) = false) := ⟨row_no1 (by rw [HX.out]; exact HE1.out)⟩
        go_quiet ((go_at_call 56; (with_reducible first | refine (hI1 _).mono ?_ | refine (hI2 _).mono ?_ | refine (hI3 _).mono ?_ | refine (hI4 _).mono ?_ | refine (hI5 _).mono ?_); rintro e w' ⟨rfl, nd, rfl⟩; exact ⟨rfl, _, World.drewN_drewN ..⟩))
        try go_wp2
        go_meet
        case rel => exact ⟨true, rfl, ⟨by rw [HRW.out]; rfl⟩, ⟨blk_drewN HBX.out _⟩, ⟨pw_below_drewN HB8.out _⟩⟩
      | true =>
        cases b2 with
        | false =>
          have HRW : Aside0 (rowT l0 (kk : Int) = false) := ⟨row_no2 (by rw [HX.out]; exact HE2.out)⟩
          go_quiet ((go_at_call 56; (with_reducible first | refine (hI1 _).mono ?_ | refine (hI2 _).mono ?_ | refine (hI3 _).mono ?_ | refine (hI4 _).mono ?_ | refine (hI5 _).mono ?_); rintro e w' ⟨rfl, nd, rfl⟩; exact ⟨rfl, _, World.drewN_drewN ..⟩))
          try go_wp2
          go_meet
          case rel => exact ⟨true, rfl, ⟨by rw [HRW.out]; rfl⟩, ⟨blk_drewN HBX.out _⟩, ⟨pw_below_drewN HB8.out _⟩⟩
        | true =>
          cases b3 with
          | false =>
            have HRW : Aside0 (rowT l0 (kk : Int) = false) := ⟨row_no3 (by rw [HX.out]; exact HE3.out)⟩
            go_quiet ((go_at_call 56; (with_reducible first | refine (hI1 _).mono ?_ | refine (hI2 _).mono ?_ | refine (hI3 _).mono ?_ | refine (hI4 _).mono ?_ | refine (hI5 _).mono ?_); rintro e w' ⟨rfl, nd, rfl⟩; exact ⟨rfl, _, World.drewN_drewN ..⟩))
            try go_wp2
            go_meet
            case rel => exact ⟨true, rfl, ⟨by rw [HRW.out]; rfl⟩, ⟨blk_drewN HBX.out _⟩, ⟨pw_below_drewN HB8.out _⟩⟩
          | true =>
            cases b4 with
            | false =>
              have HRW : Aside0 (rowT l0 (kk : Int) = false) := ⟨row_no4 (by rw [HX.out]; exact HE4.out)⟩
              go_quiet ((go_at_call 56; (with_reducible first | refine (hI1 _).mono ?_ | refine (hI2 _).mono ?_ | refine (hI3 _).mono ?_ | refine (hI4 _).mono ?_ | refine (hI5 _).mono ?_); rintro e w' ⟨rfl, nd, rfl⟩; exact ⟨rfl, _, World.drewN_drewN ..⟩))
              try go_wp2
              go_meet
              case rel => exact ⟨true, rfl, ⟨by rw [HRW.out]; rfl⟩, ⟨blk_drewN HBX.out _⟩, ⟨pw_below_drewN HB8.out _⟩⟩
            | true =>
              cases b5 with
              | false =>
                have HRW : Aside0 (rowT l0 (kk : Int) = false) := ⟨row_no5 (by rw [HX.out]; exact HE5.out)⟩
                go_quiet ((go_at_call 56; (with_reducible first | refine (hI1 _).mono ?_ | refine (hI2 _).mono ?_ | refine (hI3 _).mono ?_ | refine (hI4 _).mono ?_ | refine (hI5 _).mono ?_); rintro e w' ⟨rfl, nd, rfl⟩; exact ⟨rfl, _, World.drewN_drewN ..⟩))
                try go_wp2
                go_meet
                case rel => exact ⟨true, rfl, ⟨by rw [HRW.out]; rfl⟩, ⟨blk_drewN HBX.out _⟩, ⟨pw_below_drewN HB8.out _⟩⟩
              | true =>
                by_cases h20 : 20 < (x.f5.length : Int)
                · have H20 := Aside0.mk h20
                  have hd20 : (20 < (x.f5.length : Int)) = True := eq_true h20
                  have hd20n : (20 < x.f5.length) = True := eq_true (by omega)
                  clear h20
                  have HRW : Aside0 (rowT l0 (kk : Int) = false) := ⟨row_no6 (by rw [HX.out]; exact H20.out)⟩
                  go_quiet ((go_at_call 56; (with_reducible first | refine (hI1 _).mono ?_ | refine (hI2 _).mono ?_ | refine (hI3 _).mono ?_ | refine (hI4 _).mono ?_ | refine (hI5 _).mono ?_); rintro e w' ⟨rfl, nd, rfl⟩; exact ⟨rfl, _, World.drewN_drewN ..⟩))
                  try go_wp2
                  go_meet
                  case rel => exact ⟨true, rfl, ⟨by rw [HRW.out]; rfl⟩, ⟨blk_drewN HBX.out _⟩, ⟨pw_below_drewN HB8.out _⟩⟩
                · have H20 := Aside0.mk h20
                  have hd20 : (20 < (x.f5.length : Int)) = False := eq_false h20
                  have hd20n : (20 < x.f5.length) = False := eq_false (by omega)
                  clear h20
                  by_cases hk0 : 0 < kk
                  rotate_left
                  · have hkb : (0 < (kk : Int)) = False := eq_false (by omega)
                    have hkbn : (0 < kk) = False := eq_false hk0
                    have HAS : Aside0 (0 < (kk : Int) → ¬ x.f0 ≤ (rdT l0 ((kk : Int) - 1)).f0) := ⟨fun h => by omega⟩
                    clear hk0
                    have HRW : Aside0 (rowT l0 (kk : Int) = true) := ⟨row_yes (by rw [HX.out]; exact HE1.out) (by rw [HX.out]; exact HE2.out) (by rw [HX.out]; exact HE3.out) (by rw [HX.out]; exact HE4.out) (by rw [HX.out]; exact HE5.out) (by rw [HX.out]; exact H20.out) (by rw [HX.out]; exact HAS.out)⟩
                    go_quiet ((go_at_call 56; (with_reducible first | refine (hI1 _).mono ?_ | refine (hI2 _).mono ?_ | refine (hI3 _).mono ?_ | refine (hI4 _).mono ?_ | refine (hI5 _).mono ?_); rintro e w' ⟨rfl, nd, rfl⟩; exact ⟨rfl, _, World.drewN_drewN ..⟩))
                    try go_wp2
                    go_meet
                    case rel => exact ⟨false, rfl, ⟨by rw [HRW.out]; rfl⟩, ⟨blk_drewN HBX.out _⟩, ⟨pw_below_drewN HB8.out _⟩⟩
                  have hkb : (0 < (kk : Int)) = True := eq_true (by omega)
                  have hkbn : (0 < kk) = True := eq_true hk0
                  obtain ⟨m, hm⟩ : ∃ m : Nat, (kk : Int) - 1 = (m : Int) := ⟨kk - 1, by omega⟩
                  obtain ⟨ad2, A52, c52, e2, ⟨y0, _⟩, _⟩ := tmAt_of (Kd.C_below HR0.out HB8.out) m (by have := HLT.out; omega)
                  cases e2
                  obtain ⟨q, hq⟩ : ∃ q, (rdT l0 (m : Int)).f0 = q := ⟨_, rfl⟩
                  rw [hq] at y0
                  have hwk : IntKind.i64.wrap ((kk : Int) - 1) = (m : Int) := by rw [hm, IntKind.wrap_i64]; have := HLT.out; have := HS.out.1; omega
                  have hwk2 : wrap64 ((kk : Int) - 1) = (m : Int) := (i64_w _).symm.trans hwk
                  have hml : ((m : Int) < (l0.length : Int)) = True := eq_true (by have := HLT.out; omega)
                  have HQ : Aside0 ((rdT l0 ((kk : Int) - 1)).f0 = q) := ⟨by rw [hm]; exact hq⟩
                  clear hm hq hk0
                  by_cases has : x.f0 ≤ q
                  · have HAS := Aside0.mk has
                    have hab : (x.f0 ≤ q) = True := eq_true has
                    clear has
                    have HRW : Aside0 (rowT l0 (kk : Int) = false) := ⟨row_no7 (of_eq_true hkb) (by rw [HX.out, HQ.out]; exact HAS.out)⟩
                    go_quiet ((go_at_call 56; (with_reducible first | refine (hI1 _).mono ?_ | refine (hI2 _).mono ?_ | refine (hI3 _).mono ?_ | refine (hI4 _).mono ?_ | refine (hI5 _).mono ?_); rintro e w' ⟨rfl, nd, rfl⟩; exact ⟨rfl, _, World.drewN_drewN ..⟩))
                    try go_wp2
                    go_meet
                    case rel => exact ⟨true, rfl, ⟨by rw [HRW.out]; rfl⟩, ⟨blk_drewN HBX.out _⟩, ⟨pw_below_drewN HB8.out _⟩⟩
                  · have HAS : Aside0 (0 < (kk : Int) → ¬ x.f0 ≤ (rdT l0 ((kk : Int) - 1)).f0) := ⟨fun _ => by rw [HQ.out]; exact has⟩
                    have hab : (x.f0 ≤ q) = False := eq_false has
                    clear has
                    have HRW : Aside0 (rowT l0 (kk : Int) = true) := ⟨row_yes (by rw [HX.out]; exact HE1.out) (by rw [HX.out]; exact HE2.out) (by rw [HX.out]; exact HE3.out) (by rw [HX.out]; exact HE4.out) (by rw [HX.out]; exact HE5.out) (by rw [HX.out]; exact H20.out) (by rw [HX.out]; exact HAS.out)⟩
                    go_quiet ((go_at_call 56; (with_reducible first | refine (hI1 _).mono ?_ | refine (hI2 _).mono ?_ | refine (hI3 _).mono ?_ | refine (hI4 _).mono ?_ | refine (hI5 _).mono ?_); rintro e w' ⟨rfl, nd, rfl⟩; exact ⟨rfl, _, World.drewN_drewN ..⟩))
                    try go_wp2
                    go_meet
                    case rel => exact ⟨false, rfl, ⟨by rw [HRW.out]; rfl⟩, ⟨blk_drewN HBX.out _⟩, ⟨pw_below_drewN HB8.out _⟩⟩
    case rest =>
      clear hI1 hI2 hI3 hI4 hI5 hz0 hz1 hz2 hz3 hz4 hz5 HE1 HE2 HE3 HE4 HE5 HBX HB8
      obtain ⟨b, rfl, HBV, HBX, HB8⟩ := hcut
      by_cases hrow : rowT l0 (kk : Int) = true
      rotate_left
      · obtain rfl : b = true := by rw [HBV.out, Bool.eq_false_iff.mpr hrow]; rfl
        have HR1 : Aside0 (r = false) := ⟨by
          rw [← HR.out]
          exact areT_no HLT.out (by unfold okT; rw [Bool.eq_false_iff.mpr hrow, Bool.false_and])⟩
        clear hrow
        go_wp2
        go_ret
        exact ⟨by rw [HR1.out]; rfl, HB8.out⟩
      obtain rfl : b = false := by rw [HBV.out, hrow]; rfl
      have HROW := Aside0.mk hrow
      clear hrow
      obtain ⟨⟨hz0, hz1, hz2, hz3, hz4, hz5⟩, _⟩ := cells6 HBX.out
      go_wp2
      go_loopg [5] x.f5.length (fun gg v5 wr => ∃ mm : Nat, v5 = .int .i64 mm ∧ Aside0 (mm ≤ x.f5.length ∧ x.f5.length - mm ≤ gg) ∧ Aside0 (∀ (j : Nat) (hj : j < x.f5.length), j < mm → metB l0 (kk : Int) x.f5[j] = true) ∧ Aside0 (wr.heap[gb]? = some (.cells #[.int .i64 x.f0, .int .i64 x.f1, .int .i64 x.f2, .int .i64 x.f3, .int .i64 x.f4, .slice A5 x.f5.length c5] 78 (0, 0))) ∧ Aside0 (Below w.heap.size w wr))
      case atStart => exact ⟨0, rfl, ⟨by omega⟩, ⟨fun j _ hj => by omega⟩, HBX, HB8⟩
      case round =>
        obtain ⟨mm, rfl, HI2, HOK2, HBX2, HB9⟩ := hrel
        clear hz0 hz1 hz2 hz3 hz4 hz5 HBX HB8
        by_cases hlt2 : mm < x.f5.length
        rotate_left
        · have hltb2 : ((mm : Int) < (x.f5.length : Int)) = False := eq_false (by omega)
          have HOKK : Aside0 (okT l0 (kk : Int) = true) := ⟨by
            unfold okT
            rw [HROW.out, Bool.true_and, HX.out, List.all_eq_true]
            intro id hid
            obtain ⟨j, hj, rfl⟩ := List.mem_iff_getElem.1 hid
            exact HOK2.out j hj (by omega)⟩
          obtain ⟨⟨hz0, hz1, hz2, hz3, hz4, hz5⟩, _⟩ := cells6 HBX2.out
          clear hlt2
          go_wp2
          go_roundg (l0.length - (kk + 1))
          case measure => have := HI.out; have := HLT.out; omega
          case rel =>
            have hw : wrap64 ((kk : Int) + 1) = ((kk + 1 : Nat) : Int) := by have := HLT.out; have := HS.out.1; unfold wrap64; omega
            refine ⟨kk + 1, by rw [hw], ⟨by have := HLT.out; omega⟩, ⟨fun j hj => ?_⟩, HB9⟩
            by_cases e : j = kk
            · subst e
              exact HOKK.out
            · exact HOK.out j (by omega)
        have hltb2 : ((mm : Int) < (x.f5.length : Int)) = True := eq_true (by omega)
        obtain ⟨a5, e5, hc5⟩ := atIntT (HI6.out _ HB9.out) mm hlt2
        subst e5
        obtain ⟨id, hid⟩ : ∃ id, x.f5[mm] = id := ⟨_, rfl⟩
        rw [hid] at hc5
        have HID : Aside0 (x.f5[mm]? = some id) := ⟨by rw [List.getElem?_eq_getElem hlt2, hid]⟩
        have HLT2 := Aside0.mk hlt2
        clear hid hlt2
        have HNO : Aside0 (metB l0 (kk : Int) id = false → r = false) := ⟨fun h => by
          rw [← HR.out]
          refine areT_no HLT.out ?_
          unfold okT
          rw [HX.out, Bool.and_eq_false_iff]
          right
          rw [List.all_eq_false]
          exact ⟨id, List.mem_of_getElem? HID.out, by rw [h]; simp⟩⟩
        have hr_ := findT_range l0 id
        have hfid_ := @findT_id l0 id
        have HMET : Aside0 (metB l0 (kk : Int) id = decide (0 ≤ findT l0 id ∧ findT l0 id ≠ kk ∧ (((rdT l0 (findT l0 id)).f5.count x.f0 : Nat) : Int) = ((x.f5.count id : Nat) : Int))) := ⟨by unfold metB; rw [HX.out]⟩
        have HSELF : Aside0 (id = x.f0 → findT l0 id = kk) := ⟨fun h => by rw [h, ← HX.out]; exact findT_self (asc_of HOK.out HROW.out) HLT.out⟩
        obtain ⟨k0_, hk0_⟩ := sFindTeam_ev l0 id HS.out.1
        have hF : ∀ W, Below w.heap.size w W → Calls Try.prog 62 #[.slice (some ad) l0.length c0, .int .i64 id] W fun e w' => e = .returned (.int .i64 (findT l0 id)) ∧ Below W.heap.size W w' := fun W hW => (spec_FindTeam.calls k0_ (some ad) c0 l0 id _ W (Kd.C_below HR0.out hW) HC0.out (hk0_ k0_ (Nat.le_refl _))).mono (by rintro e w' ⟨h, nd, rfl⟩; exact ⟨h, pw_below_drewN (Below.refl _ _) _⟩)
        clear hk0_
        generalize findT l0 id = f at hr_ hfid_ HMET HSELF hF
        have HF := Aside0.mk hF
        have hF := HF.out
        obtain ⟨⟨hz0, hz1, hz2, hz3, hz4, hz5⟩, _⟩ := cells6 HBX2.out
        by_cases hf : f < 0
        · have hfb : (f < 0) = True := eq_true hf
          have HR1 : Aside0 (r = false) := ⟨HNO.out (by rw [HMET.out]; exact decide_eq_false (fun h => by omega))⟩
          clear hf hr_ hfid_ HF
          go_wp2_with (go_at_call 62; refine (hF _ ?hw).mono ?_; (case hw => (repeat (first | exact HB9.out | apply pw_below_drewN | apply below_drew1))); rintro e w10 ⟨rfl, hb10⟩; have HB10 := Aside0.mk (below_step (by repeat (first | exact HB9.out | apply pw_below_drewN | apply below_drew1)) hb10); have HBX3 := Aside0.mk (blk_below (by repeat (first | exact HBX2.out | refine blk_drewN ?_ _ | refine blk_drew ?_)) hb10); clear hb10 hz0 hz1 hz2 hz3 hz4 hz5 hF; obtain ⟨⟨hz0, hz1, hz2, hz3, hz4, hz5⟩, _⟩ := cells6 HBX3.out)
          go_quiet (fail)
          go_wp2
          go_ret
          exact ⟨by rw [HR1.out]; rfl, pw_below_drewN HB10.out _⟩
        have hfb : (f < 0) = False := eq_false hf
        obtain ⟨fn, rfl⟩ : ∃ n : Nat, f = (n : Int) := ⟨f.toNat, by omega⟩
        have hfl : ((fn : Int) < (l0.length : Int)) = True := eq_true hr_.2
        have hy0 := hfid_ (by omega)
        by_cases hsame : (fn : Int) = (kk : Int)
        · have hsb : ((fn : Int) == (kk : Int)) = true := beq_iff_eq.mpr hsame
          have HR1 : Aside0 (r = false) := ⟨HNO.out (by rw [HMET.out]; exact decide_eq_false (fun h => h.2.1 hsame))⟩
          clear hf hr_ hfid_ HF hsame hy0
          go_wp2_with (go_at_call 62; refine (hF _ ?hw).mono ?_; (case hw => (repeat (first | exact HB9.out | apply pw_below_drewN | apply below_drew1))); rintro e w10 ⟨rfl, hb10⟩; have HB10 := Aside0.mk (below_step (by repeat (first | exact HB9.out | apply pw_below_drewN | apply below_drew1)) hb10); have HBX3 := Aside0.mk (blk_below (by repeat (first | exact HBX2.out | refine blk_drewN ?_ _ | refine blk_drew ?_)) hb10); clear hb10 hz0 hz1 hz2 hz3 hz4 hz5 hF; obtain ⟨⟨hz0, hz1, hz2, hz3, hz4, hz5⟩, _⟩ := cells6 HBX3.out)
          go_quiet (fail)
          go_wp2
          go_ret
          exact ⟨by rw [HR1.out]; rfl, pw_below_drewN HB10.out _⟩
        have hsb : ((fn : Int) == (kk : Int)) = false := beq_false_of_ne hsame
        have HNS : Aside0 ((fn : Int) ≠ kk) := ⟨hsame⟩
        have HFN : Aside0 (fn < l0.length) := ⟨by omega⟩
        obtain ⟨ad2, A6, c6, e6, hat2, hl6, hi6⟩ := tmAt_of HR0.out fn HFN.out
        cases e6
        have hy5 : (rdT l0 (fn : Int)).f5.length ≤ 1099511627776 := HS.out.2 _ (rdTm_mem (by omega) (by omega))
        obtain ⟨y, hy⟩ : ∃ y, rdT l0 (fn : Int) = y := ⟨_, rfl⟩
        rw [hy] at hat2 hl6 hi6 hy0 HMET hy5
        have HAT2 := Aside0.mk hat2
        have HY0 := Aside0.mk hy0
        obtain ⟨k1, hk1⟩ := spec_l19Countex x.f5 id HX5.out
        obtain ⟨k2, hk2⟩ := spec_l19Countex y.f5 x.f0 hy5
        have hT1 : ∀ W, Below w.heap.size w W → Calls Try.prog 89 #[.slice (some a5) x.f5.length c5, .int .i64 id] W fun e w' => e = .returned (.int .i64 ((x.f5.count id : Nat) : Int)) ∧ Drawn0 W w' := fun W hW => spec_l19Count.calls k1 (some a5) c5 x.f5 id _ W (HI6.out W hW) HL5.out hk1
        have hT2 : ∀ W, Below w.heap.size w W → Calls Try.prog 89 #[.slice A6 y.f5.length c6, .int .i64 x.f0] W fun e w' => e = .returned (.int .i64 ((y.f5.count x.f0 : Nat) : Int)) ∧ Drawn0 W w' := fun W hW => spec_l19Count.calls k2 A6 c6 y.f5 x.f0 _ W (Kd.C_below hi6 hW) hl6 hk2
        clear hf hr_ hfid_ HF hsame hy0 hy hat2 hl6 hy5 hk1 hk2
        generalize x.f5.count id = n1 at hT1 HMET
        generalize y.f5.count x.f0 = n2 at hT2 HMET
        by_cases hn : n2 = n1
        rotate_left
        · have hnb : ((n1 : Int) != (n2 : Int)) = true := bne_iff_ne.mpr (by omega)
          have hnb2 : ((n2 : Int) != (n1 : Int)) = true := bne_iff_ne.mpr (by omega)
          have HR1 : Aside0 (r = false) := ⟨HNO.out (by rw [HMET.out]; exact decide_eq_false (fun h => hn (by omega)))⟩
          clear hn
          go_wp2_with (go_at_call 62; refine (hF _ ?hw).mono ?_; (case hw => (repeat (first | exact HB9.out | apply pw_below_drewN | apply below_drew1))); rintro e w10 ⟨rfl, hb10⟩; have HB10 := Aside0.mk (below_step (by repeat (first | exact HB9.out | apply pw_below_drewN | apply below_drew1)) hb10); have HBX3 := Aside0.mk (blk_below (by repeat (first | exact HBX2.out | refine blk_drewN ?_ _ | refine blk_drew ?_)) hb10); clear hb10 hz0 hz1 hz2 hz3 hz4 hz5 hF; obtain ⟨⟨hz0, hz1, hz2, hz3, hz4, hz5⟩, _⟩ := cells6 HBX3.out)
          obtain ⟨y0, _, _, _, _, y5⟩ := HAT2.out.below HB10.out
          rw [HY0.out] at y0
          go_quiet ((go_at_call 89; (with_reducible first | refine (hT1 _ ?hw).mono ?_ | refine (hT2 _ ?hw).mono ?_); (case hw => exact pw_below_drewN HB10.out _); rintro e w' ⟨rfl, nd, rfl⟩; exact ⟨rfl, _, World.drewN_drewN ..⟩))
          go_wp2
          go_ret
          exact ⟨by rw [HR1.out]; rfl, pw_below_drewN HB10.out _⟩
        have hnb : ((n1 : Int) != (n2 : Int)) = false := bne_eq_false_iff_eq.mpr (by omega)
        have hnb2 : ((n2 : Int) != (n1 : Int)) = false := bne_eq_false_iff_eq.mpr (by omega)
        have HYES : Aside0 (metB l0 (kk : Int) id = true) := ⟨by rw [HMET.out]; exact decide_eq_true ⟨by omega, HNS.out, by omega⟩⟩
        clear hn
        go_wp2_with (go_at_call 62; refine (hF _ ?hw).mono ?_; (case hw => (repeat (first | exact HB9.out | apply pw_below_drewN | apply below_drew1))); rintro e w10 ⟨rfl, hb10⟩; have HB10 := Aside0.mk (below_step (by repeat (first | exact HB9.out | apply pw_below_drewN | apply below_drew1)) hb10); have HBX3 := Aside0.mk (blk_below (by repeat (first | exact HBX2.out | refine blk_drewN ?_ _ | refine blk_drew ?_)) hb10); clear hb10 hz0 hz1 hz2 hz3 hz4 hz5 hF; obtain ⟨⟨hz0, hz1, hz2, hz3, hz4, hz5⟩, _⟩ := cells6 HBX3.out)
        obtain ⟨y0, _, _, _, _, y5⟩ := HAT2.out.below HB10.out
        rw [HY0.out] at y0
        go_quiet ((go_at_call 89; (with_reducible first | refine (hT1 _ ?hw).mono ?_ | refine (hT2 _ ?hw).mono ?_); (case hw => exact pw_below_drewN HB10.out _); rintro e w' ⟨rfl, nd, rfl⟩; exact ⟨rfl, _, World.drewN_drewN ..⟩))
        go_wp2
        go_roundg (x.f5.length - (mm + 1))
        case measure => have := HI2.out; have := HLT2.out; omega
        case rel =>
          have hw : wrap64 ((mm : Int) + 1) = ((mm + 1 : Nat) : Int) := by have := HLT2.out; have := HX5.out; unfold wrap64; omega
          refine ⟨mm + 1, by rw [hw], ⟨by have := HLT2.out; omega⟩, ⟨fun j hj hjn => ?_⟩, ⟨blk_drewN HBX3.out _⟩, ⟨pw_below_drewN HB10.out _⟩⟩
          by_cases e : j = mm
          · subst e
            rw [(List.getElem?_eq_some_iff.1 HID.out).2]
            exact HYES.out
          · exact HOK2.out j hj (by omega)
end Go.Proofs.Ytdlebbmmanjffaa.A
end

section
namespace Go.Proofs.Ytdlebbmmanjffaa.A
open Go.RowKit Go.Proofs.YtdlebbmmanjffaaW.PrintWords Go.Proofs.YtdlebbmmanjffaaW.PrintLast Go.Proofs.YtdlebbmmanjffaaW.PrintMore
attribute [local go_sem] max2_int min2_int max_two min_two max_three min_three max_four min_four   -- for this text's walks alone
set_option linter.unusedVariables false
set_option linter.unusedSimpArgs false
mutual
def spec_AreJudges.l0 : Nat → List (S46) → Int → Option (Bool)
  | 0, _, _ => none
  | k + 1, x0, x3 => if x3 < (x0.length : Int) then (if 0 ≤ x3 then ((spec_l1In.f ((rd_T46 x0 x3).f0) 1 99).bind fun t106 => (if t106 = true then ((spec_l1In.f ((rd_T46 x0 x3).f1) 1 99).bind fun t108 => (if t108 = true then (if x3 > 0 then (if 0 ≤ (wrap64 (x3 - 1)) then (if (wrap64 (x3 - 1)) < (x0.length : Int) then (spec_AreJudges.j1 k x0 x3 (decide (((rd_T46 x0 (wrap64 (x3 - 1))).f0) ≥ ((rd_T46 x0 x3).f0)))) else (none)) else (none)) else (spec_AreJudges.j1 k x0 x3 false)) else (spec_AreJudges.j1 k x0 x3 true))) else (spec_AreJudges.j1 k x0 x3 true))) else (none)) else (some (decide ((x0.length : Int) ≤ 10)))
def spec_AreJudges.j1 : Nat → List (S46) → Int → Bool → Option (Bool)
  | 0, _, _, _ => none
  | k + 1, x0, x3, x44 => if x44 = true then (some false) else (spec_AreJudges.l1 k x0 x3 0)
def spec_AreJudges.l1 : Nat → List (S46) → Int → Int → Option (Bool)
  | 0, _, _, _ => none
  | k + 1, x0, x3, x4 => if 0 ≤ x3 then (if x3 < (x0.length : Int) then (if x4 < (((rd_T46 x0 x3).f2).length : Int) then (if 0 ≤ x4 then ((spec_l1In.f (rd ((rd_T46 x0 x3).f2) x4) 1 99).bind fun t114 => (if t114 = true then (if x4 > 0 then (if 0 ≤ (wrap64 (x4 - 1)) then (if (wrap64 (x4 - 1)) < (((rd_T46 x0 x3).f2).length : Int) then (if (rd ((rd_T46 x0 x3).f2) (wrap64 (x4 - 1))) ≥ (rd ((rd_T46 x0 x3).f2) x4) then (some false) else (spec_AreJudges.l1 k x0 x3 (wrap64 (x4 + 1)))) else (none)) else (none)) else (spec_AreJudges.l1 k x0 x3 (wrap64 (x4 + 1)))) else (some false))) else (none)) else (spec_AreJudges.l0 k x0 (wrap64 (x3 + 1)))) else (none)) else (none)
end
def spec_AreJudges.f (k : Nat) (l0 : List (S46)) : Option (Bool) := spec_AreJudges.l0 k l0 0
def spec_AreJudges.T4 : Bool × List (List Nat × List Nat) := (true, [([], []), ([], []), ([0, 1], [0, 1]), ([2], [2]), ([3], [3]), ([4], [4]), ([5], [5]), ([6, 5], [6]), ([7], [7]), ([7], [7]), ([8, 9, 7], [7, 8, 9]), ([10, 7], [7, 10]), ([11, 7], [7, 11]), ([12, 7, 7], [7, 12]), ([13, 7], [7, 13]), ([7, 14], [7, 14]), ([15, 13], [15]), ([16], [16]), ([17, 16], [16, 17]), ([18, 16, 16], [16, 18]), ([19], [19]), ([19], [19]), ([21, 19], [19, 21]), ([20, 22, 19], [19, 20, 22]), ([23, 19], [19, 23]), ([24, 19], [19, 24]), ([19], [19]), ([19], [19]), ([26, 27, 19], [19, 26, 27]), ([28, 19], [19, 28]), ([29, 19], [19, 29]), ([25, 30, 19], [19, 25, 30]), ([19, 31, 16], [16, 19, 31]), ([16, 32], [16, 32])])
def spec_AreJudges.B4 : List Nat := [0, 0, 3, 7, 15, 31, 63, 127, 255, 255, 1023, 2047, 4095, 8191, 16383, 32767, 65535, 131071, 262143, 524287, 1048575, 1048575, 3145727, 8388607, 16777215, 33554431, 1048575, 1048575, 202375167, 470810623, 1007681535, 2147483647, 4294967295, 8589934591]
theorem spec_AreJudges.tab4 : rtab .any (opsOf Try.f11 4) = spec_AreJudges.T4 := by kernel_rfl
theorem spec_AreJudges.bits4 : waitsOk spec_AreJudges.T4.2 spec_AreJudges.B4 = true := by kernel_rfl
def spec_AreJudges.T9 : Bool × List (List Nat × List Nat) := (true, [([], []), ([], []), ([0, 1], [0, 1]), ([2], [2]), ([3], [3]), ([], []), ([4, 5], [4, 5]), ([6], [6]), ([7], [7]), ([8], [8]), ([9, 8], [9]), ([10], [10]), ([11, 10], [10, 11]), ([12, 10, 10], [10, 12]), ([13], [13]), ([13], [13]), ([14, 15, 13], [13, 14, 15]), ([16, 13], [13, 16]), ([17, 13], [13, 17]), ([13], [13]), ([19, 13], [13, 19]), ([18, 20, 13], [13, 18, 20]), ([21, 13], [13, 21]), ([13], [13]), ([13], [13]), ([23, 24, 13], [13, 23, 24]), ([25, 13], [13, 25]), ([26, 13], [13, 26]), ([13], [13]), ([27, 28, 13], [13, 27, 28]), ([29, 13], [13, 29]), ([22, 30, 13], [13, 22, 30]), ([13, 31, 10], [10, 13, 31]), ([10, 32], [10, 32])])
def spec_AreJudges.B9 : List Nat := [0, 0, 3, 7, 15, 0, 63, 127, 255, 511, 1023, 2047, 4095, 8191, 16383, 16383, 65535, 131071, 262143, 16383, 540671, 2097151, 4194303, 16383, 16383, 25182207, 58736639, 125845503, 16383, 528498687, 1065369599, 2147483647, 4294967295, 8589934591]
theorem spec_AreJudges.tab9 : rtab .any (opsOf Try.f11 9) = spec_AreJudges.T9 := by kernel_rfl
theorem spec_AreJudges.bits9 : waitsOk spec_AreJudges.T9.2 spec_AreJudges.B9 = true := by kernel_rfl
set_option maxHeartbeats 8000000 in
set_option maxRecDepth 100000 in
theorem spec_AreJudges.calls (k : Nat) (A0 : Option Addr) (c0 : Nat) (l0 : List (S46)) (r : Bool) (w : World) (hr0 : Kd.C k46 w A0 l0.length l0) (hc0 : l0.length ≤ c0) (h : spec_AreJudges.f k l0 = some r) :
  Calls Try.prog 11 #[.slice A0 l0.length c0] w fun e w' => e = .returned (.bool r) ∧ Below w.heap.size w w' := by
 have HR0 := Aside0.mk hr0
 have HC0 := Aside0.mk hc0
 clear hr0 hc0
 have HB := Aside0.mk (Below.refl w.heap.size w)
 have H : (spec_AreJudges.l0 k l0 0) = some r := h
 clear h
 have H' := Aside0.mk H
 clear H
 go_enter Try.func11, Try.ntmps11
 go_wp2
 go_loopg [3] k (fun kq v3 w' => ∃ (x3_1 : Int), v3 = .int .i64 x3_1 ∧ Aside0 (spec_AreJudges.l0 kq l0 x3_1 = some r) ∧ Aside0 (kq ≤ k) ∧ Aside0 (Below w.heap.size w w'))
 case atStart => exact ⟨(0), (by first | rfl | (simp; done) | (simp [*]; done)), H', ⟨Nat.le_refl _⟩, ⟨by repeat (first | (with_reducible first | exact HB.out | apply below_alloc | apply pw_below_drewN | apply below_drew1) | exact HB.out)⟩⟩
 case round =>
  clear H'
  try clear c1
  obtain ⟨x3_1, rfl, HA, HK1, HB⟩ := hrel
  cases gk with
  | zero => exact absurd HA.out (by simp [spec_AreJudges.l0])
  | succ k1 =>
   have H := HA.out
   clear HA
   simp only [spec_AreJudges.l0] at H
   by_cases c2 : x3_1 < (l0.length : Int)
   rotate_left
   ·
    rw [if_neg c2] at H
    have c2b0 : decide (x3_1 < (l0.length : Int)) = false := decide_eq_false c2
    clear c2
    obtain rfl := Option.some.inj H
    go_wp2
    go_ret
    exact ⟨by first | rfl | (simp [errW_none, errW_some] <;> rfl) | (simp [*, errW_none, errW_some] <;> rfl), by repeat (first | (with_reducible first | exact HB.out | apply below_alloc | apply pw_below_drewN | apply below_drew1) | exact HB.out)⟩

   rw [if_pos c2] at H
   have c2b0 : decide (x3_1 < (l0.length : Int)) = true := decide_eq_true c2
   clear c2
   have HC3 := Aside0.mk H
   clear H
   go_upto_region 4 with (fail)
   go_cut [44] (fun v44 wc => ∃ (kq : Nat) (x44_2 : Bool), v44 = .bool x44_2 ∧ Aside0 (spec_AreJudges.j1 kq l0 x3_1 x44_2 = some r) ∧ Aside0 (kq ≤ k1) ∧ Aside0 (Below w.heap.size w wc))
   case first =>
    have H := HC3.out
    clear HC3
    by_cases c4 : 0 ≤ x3_1
    rotate_left
    ·
     rw [if_neg c4] at H
     exact absurd H (by simp)
    rw [if_pos c4] at H
    have c4b0 : decide (0 ≤ x3_1) = true := decide_eq_true c4
    clear c4
    (first | rw [c4b0] | (simp only [i64_w, i32_w]; rw [c4b0]) | skip)
    replace H := Option.bind_eq_some_iff.mp H
    obtain ⟨t106, A50, H⟩ := H
    replace H : (if t106 = true then ((spec_l1In.f ((rd_T46 l0 x3_1).f1) 1 99).bind fun t108 => (if t108 = true then (if x3_1 > 0 then (if 0 ≤ (wrap64 (x3_1 - 1)) then (if (wrap64 (x3_1 - 1)) < (l0.length : Int) then (spec_AreJudges.j1 k1 l0 x3_1 (decide (((rd_T46 l0 (wrap64 (x3_1 - 1))).f0) ≥ ((rd_T46 l0 x3_1).f0)))) else (none)) else (none)) else (spec_AreJudges.j1 k1 l0 x3_1 false)) else (spec_AreJudges.j1 k1 l0 x3_1 true))) else (spec_AreJudges.j1 k1 l0 x3_1 true)) = some r := H
    have A5 := Aside0.mk A50
    clear A50
    by_cases c6 : t106 = true
    rotate_left
    ·
     replace c6 := Bool.eq_false_iff.mpr c6
     subst c6
     have H1 : (spec_AreJudges.j1 k1 l0 x3_1 true) = some r := by rw [if_neg (show ¬ (false = true) by decide)] at H; exact H
     clear H
     have H := H1
     clear H1
     have H' := Aside0.mk H
     clear H
     try go_wp2
     have n0_ := Aside0.mk (below_drew1 HB.out)
     clear HB
     have HB := n0_
     clear n0_
     have p105 : 0 ≤ (x3_1 : Int) := of_decide_eq_true (by first | (with_reducible assumption) | assumption)
     have q105 : x3_1 < (l0.length : Int) := of_decide_eq_true (by first | (with_reducible assumption) | assumption)
     obtain ⟨ad105, A105_2, c105_2, e105, hx105_0, hx105_1, hx105_2, hl105_2, hi105_2⟩ := at_T46 HR0.out x3_1 p105 q105
     have hw105_2 := hx105_2
     have hw105_1 := hx105_1
     have hw105_0 := hx105_0
     cases e105
     replace hx105_0 := (HB.out.cell (World.block_lt_of_cell? w _ hx105_0)).trans hx105_0
     replace hx105_1 := (HB.out.cell (World.block_lt_of_cell? w _ hx105_1)).trans hx105_1
     replace hx105_2 := (HB.out.cell (World.block_lt_of_cell? w _ hx105_2)).trans hx105_2
     have HR105_2 := Aside0.mk hi105_2
     have HC105_2 := Aside0.mk hl105_2
     clear hi105_2 hl105_2
     replace p105 := eq_true p105
     replace q105 := eq_true q105
     refine start_ (n := 34) (S := fun w' => w'.cell? (ad105.add ((x3_1).toNat * 3)) = some (.int .i64 ((rd_T46 l0 x3_1).f0)) ∧ w'.cell? ⟨(ad105.add ((x3_1).toNat * 3)).block, (ad105.add ((x3_1).toNat * 3)).off + 1, none⟩ = some (.int .i64 ((rd_T46 l0 x3_1).f1)) ∧ w'.cell? ⟨(ad105.add ((x3_1).toNat * 3)).block, (ad105.add ((x3_1).toNat * 3)).off + 2, none⟩ = some (.slice A105_2 ((rd_T46 l0 x3_1).f2).length c105_2)) (ds := []) (bv 34 0) (by kernel_rfl) rfl rfl ⟨((HB.out.cell (World.block_lt_of_cell? w _ hw105_0)).trans hw105_0), ((HB.out.cell (World.block_lt_of_cell? w _ hw105_1)).trans hw105_1), ((HB.out.cell (World.block_lt_of_cell? w _ hw105_2)).trans hw105_2)⟩ (fun hHeld => ?_); refine with_tabW spec_AreJudges.tab4 spec_AreJudges.bits4 (fun HT_ HW_ => ?_)
     generalize wr.drew = w16 at HB HR105_2 hx105_0 hx105_1 hx105_2 hHeld ⊢
     refine pv_ 34 0 11 1 rfl rfl HT_ ?_; refine pv_ 34 1 12 3 rfl rfl HT_ ?_; refine pv_ 34 2 13 7 rfl rfl HT_ ?_; refine pv_ 34 3 14 15 rfl rfl HT_ ?_
     refine tv_ 34 4 15 31 rfl rfl HT_ HW_ hHeld (by rintro w' ⟨s0, s1, s2⟩; go_simp; with_reducible rfl) ?_
     refine one_ (i := 5) (N := some 16) (bv 34 63) rfl rfl (one_of HT_.out (by kernel_rfl)) (by decide) (fun K hK => ?_)
     refine goes_ Try.func56 (by kernel_rfl) rfl #[.int .i64 ((rd_T46 l0 x3_1).f0), .int .i64 1, .int .i64 99] (by rfl) rfl rfl (by (try simp only [List.map_toArray, List.map_cons, List.map_nil]); first | done | rfl | (simp only [List.length_drop, List.length_take]; rfl)) ?_
     with_reducible refine (spec_l1In.calls ((rd_T46 l0 x3_1).f0) 1 99 false _ A5.out).mono ?_
     rintro e w' ⟨rfl, ⟨nd, rfl⟩⟩
     refine ⟨_, rfl, ?_⟩
     refine hK.out _ _ ⟨((HB.out.cell (World.block_lt_of_cell? w _ hw105_0)).trans hw105_0), ((HB.out.cell (World.block_lt_of_cell? w _ hw105_1)).trans hw105_1), ((HB.out.cell (World.block_lt_of_cell? w _ hw105_2)).trans hw105_2)⟩ (fun hHeld => ?_)
     clear hK K
     refine nm_ 16 ?_
     refine pv_ 34 6 17 127 rfl rfl HT_ ?_; refine pv_ 34 7 18 255 rfl rfl HT_ ?_; refine pu_ 34 8 19 511 rfl rfl HT_ ?_; refine pu_ 34 9 20 1023 rfl rfl HT_ ?_; refine pu_ 34 10 21 2047 rfl rfl HT_ ?_; refine pu_ 34 11 22 4095 rfl rfl HT_ ?_; refine pu_ 34 12 23 8191 rfl rfl HT_ ?_; refine pu_ 34 13 24 16383 rfl rfl HT_ ?_; refine pu_ 34 14 25 32767 rfl rfl HT_ ?_; refine pv_ 34 15 26 65535 rfl rfl HT_ ?_; refine pv_ 34 16 27 131071 rfl rfl HT_ ?_; refine pu_ 34 17 28 262143 rfl rfl HT_ ?_; refine pu_ 34 18 29 524287 rfl rfl HT_ ?_; refine pu_ 34 19 30 1048575 rfl rfl HT_ ?_; refine pu_ 34 20 31 2097151 rfl rfl HT_ ?_; refine pu_ 34 21 32 4194303 rfl rfl HT_ ?_; refine pu_ 34 22 33 8388607 rfl rfl HT_ ?_; refine pu_ 34 23 34 16777215 rfl rfl HT_ ?_; refine pu_ 34 24 35 33554431 rfl rfl HT_ ?_; refine pu_ 34 25 36 67108863 rfl rfl HT_ ?_; refine pu_ 34 26 37 134217727 rfl rfl HT_ ?_; refine pu_ 34 27 38 268435455 rfl rfl HT_ ?_
     refine pu_ 34 28 39 536870911 rfl rfl HT_ ?_; refine pu_ 34 29 40 1073741823 rfl rfl HT_ ?_; refine pu_ 34 30 41 2147483647 rfl rfl HT_ ?_; refine pu_ 34 31 42 4294967295 rfl rfl HT_ ?_; refine pu_ 34 32 43 8589934591 rfl rfl HT_ ?_; refine pv_ 34 33 44 17179869183 rfl rfl HT_ ?_
     refine done_ (done_of HT_.out (by kernel_rfl)) ?_
     try go_wp2
     go_meet
     case rel => exact ⟨_, (true), (by first | rfl | (simp; done) | (simp [*]; done)), H', ⟨by have := HK1.out; first | omega | exact Nat.le_refl _⟩, ⟨by repeat (first | (with_reducible first | exact HB.out | apply below_alloc | apply pw_below_drewN | apply below_drew1) | exact HB.out)⟩⟩
    subst c6
    have H1 : ((spec_l1In.f ((rd_T46 l0 x3_1).f1) 1 99).bind fun t108 => (if t108 = true then (if x3_1 > 0 then (if 0 ≤ (wrap64 (x3_1 - 1)) then (if (wrap64 (x3_1 - 1)) < (l0.length : Int) then (spec_AreJudges.j1 k1 l0 x3_1 (decide (((rd_T46 l0 (wrap64 (x3_1 - 1))).f0) ≥ ((rd_T46 l0 x3_1).f0)))) else (none)) else (none)) else (spec_AreJudges.j1 k1 l0 x3_1 false)) else (spec_AreJudges.j1 k1 l0 x3_1 true))) = some r := by rw [if_pos rfl] at H; exact H
    clear H
    have H := H1
    clear H1
    replace H := Option.bind_eq_some_iff.mp H
    obtain ⟨t108, A70, H⟩ := H
    replace H : (if t108 = true then (if x3_1 > 0 then (if 0 ≤ (wrap64 (x3_1 - 1)) then (if (wrap64 (x3_1 - 1)) < (l0.length : Int) then (spec_AreJudges.j1 k1 l0 x3_1 (decide (((rd_T46 l0 (wrap64 (x3_1 - 1))).f0) ≥ ((rd_T46 l0 x3_1).f0)))) else (none)) else (none)) else (spec_AreJudges.j1 k1 l0 x3_1 false)) else (spec_AreJudges.j1 k1 l0 x3_1 true)) = some r := H
    have A7 := Aside0.mk A70
    clear A70
    by_cases c8 : t108 = true
    rotate_left
    ·
     replace c8 := Bool.eq_false_iff.mpr c8
     subst c8
     have H1 : (spec_AreJudges.j1 k1 l0 x3_1 true) = some r := by rw [if_neg (show ¬ (false = true) by decide)] at H; exact H
     clear H
     have H := H1
     clear H1
     have H' := Aside0.mk H
     clear H
     try go_wp2
     have n0_ := Aside0.mk (below_drew1 HB.out)
     clear HB
     have HB := n0_
     clear n0_
     have p105 : 0 ≤ (x3_1 : Int) := of_decide_eq_true (by first | (with_reducible assumption) | assumption)
     have q105 : x3_1 < (l0.length : Int) := of_decide_eq_true (by first | (with_reducible assumption) | assumption)
     obtain ⟨ad105, A105_2, c105_2, e105, hx105_0, hx105_1, hx105_2, hl105_2, hi105_2⟩ := at_T46 HR0.out x3_1 p105 q105
     have hw105_2 := hx105_2
     have hw105_1 := hx105_1
     have hw105_0 := hx105_0
     cases e105
     replace hx105_0 := (HB.out.cell (World.block_lt_of_cell? w _ hx105_0)).trans hx105_0
     replace hx105_1 := (HB.out.cell (World.block_lt_of_cell? w _ hx105_1)).trans hx105_1
     replace hx105_2 := (HB.out.cell (World.block_lt_of_cell? w _ hx105_2)).trans hx105_2
     have HR105_2 := Aside0.mk hi105_2
     have HC105_2 := Aside0.mk hl105_2
     clear hi105_2 hl105_2
     replace p105 := eq_true p105
     replace q105 := eq_true q105
     have p107 : 0 ≤ (x3_1 : Int) := of_decide_eq_true (by first | (with_reducible assumption) | assumption)
     have q107 : x3_1 < (l0.length : Int) := of_decide_eq_true (by first | (with_reducible assumption) | assumption)
     obtain ⟨ad107, A107_2, c107_2, e107, hx107_0, hx107_1, hx107_2, hl107_2, hi107_2⟩ := at_T46 HR0.out x3_1 p107 q107
     have hw107_2 := hx107_2
     have hw107_1 := hx107_1
     have hw107_0 := hx107_0
     obtain rfl : ad105 = ad107 := (by injection e107)
     replace hx107_0 := (HB.out.cell (World.block_lt_of_cell? w _ hx107_0)).trans hx107_0
     replace hx107_1 := (HB.out.cell (World.block_lt_of_cell? w _ hx107_1)).trans hx107_1
     replace hx107_2 := (HB.out.cell (World.block_lt_of_cell? w _ hx107_2)).trans hx107_2
     have HR107_2 := Aside0.mk hi107_2
     have HC107_2 := Aside0.mk hl107_2
     clear hi107_2 hl107_2
     replace p107 := eq_true p107
     replace q107 := eq_true q107
     have ea_ := Option.some.inj (hx105_2.symm.trans hx107_2)
     injection ea_ with ea_ en_ ec_
     subst ea_
     subst ec_
     clear en_
     refine start_ (n := 34) (S := fun w' => w'.cell? (ad105.add ((x3_1).toNat * 3)) = some (.int .i64 ((rd_T46 l0 x3_1).f0)) ∧ w'.cell? ⟨(ad105.add ((x3_1).toNat * 3)).block, (ad105.add ((x3_1).toNat * 3)).off + 1, none⟩ = some (.int .i64 ((rd_T46 l0 x3_1).f1)) ∧ w'.cell? ⟨(ad105.add ((x3_1).toNat * 3)).block, (ad105.add ((x3_1).toNat * 3)).off + 2, none⟩ = some (.slice A105_2 ((rd_T46 l0 x3_1).f2).length c105_2) ∧ w'.cell? (ad105.add ((x3_1).toNat * 3)) = some (.int .i64 ((rd_T46 l0 x3_1).f0)) ∧ w'.cell? ⟨(ad105.add ((x3_1).toNat * 3)).block, (ad105.add ((x3_1).toNat * 3)).off + 1, none⟩ = some (.int .i64 ((rd_T46 l0 x3_1).f1)) ∧ w'.cell? ⟨(ad105.add ((x3_1).toNat * 3)).block, (ad105.add ((x3_1).toNat * 3)).off + 2, none⟩ = some (.slice A105_2 ((rd_T46 l0 x3_1).f2).length c105_2)) (ds := []) (bv 34 0) (by kernel_rfl) rfl rfl ⟨((HB.out.cell (World.block_lt_of_cell? w _ hw105_0)).trans hw105_0), ((HB.out.cell (World.block_lt_of_cell? w _ hw105_1)).trans hw105_1), ((HB.out.cell (World.block_lt_of_cell? w _ hw105_2)).trans hw105_2), ((HB.out.cell (World.block_lt_of_cell? w _ hw107_0)).trans hw107_0), ((HB.out.cell (World.block_lt_of_cell? w _ hw107_1)).trans hw107_1), ((HB.out.cell (World.block_lt_of_cell? w _ hw107_2)).trans hw107_2)⟩ (fun hHeld => ?_); refine with_tabW spec_AreJudges.tab4 spec_AreJudges.bits4 (fun HT_ HW_ => ?_)
     generalize wr.drew = w15 at HB HR105_2 HR107_2 hx105_0 hx105_1 hx105_2 hx107_0 hx107_1 hx107_2 hHeld ⊢
     refine pv_ 34 0 11 1 rfl rfl HT_ ?_; refine pv_ 34 1 12 3 rfl rfl HT_ ?_; refine pv_ 34 2 13 7 rfl rfl HT_ ?_; refine pv_ 34 3 14 15 rfl rfl HT_ ?_
     refine tv_ 34 4 15 31 rfl rfl HT_ HW_ hHeld (by rintro w' ⟨s0, s1, s2, s3, s4, s5⟩; go_simp; with_reducible rfl) ?_
     refine one_ (i := 5) (N := some 16) (bv 34 63) rfl rfl (one_of HT_.out (by kernel_rfl)) (by decide) (fun K hK => ?_)
     refine goes_ Try.func56 (by kernel_rfl) rfl #[.int .i64 ((rd_T46 l0 x3_1).f0), .int .i64 1, .int .i64 99] (by rfl) rfl rfl (by (try simp only [List.map_toArray, List.map_cons, List.map_nil]); first | done | rfl | (simp only [List.length_drop, List.length_take]; rfl)) ?_
     with_reducible refine (spec_l1In.calls ((rd_T46 l0 x3_1).f0) 1 99 true _ A5.out).mono ?_
     rintro e w' ⟨rfl, ⟨nd, rfl⟩⟩
     refine ⟨_, rfl, ?_⟩
     refine hK.out _ _ ⟨((HB.out.cell (World.block_lt_of_cell? w _ hw105_0)).trans hw105_0), ((HB.out.cell (World.block_lt_of_cell? w _ hw105_1)).trans hw105_1), ((HB.out.cell (World.block_lt_of_cell? w _ hw105_2)).trans hw105_2), ((HB.out.cell (World.block_lt_of_cell? w _ hw107_0)).trans hw107_0), ((HB.out.cell (World.block_lt_of_cell? w _ hw107_1)).trans hw107_1), ((HB.out.cell (World.block_lt_of_cell? w _ hw107_2)).trans hw107_2)⟩ (fun hHeld => ?_)
     clear hK K
     refine nm_ 16 ?_
     refine pv_ 34 6 17 127 rfl rfl HT_ ?_; refine pv_ 34 7 18 255 rfl rfl HT_ ?_; refine pv_ 34 8 19 511 rfl rfl HT_ ?_; refine pv_ 34 9 20 1023 rfl rfl HT_ ?_; refine pv_ 34 10 21 2047 rfl rfl HT_ ?_; refine pv_ 34 11 22 4095 rfl rfl HT_ ?_
     refine tv_ 34 12 23 8191 rfl rfl HT_ HW_ hHeld (by rintro w' ⟨s0, s1, s2, s3, s4, s5⟩; go_simp; with_reducible rfl) ?_
     refine one_ (i := 13) (N := some 24) (bv 34 16383) rfl rfl (one_of HT_.out (by kernel_rfl)) (by decide) (fun K hK => ?_)
     refine goes_ Try.func56 (by kernel_rfl) rfl #[.int .i64 ((rd_T46 l0 x3_1).f1), .int .i64 1, .int .i64 99] (by rfl) rfl rfl (by (try simp only [List.map_toArray, List.map_cons, List.map_nil]); first | done | rfl | (simp only [List.length_drop, List.length_take]; rfl)) ?_
     with_reducible refine (spec_l1In.calls ((rd_T46 l0 x3_1).f1) 1 99 false _ A7.out).mono ?_
     rintro e w' ⟨rfl, ⟨nd, rfl⟩⟩
     refine ⟨_, rfl, ?_⟩
     refine hK.out _ _ ⟨((HB.out.cell (World.block_lt_of_cell? w _ hw105_0)).trans hw105_0), ((HB.out.cell (World.block_lt_of_cell? w _ hw105_1)).trans hw105_1), ((HB.out.cell (World.block_lt_of_cell? w _ hw105_2)).trans hw105_2), ((HB.out.cell (World.block_lt_of_cell? w _ hw107_0)).trans hw107_0), ((HB.out.cell (World.block_lt_of_cell? w _ hw107_1)).trans hw107_1), ((HB.out.cell (World.block_lt_of_cell? w _ hw107_2)).trans hw107_2)⟩ (fun hHeld => ?_)
     clear hK K
     refine nm_ 24 ?_
     refine pv_ 34 14 25 32767 rfl rfl HT_ ?_; refine pv_ 34 15 26 65535 rfl rfl HT_ ?_; refine pv_ 34 16 27 131071 rfl rfl HT_ ?_; refine pu_ 34 17 28 262143 rfl rfl HT_ ?_; refine pu_ 34 18 29 524287 rfl rfl HT_ ?_; refine pu_ 34 19 30 1048575 rfl rfl HT_ ?_; refine pu_ 34 20 31 2097151 rfl rfl HT_ ?_; refine pu_ 34 21 32 4194303 rfl rfl HT_ ?_; refine pu_ 34 22 33 8388607 rfl rfl HT_ ?_; refine pu_ 34 23 34 16777215 rfl rfl HT_ ?_; refine pu_ 34 24 35 33554431 rfl rfl HT_ ?_; refine pu_ 34 25 36 67108863 rfl rfl HT_ ?_; refine pu_ 34 26 37 134217727 rfl rfl HT_ ?_; refine pu_ 34 27 38 268435455 rfl rfl HT_ ?_; refine pu_ 34 28 39 536870911 rfl rfl HT_ ?_; refine pu_ 34 29 40 1073741823 rfl rfl HT_ ?_; refine pu_ 34 30 41 2147483647 rfl rfl HT_ ?_; refine pu_ 34 31 42 4294967295 rfl rfl HT_ ?_; refine pu_ 34 32 43 8589934591 rfl rfl HT_ ?_; refine pv_ 34 33 44 17179869183 rfl rfl HT_ ?_
     refine done_ (done_of HT_.out (by kernel_rfl)) ?_
     try go_wp2
     go_meet
     case rel => exact ⟨_, (true), (by first | rfl | (simp; done) | (simp [*]; done)), H', ⟨by have := HK1.out; first | omega | exact Nat.le_refl _⟩, ⟨by repeat (first | (with_reducible first | exact HB.out | apply below_alloc | apply pw_below_drewN | apply below_drew1) | exact HB.out)⟩⟩
    subst c8
    have H1 : (if x3_1 > 0 then (if 0 ≤ (wrap64 (x3_1 - 1)) then (if (wrap64 (x3_1 - 1)) < (l0.length : Int) then (spec_AreJudges.j1 k1 l0 x3_1 (decide (((rd_T46 l0 (wrap64 (x3_1 - 1))).f0) ≥ ((rd_T46 l0 x3_1).f0)))) else (none)) else (none)) else (spec_AreJudges.j1 k1 l0 x3_1 false)) = some r := by rw [if_pos rfl] at H; exact H
    clear H
    have H := H1
    clear H1
    by_cases c9 : x3_1 > 0
    rotate_left
    ·
     rw [if_neg c9] at H
     have c9b0 : decide (0 < x3_1) = false := decide_eq_false c9
     clear c9
     have H' := Aside0.mk H
     clear H
     try go_wp2
     have n0_ := Aside0.mk (below_drew1 HB.out)
     clear HB
     have HB := n0_
     clear n0_
     have p105 : 0 ≤ (x3_1 : Int) := of_decide_eq_true (by first | (with_reducible assumption) | assumption)
     have q105 : x3_1 < (l0.length : Int) := of_decide_eq_true (by first | (with_reducible assumption) | assumption)
     obtain ⟨ad105, A105_2, c105_2, e105, hx105_0, hx105_1, hx105_2, hl105_2, hi105_2⟩ := at_T46 HR0.out x3_1 p105 q105
     have hw105_2 := hx105_2
     have hw105_1 := hx105_1
     have hw105_0 := hx105_0
     cases e105
     replace hx105_0 := (HB.out.cell (World.block_lt_of_cell? w _ hx105_0)).trans hx105_0
     replace hx105_1 := (HB.out.cell (World.block_lt_of_cell? w _ hx105_1)).trans hx105_1
     replace hx105_2 := (HB.out.cell (World.block_lt_of_cell? w _ hx105_2)).trans hx105_2
     have HR105_2 := Aside0.mk hi105_2
     have HC105_2 := Aside0.mk hl105_2
     clear hi105_2 hl105_2
     replace p105 := eq_true p105
     replace q105 := eq_true q105
     have p107 : 0 ≤ (x3_1 : Int) := of_decide_eq_true (by first | (with_reducible assumption) | assumption)
     have q107 : x3_1 < (l0.length : Int) := of_decide_eq_true (by first | (with_reducible assumption) | assumption)
     obtain ⟨ad107, A107_2, c107_2, e107, hx107_0, hx107_1, hx107_2, hl107_2, hi107_2⟩ := at_T46 HR0.out x3_1 p107 q107
     have hw107_2 := hx107_2
     have hw107_1 := hx107_1
     have hw107_0 := hx107_0
     obtain rfl : ad105 = ad107 := (by injection e107)
     replace hx107_0 := (HB.out.cell (World.block_lt_of_cell? w _ hx107_0)).trans hx107_0
     replace hx107_1 := (HB.out.cell (World.block_lt_of_cell? w _ hx107_1)).trans hx107_1
     replace hx107_2 := (HB.out.cell (World.block_lt_of_cell? w _ hx107_2)).trans hx107_2
     have HR107_2 := Aside0.mk hi107_2
     have HC107_2 := Aside0.mk hl107_2
     clear hi107_2 hl107_2
     replace p107 := eq_true p107
     replace q107 := eq_true q107
     have ea_ := Option.some.inj (hx105_2.symm.trans hx107_2)
     injection ea_ with ea_ en_ ec_
     subst ea_
     subst ec_
     clear en_
     refine start_ (n := 34) (S := fun w' => w'.cell? (ad105.add ((x3_1).toNat * 3)) = some (.int .i64 ((rd_T46 l0 x3_1).f0)) ∧ w'.cell? ⟨(ad105.add ((x3_1).toNat * 3)).block, (ad105.add ((x3_1).toNat * 3)).off + 1, none⟩ = some (.int .i64 ((rd_T46 l0 x3_1).f1)) ∧ w'.cell? ⟨(ad105.add ((x3_1).toNat * 3)).block, (ad105.add ((x3_1).toNat * 3)).off + 2, none⟩ = some (.slice A105_2 ((rd_T46 l0 x3_1).f2).length c105_2) ∧ w'.cell? (ad105.add ((x3_1).toNat * 3)) = some (.int .i64 ((rd_T46 l0 x3_1).f0)) ∧ w'.cell? ⟨(ad105.add ((x3_1).toNat * 3)).block, (ad105.add ((x3_1).toNat * 3)).off + 1, none⟩ = some (.int .i64 ((rd_T46 l0 x3_1).f1)) ∧ w'.cell? ⟨(ad105.add ((x3_1).toNat * 3)).block, (ad105.add ((x3_1).toNat * 3)).off + 2, none⟩ = some (.slice A105_2 ((rd_T46 l0 x3_1).f2).length c105_2)) (ds := []) (bv 34 0) (by kernel_rfl) rfl rfl ⟨((HB.out.cell (World.block_lt_of_cell? w _ hw105_0)).trans hw105_0), ((HB.out.cell (World.block_lt_of_cell? w _ hw105_1)).trans hw105_1), ((HB.out.cell (World.block_lt_of_cell? w _ hw105_2)).trans hw105_2), ((HB.out.cell (World.block_lt_of_cell? w _ hw107_0)).trans hw107_0), ((HB.out.cell (World.block_lt_of_cell? w _ hw107_1)).trans hw107_1), ((HB.out.cell (World.block_lt_of_cell? w _ hw107_2)).trans hw107_2)⟩ (fun hHeld => ?_); refine with_tabW spec_AreJudges.tab4 spec_AreJudges.bits4 (fun HT_ HW_ => ?_)
     generalize wr.drew = w14 at HB HR105_2 HR107_2 hx105_0 hx105_1 hx105_2 hx107_0 hx107_1 hx107_2 hHeld ⊢
     refine pv_ 34 0 11 1 rfl rfl HT_ ?_; refine pv_ 34 1 12 3 rfl rfl HT_ ?_; refine pv_ 34 2 13 7 rfl rfl HT_ ?_; refine pv_ 34 3 14 15 rfl rfl HT_ ?_
     refine tv_ 34 4 15 31 rfl rfl HT_ HW_ hHeld (by rintro w' ⟨s0, s1, s2, s3, s4, s5⟩; go_simp; with_reducible rfl) ?_
     refine one_ (i := 5) (N := some 16) (bv 34 63) rfl rfl (one_of HT_.out (by kernel_rfl)) (by decide) (fun K hK => ?_)
     refine goes_ Try.func56 (by kernel_rfl) rfl #[.int .i64 ((rd_T46 l0 x3_1).f0), .int .i64 1, .int .i64 99] (by rfl) rfl rfl (by (try simp only [List.map_toArray, List.map_cons, List.map_nil]); first | done | rfl | (simp only [List.length_drop, List.length_take]; rfl)) ?_
     with_reducible refine (spec_l1In.calls ((rd_T46 l0 x3_1).f0) 1 99 true _ A5.out).mono ?_
     rintro e w' ⟨rfl, ⟨nd, rfl⟩⟩
     refine ⟨_, rfl, ?_⟩
     refine hK.out _ _ ⟨((HB.out.cell (World.block_lt_of_cell? w _ hw105_0)).trans hw105_0), ((HB.out.cell (World.block_lt_of_cell? w _ hw105_1)).trans hw105_1), ((HB.out.cell (World.block_lt_of_cell? w _ hw105_2)).trans hw105_2), ((HB.out.cell (World.block_lt_of_cell? w _ hw107_0)).trans hw107_0), ((HB.out.cell (World.block_lt_of_cell? w _ hw107_1)).trans hw107_1), ((HB.out.cell (World.block_lt_of_cell? w _ hw107_2)).trans hw107_2)⟩ (fun hHeld => ?_)
     clear hK K
     refine nm_ 16 ?_
     refine pv_ 34 6 17 127 rfl rfl HT_ ?_; refine pv_ 34 7 18 255 rfl rfl HT_ ?_; refine pv_ 34 8 19 511 rfl rfl HT_ ?_; refine pv_ 34 9 20 1023 rfl rfl HT_ ?_; refine pv_ 34 10 21 2047 rfl rfl HT_ ?_; refine pv_ 34 11 22 4095 rfl rfl HT_ ?_
     refine tv_ 34 12 23 8191 rfl rfl HT_ HW_ hHeld (by rintro w' ⟨s0, s1, s2, s3, s4, s5⟩; go_simp; with_reducible rfl) ?_
     refine one_ (i := 13) (N := some 24) (bv 34 16383) rfl rfl (one_of HT_.out (by kernel_rfl)) (by decide) (fun K hK => ?_)
     refine goes_ Try.func56 (by kernel_rfl) rfl #[.int .i64 ((rd_T46 l0 x3_1).f1), .int .i64 1, .int .i64 99] (by rfl) rfl rfl (by (try simp only [List.map_toArray, List.map_cons, List.map_nil]); first | done | rfl | (simp only [List.length_drop, List.length_take]; rfl)) ?_
     with_reducible refine (spec_l1In.calls ((rd_T46 l0 x3_1).f1) 1 99 true _ A7.out).mono ?_
     rintro e w' ⟨rfl, ⟨nd, rfl⟩⟩
     refine ⟨_, rfl, ?_⟩
     refine hK.out _ _ ⟨((HB.out.cell (World.block_lt_of_cell? w _ hw105_0)).trans hw105_0), ((HB.out.cell (World.block_lt_of_cell? w _ hw105_1)).trans hw105_1), ((HB.out.cell (World.block_lt_of_cell? w _ hw105_2)).trans hw105_2), ((HB.out.cell (World.block_lt_of_cell? w _ hw107_0)).trans hw107_0), ((HB.out.cell (World.block_lt_of_cell? w _ hw107_1)).trans hw107_1), ((HB.out.cell (World.block_lt_of_cell? w _ hw107_2)).trans hw107_2)⟩ (fun hHeld => ?_)
     clear hK K
     refine nm_ 24 ?_
     refine pv_ 34 14 25 32767 rfl rfl HT_ ?_; refine pv_ 34 15 26 65535 rfl rfl HT_ ?_; refine pv_ 34 16 27 131071 rfl rfl HT_ ?_; refine pv_ 34 17 28 262143 rfl rfl HT_ ?_; refine pv_ 34 18 29 524287 rfl rfl HT_ ?_; refine pv_ 34 19 30 1048575 rfl rfl HT_ ?_; refine pu_ 34 20 31 2097151 rfl rfl HT_ ?_; refine pu_ 34 21 32 4194303 rfl rfl HT_ ?_; refine pu_ 34 22 33 8388607 rfl rfl HT_ ?_; refine pu_ 34 23 34 16777215 rfl rfl HT_ ?_; refine pu_ 34 24 35 33554431 rfl rfl HT_ ?_; refine pu_ 34 25 36 67108863 rfl rfl HT_ ?_; refine pu_ 34 26 37 134217727 rfl rfl HT_ ?_; refine pu_ 34 27 38 268435455 rfl rfl HT_ ?_; refine pu_ 34 28 39 536870911 rfl rfl HT_ ?_; refine pu_ 34 29 40 1073741823 rfl rfl HT_ ?_; refine pu_ 34 30 41 2147483647 rfl rfl HT_ ?_; refine pu_ 34 31 42 4294967295 rfl rfl HT_ ?_; refine pv_ 34 32 43 8589934591 rfl rfl HT_ ?_; refine pv_ 34 33 44 17179869183 rfl rfl HT_ ?_
     refine done_ (done_of HT_.out (by kernel_rfl)) ?_
     try go_wp2
     go_meet
     case rel => exact ⟨_, (false), (by first | rfl | (simp; done) | (simp [*]; done)), H', ⟨by have := HK1.out; first | omega | exact Nat.le_refl _⟩, ⟨by repeat (first | (with_reducible first | exact HB.out | apply below_alloc | apply pw_below_drewN | apply below_drew1) | exact HB.out)⟩⟩
    rw [if_pos c9] at H
    have c9b0 : decide (0 < x3_1) = true := decide_eq_true c9
    clear c9
    obtain ⟨ji10, hji10⟩ : ∃ j_ : Int, (wrap64 (x3_1 - 1)) = j_ := ⟨_, rfl⟩
    replace H : (if 0 ≤ (ji10) then (if (ji10) < (l0.length : Int) then (spec_AreJudges.j1 k1 l0 x3_1 (decide (((rd_T46 l0 (ji10)).f0) ≥ ((rd_T46 l0 x3_1).f0)))) else (none)) else (none)) = some r := by first | (rw [hji10] at H; exact H) | (simp only [hji10] at H ⊢; exact H)
    (try rw [hji10] at A5)
    (try rw [hji10] at A7)
    have hji10w : (IntKind.i64.wrap (x3_1 - 1)) = ji10 := (i64_w _).trans hji10
    by_cases c11 : 0 ≤ (ji10)
    rotate_left
    ·
     rw [if_neg c11] at H
     exact absurd H (by simp)
    rw [if_pos c11] at H
    have c11b0 : decide (0 ≤ (ji10)) = true := decide_eq_true c11
    clear c11
    by_cases c12 : (ji10) < (l0.length : Int)
    rotate_left
    ·
     rw [if_neg c12] at H
     exact absurd H (by simp)
    rw [if_pos c12] at H
    have c12b0 : decide ((ji10) < (l0.length : Int)) = true := decide_eq_true c12
    clear c12
    have H' := Aside0.mk H
    clear H
    try go_wp2
    have n0_ := Aside0.mk (below_drew1 HB.out)
    clear HB
    have HB := n0_
    clear n0_
    have p105 : 0 ≤ (x3_1 : Int) := of_decide_eq_true (by first | (with_reducible assumption) | assumption)
    have q105 : x3_1 < (l0.length : Int) := of_decide_eq_true (by first | (with_reducible assumption) | assumption)
    obtain ⟨ad105, A105_2, c105_2, e105, hx105_0, hx105_1, hx105_2, hl105_2, hi105_2⟩ := at_T46 HR0.out x3_1 p105 q105
    have hw105_2 := hx105_2
    have hw105_1 := hx105_1
    have hw105_0 := hx105_0
    cases e105
    replace hx105_0 := (HB.out.cell (World.block_lt_of_cell? w _ hx105_0)).trans hx105_0
    replace hx105_1 := (HB.out.cell (World.block_lt_of_cell? w _ hx105_1)).trans hx105_1
    replace hx105_2 := (HB.out.cell (World.block_lt_of_cell? w _ hx105_2)).trans hx105_2
    have HR105_2 := Aside0.mk hi105_2
    have HC105_2 := Aside0.mk hl105_2
    clear hi105_2 hl105_2
    replace p105 := eq_true p105
    replace q105 := eq_true q105
    have p107 : 0 ≤ (x3_1 : Int) := of_decide_eq_true (by first | (with_reducible assumption) | assumption)
    have q107 : x3_1 < (l0.length : Int) := of_decide_eq_true (by first | (with_reducible assumption) | assumption)
    obtain ⟨ad107, A107_2, c107_2, e107, hx107_0, hx107_1, hx107_2, hl107_2, hi107_2⟩ := at_T46 HR0.out x3_1 p107 q107
    have hw107_2 := hx107_2
    have hw107_1 := hx107_1
    have hw107_0 := hx107_0
    obtain rfl : ad105 = ad107 := (by injection e107)
    replace hx107_0 := (HB.out.cell (World.block_lt_of_cell? w _ hx107_0)).trans hx107_0
    replace hx107_1 := (HB.out.cell (World.block_lt_of_cell? w _ hx107_1)).trans hx107_1
    replace hx107_2 := (HB.out.cell (World.block_lt_of_cell? w _ hx107_2)).trans hx107_2
    have HR107_2 := Aside0.mk hi107_2
    have HC107_2 := Aside0.mk hl107_2
    clear hi107_2 hl107_2
    replace p107 := eq_true p107
    replace q107 := eq_true q107
    have ea_ := Option.some.inj (hx105_2.symm.trans hx107_2)
    injection ea_ with ea_ en_ ec_
    subst ea_
    subst ec_
    clear en_
    have p109 : 0 ≤ ((ji10) : Int) := of_decide_eq_true (by first | (with_reducible assumption) | assumption)
    have q109 : (ji10) < (l0.length : Int) := of_decide_eq_true (by first | (with_reducible assumption) | assumption)
    obtain ⟨ad109, A109_2, c109_2, e109, hx109_0, hx109_1, hx109_2, hl109_2, hi109_2⟩ := at_T46 HR0.out (ji10) p109 q109
    have hw109_2 := hx109_2
    have hw109_1 := hx109_1
    have hw109_0 := hx109_0
    obtain rfl : ad105 = ad109 := (by injection e109)
    replace hx109_0 := (HB.out.cell (World.block_lt_of_cell? w _ hx109_0)).trans hx109_0
    replace hx109_1 := (HB.out.cell (World.block_lt_of_cell? w _ hx109_1)).trans hx109_1
    replace hx109_2 := (HB.out.cell (World.block_lt_of_cell? w _ hx109_2)).trans hx109_2
    have HR109_2 := Aside0.mk hi109_2
    have HC109_2 := Aside0.mk hl109_2
    clear hi109_2 hl109_2
    replace p109 := eq_true p109
    replace q109 := eq_true q109
    have p110 : 0 ≤ (x3_1 : Int) := of_decide_eq_true (by first | (with_reducible assumption) | assumption)
    have q110 : x3_1 < (l0.length : Int) := of_decide_eq_true (by first | (with_reducible assumption) | assumption)
    obtain ⟨ad110, A110_2, c110_2, e110, hx110_0, hx110_1, hx110_2, hl110_2, hi110_2⟩ := at_T46 HR0.out x3_1 p110 q110
    have hw110_2 := hx110_2
    have hw110_1 := hx110_1
    have hw110_0 := hx110_0
    obtain rfl : ad105 = ad110 := (by injection e110)
    replace hx110_0 := (HB.out.cell (World.block_lt_of_cell? w _ hx110_0)).trans hx110_0
    replace hx110_1 := (HB.out.cell (World.block_lt_of_cell? w _ hx110_1)).trans hx110_1
    replace hx110_2 := (HB.out.cell (World.block_lt_of_cell? w _ hx110_2)).trans hx110_2
    have HR110_2 := Aside0.mk hi110_2
    have HC110_2 := Aside0.mk hl110_2
    clear hi110_2 hl110_2
    replace p110 := eq_true p110
    replace q110 := eq_true q110
    have ea_ := Option.some.inj (hx105_2.symm.trans hx110_2)
    injection ea_ with ea_ en_ ec_
    subst ea_
    subst ec_
    clear en_
    refine start_ (n := 34) (S := fun w' => w'.cell? (ad105.add ((x3_1).toNat * 3)) = some (.int .i64 ((rd_T46 l0 x3_1).f0)) ∧ w'.cell? ⟨(ad105.add ((x3_1).toNat * 3)).block, (ad105.add ((x3_1).toNat * 3)).off + 1, none⟩ = some (.int .i64 ((rd_T46 l0 x3_1).f1)) ∧ w'.cell? ⟨(ad105.add ((x3_1).toNat * 3)).block, (ad105.add ((x3_1).toNat * 3)).off + 2, none⟩ = some (.slice A105_2 ((rd_T46 l0 x3_1).f2).length c105_2) ∧ w'.cell? (ad105.add ((x3_1).toNat * 3)) = some (.int .i64 ((rd_T46 l0 x3_1).f0)) ∧ w'.cell? ⟨(ad105.add ((x3_1).toNat * 3)).block, (ad105.add ((x3_1).toNat * 3)).off + 1, none⟩ = some (.int .i64 ((rd_T46 l0 x3_1).f1)) ∧ w'.cell? ⟨(ad105.add ((x3_1).toNat * 3)).block, (ad105.add ((x3_1).toNat * 3)).off + 2, none⟩ = some (.slice A105_2 ((rd_T46 l0 x3_1).f2).length c105_2) ∧ w'.cell? (ad105.add (((ji10)).toNat * 3)) = some (.int .i64 ((rd_T46 l0 (ji10)).f0)) ∧ w'.cell? ⟨(ad105.add (((ji10)).toNat * 3)).block, (ad105.add (((ji10)).toNat * 3)).off + 1, none⟩ = some (.int .i64 ((rd_T46 l0 (ji10)).f1)) ∧ w'.cell? ⟨(ad105.add (((ji10)).toNat * 3)).block, (ad105.add (((ji10)).toNat * 3)).off + 2, none⟩ = some (.slice A109_2 ((rd_T46 l0 (ji10)).f2).length c109_2) ∧ w'.cell? (ad105.add ((x3_1).toNat * 3)) = some (.int .i64 ((rd_T46 l0 x3_1).f0)) ∧ w'.cell? ⟨(ad105.add ((x3_1).toNat * 3)).block, (ad105.add ((x3_1).toNat * 3)).off + 1, none⟩ = some (.int .i64 ((rd_T46 l0 x3_1).f1)) ∧ w'.cell? ⟨(ad105.add ((x3_1).toNat * 3)).block, (ad105.add ((x3_1).toNat * 3)).off + 2, none⟩ = some (.slice A105_2 ((rd_T46 l0 x3_1).f2).length c105_2)) (ds := []) (bv 34 0) (by kernel_rfl) rfl rfl ⟨((HB.out.cell (World.block_lt_of_cell? w _ hw105_0)).trans hw105_0), ((HB.out.cell (World.block_lt_of_cell? w _ hw105_1)).trans hw105_1), ((HB.out.cell (World.block_lt_of_cell? w _ hw105_2)).trans hw105_2), ((HB.out.cell (World.block_lt_of_cell? w _ hw107_0)).trans hw107_0), ((HB.out.cell (World.block_lt_of_cell? w _ hw107_1)).trans hw107_1), ((HB.out.cell (World.block_lt_of_cell? w _ hw107_2)).trans hw107_2), ((HB.out.cell (World.block_lt_of_cell? w _ hw109_0)).trans hw109_0), ((HB.out.cell (World.block_lt_of_cell? w _ hw109_1)).trans hw109_1), ((HB.out.cell (World.block_lt_of_cell? w _ hw109_2)).trans hw109_2), ((HB.out.cell (World.block_lt_of_cell? w _ hw110_0)).trans hw110_0), ((HB.out.cell (World.block_lt_of_cell? w _ hw110_1)).trans hw110_1), ((HB.out.cell (World.block_lt_of_cell? w _ hw110_2)).trans hw110_2)⟩ (fun hHeld => ?_); refine with_tabW spec_AreJudges.tab4 spec_AreJudges.bits4 (fun HT_ HW_ => ?_)
    generalize wr.drew = w13 at HB HR105_2 HR107_2 HR109_2 HR110_2 hx105_0 hx105_1 hx105_2 hx107_0 hx107_1 hx107_2 hx109_0 hx109_1 hx109_2 hx110_0 hx110_1 hx110_2 hHeld ⊢
    refine pv_ 34 0 11 1 rfl rfl HT_ ?_; refine pv_ 34 1 12 3 rfl rfl HT_ ?_; refine pv_ 34 2 13 7 rfl rfl HT_ ?_; refine pv_ 34 3 14 15 rfl rfl HT_ ?_
    refine tv_ 34 4 15 31 rfl rfl HT_ HW_ hHeld (by rintro w' ⟨s0, s1, s2, s3, s4, s5, s6, s7, s8, s9, s10, s11⟩; go_simp; with_reducible rfl) ?_
    refine one_ (i := 5) (N := some 16) (bv 34 63) rfl rfl (one_of HT_.out (by kernel_rfl)) (by decide) (fun K hK => ?_)
    refine goes_ Try.func56 (by kernel_rfl) rfl #[.int .i64 ((rd_T46 l0 x3_1).f0), .int .i64 1, .int .i64 99] (by rfl) rfl rfl (by (try simp only [List.map_toArray, List.map_cons, List.map_nil]); first | done | rfl | (simp only [List.length_drop, List.length_take]; rfl)) ?_
    with_reducible refine (spec_l1In.calls ((rd_T46 l0 x3_1).f0) 1 99 true _ A5.out).mono ?_
    rintro e w' ⟨rfl, ⟨nd, rfl⟩⟩
    refine ⟨_, rfl, ?_⟩
    refine hK.out _ _ ⟨((HB.out.cell (World.block_lt_of_cell? w _ hw105_0)).trans hw105_0), ((HB.out.cell (World.block_lt_of_cell? w _ hw105_1)).trans hw105_1), ((HB.out.cell (World.block_lt_of_cell? w _ hw105_2)).trans hw105_2), ((HB.out.cell (World.block_lt_of_cell? w _ hw107_0)).trans hw107_0), ((HB.out.cell (World.block_lt_of_cell? w _ hw107_1)).trans hw107_1), ((HB.out.cell (World.block_lt_of_cell? w _ hw107_2)).trans hw107_2), ((HB.out.cell (World.block_lt_of_cell? w _ hw109_0)).trans hw109_0), ((HB.out.cell (World.block_lt_of_cell? w _ hw109_1)).trans hw109_1), ((HB.out.cell (World.block_lt_of_cell? w _ hw109_2)).trans hw109_2), ((HB.out.cell (World.block_lt_of_cell? w _ hw110_0)).trans hw110_0), ((HB.out.cell (World.block_lt_of_cell? w _ hw110_1)).trans hw110_1), ((HB.out.cell (World.block_lt_of_cell? w _ hw110_2)).trans hw110_2)⟩ (fun hHeld => ?_)
    clear hK K
    refine nm_ 16 ?_
    refine pv_ 34 6 17 127 rfl rfl HT_ ?_; refine pv_ 34 7 18 255 rfl rfl HT_ ?_; refine pv_ 34 8 19 511 rfl rfl HT_ ?_; refine pv_ 34 9 20 1023 rfl rfl HT_ ?_; refine pv_ 34 10 21 2047 rfl rfl HT_ ?_; refine pv_ 34 11 22 4095 rfl rfl HT_ ?_
    refine tv_ 34 12 23 8191 rfl rfl HT_ HW_ hHeld (by rintro w' ⟨s0, s1, s2, s3, s4, s5, s6, s7, s8, s9, s10, s11⟩; go_simp; with_reducible rfl) ?_
    refine one_ (i := 13) (N := some 24) (bv 34 16383) rfl rfl (one_of HT_.out (by kernel_rfl)) (by decide) (fun K hK => ?_)
    refine goes_ Try.func56 (by kernel_rfl) rfl #[.int .i64 ((rd_T46 l0 x3_1).f1), .int .i64 1, .int .i64 99] (by rfl) rfl rfl (by (try simp only [List.map_toArray, List.map_cons, List.map_nil]); first | done | rfl | (simp only [List.length_drop, List.length_take]; rfl)) ?_
    with_reducible refine (spec_l1In.calls ((rd_T46 l0 x3_1).f1) 1 99 true _ A7.out).mono ?_
    rintro e w' ⟨rfl, ⟨nd, rfl⟩⟩
    refine ⟨_, rfl, ?_⟩
    refine hK.out _ _ ⟨((HB.out.cell (World.block_lt_of_cell? w _ hw105_0)).trans hw105_0), ((HB.out.cell (World.block_lt_of_cell? w _ hw105_1)).trans hw105_1), ((HB.out.cell (World.block_lt_of_cell? w _ hw105_2)).trans hw105_2), ((HB.out.cell (World.block_lt_of_cell? w _ hw107_0)).trans hw107_0), ((HB.out.cell (World.block_lt_of_cell? w _ hw107_1)).trans hw107_1), ((HB.out.cell (World.block_lt_of_cell? w _ hw107_2)).trans hw107_2), ((HB.out.cell (World.block_lt_of_cell? w _ hw109_0)).trans hw109_0), ((HB.out.cell (World.block_lt_of_cell? w _ hw109_1)).trans hw109_1), ((HB.out.cell (World.block_lt_of_cell? w _ hw109_2)).trans hw109_2), ((HB.out.cell (World.block_lt_of_cell? w _ hw110_0)).trans hw110_0), ((HB.out.cell (World.block_lt_of_cell? w _ hw110_1)).trans hw110_1), ((HB.out.cell (World.block_lt_of_cell? w _ hw110_2)).trans hw110_2)⟩ (fun hHeld => ?_)
    clear hK K
    refine nm_ 24 ?_
    refine pv_ 34 14 25 32767 rfl rfl HT_ ?_; refine pv_ 34 15 26 65535 rfl rfl HT_ ?_; refine pv_ 34 16 27 131071 rfl rfl HT_ ?_; refine pv_ 34 17 28 262143 rfl rfl HT_ ?_; refine pv_ 34 18 29 524287 rfl rfl HT_ ?_; refine pv_ 34 19 30 1048575 rfl rfl HT_ ?_; refine pv_ 34 20 31 2097151 rfl rfl HT_ ?_; refine pv_ 34 21 32 4194303 rfl rfl HT_ ?_; refine pv_ 34 22 33 8388607 rfl rfl HT_ ?_; refine pv_ 34 23 34 16777215 rfl rfl HT_ ?_; refine pv_ 34 24 35 33554431 rfl rfl HT_ ?_; refine pv_ 34 26 37 100663295 rfl rfl HT_ ?_; refine pv_ 34 27 38 234881023 rfl rfl HT_ ?_; refine pv_ 34 28 39 503316479 rfl rfl HT_ ?_; refine pv_ 34 29 40 1040187391 rfl rfl HT_ ?_
    refine tv_ 34 25 36 1073741823 rfl rfl HT_ HW_ hHeld (by rintro w' ⟨s0, s1, s2, s3, s4, s5, s6, s7, s8, s9, s10, s11⟩; go_simp; with_reducible rfl) ?_
    refine tv_ 34 30 41 2147483647 rfl rfl HT_ HW_ hHeld (by rintro w' ⟨s0, s1, s2, s3, s4, s5, s6, s7, s8, s9, s10, s11⟩; go_simp; with_reducible rfl) ?_
    refine pv_ 34 31 42 4294967295 rfl rfl HT_ ?_; refine pv_ 34 32 43 8589934591 rfl rfl HT_ ?_; refine pv_ 34 33 44 17179869183 rfl rfl HT_ ?_
    refine done_ (done_of HT_.out (by kernel_rfl)) ?_
    try go_wp2
    go_meet
    case rel => exact ⟨_, (decide (((rd_T46 l0 (ji10)).f0) ≥ ((rd_T46 l0 x3_1).f0))), (by first | rfl | (simp; done) | (simp only [← hji10] <;> (first | rfl | simp)) | (simp [*]; done)), H', ⟨by have := HK1.out; first | omega | exact Nat.le_refl _⟩, ⟨by repeat (first | (with_reducible first | exact HB.out | apply below_alloc | apply pw_below_drewN | apply below_drew1) | exact HB.out)⟩⟩
   case rest =>
    clear HC3
    try clear c1
    try clear p1
    try clear q1
    try clear hx1
    try clear p2
    try clear c4
    try clear c5
    try clear c6
    try clear c8
    try clear c10
    try clear p10
    try clear q10
    try clear hx10
    try clear hx105_0
    try clear hx105_1
    try clear hx105_2
    try clear hx107_0
    try clear hx107_1
    try clear hx107_2
    try clear p105
    try clear p107
    try clear q105
    try clear q107
    obtain ⟨kq, x44_2, rfl, HA, HJ2, HB⟩ := hcut
    cases kq with
    | zero => exact absurd HA.out (by simp [spec_AreJudges.j1])
    | succ kj2 =>
     have H := HA.out
     clear HA
     simp only [spec_AreJudges.j1] at H
     by_cases c17 : x44_2 = true
     rotate_left
     ·
      replace c17 := Bool.eq_false_iff.mpr c17
      subst c17
      have H1 : (spec_AreJudges.l1 kj2 l0 x3_1 0) = some r := by rw [if_neg (show ¬ (false = true) by decide)] at H; exact H
      clear H
      have H := H1
      clear H1
      have H' := Aside0.mk H
      clear H
      go_wp2
      go_loopg [4] kj2 (fun kq v4 w' => ∃ (x4_3 : Int), v4 = .int .i64 x4_3 ∧ Aside0 (spec_AreJudges.l1 kq l0 x3_1 x4_3 = some r) ∧ Aside0 (kq ≤ kj2) ∧ Aside0 (Below w.heap.size w w'))
      case atStart => exact ⟨(0), (by first | rfl | (simp; done) | (simp [*]; done)), H', ⟨Nat.le_refl _⟩, ⟨by repeat (first | (with_reducible first | exact HB.out | apply below_alloc | apply pw_below_drewN | apply below_drew1) | exact HB.out)⟩⟩
      case round =>
       clear H'
       try clear c1
       try clear p1
       try clear q1
       try clear hx1
       try clear p2
       try clear c4
       try clear c5
       try clear c6
       try clear c8
       try clear c10
       try clear p10
       try clear q10
       try clear hx10
       try clear c17
       try clear hx105_0
       try clear hx105_1
       try clear hx105_2
       try clear hx107_0
       try clear hx107_1
       try clear hx107_2
       try clear p1
       try clear p10
       try clear p105
       try clear p107
       try clear p2
       try clear q1
       try clear q10
       try clear q105
       try clear q107
       obtain ⟨x4_3, rfl, HA, HK3, HB⟩ := hrel
       cases gk with
       | zero => exact absurd HA.out (by simp [spec_AreJudges.l1])
       | succ k3 =>
        have H := HA.out
        clear HA
        simp only [spec_AreJudges.l1] at H
        by_cases c18 : 0 ≤ x3_1
        rotate_left
        ·
         rw [if_neg c18] at H
         exact absurd H (by simp)
        rw [if_pos c18] at H
        have c18b0 : decide (0 ≤ x3_1) = true := decide_eq_true c18
        clear c18
        by_cases c19 : x3_1 < (l0.length : Int)
        rotate_left
        ·
         rw [if_neg c19] at H
         exact absurd H (by simp)
        rw [if_pos c19] at H
        have c19b0 : decide (x3_1 < (l0.length : Int)) = true := decide_eq_true c19
        clear c19
        by_cases c20 : x4_3 < (((rd_T46 l0 x3_1).f2).length : Int)
        rotate_left
        ·
         rw [if_neg c20] at H
         have c20b0 : decide (x4_3 < (((rd_T46 l0 x3_1).f2).length : Int)) = false := decide_eq_false c20
         clear c20
         have H' := Aside0.mk H
         clear H
         have p111 : 0 ≤ (x3_1 : Int) := of_decide_eq_true (by first | (with_reducible assumption) | assumption)
         have q111 : x3_1 < (l0.length : Int) := of_decide_eq_true (by first | (with_reducible assumption) | assumption)
         obtain ⟨ad111, A111_2, c111_2, e111, hx111_0, hx111_1, hx111_2, hl111_2, hi111_2⟩ := at_T46 HR0.out x3_1 p111 q111
         cases e111
         replace hx111_0 := (HB.out.cell (World.block_lt_of_cell? w _ hx111_0)).trans hx111_0
         replace hx111_1 := (HB.out.cell (World.block_lt_of_cell? w _ hx111_1)).trans hx111_1
         replace hx111_2 := (HB.out.cell (World.block_lt_of_cell? w _ hx111_2)).trans hx111_2
         have HR111_2 := Aside0.mk hi111_2
         have HC111_2 := Aside0.mk hl111_2
         clear hi111_2 hl111_2
         replace p111 := eq_true p111
         replace q111 := eq_true q111
         go_wp2
         go_roundg k3
         case measure => have := HK1.out; have := HJ2.out; have := HK3.out; omega
         case rel => exact ⟨(wrap64 (x3_1 + 1)), (by first | rfl | (simp; done) | (simp [*]; done)), H', ⟨by have := HK1.out; have := HJ2.out; have := HK3.out; omega⟩, ⟨by repeat (first | (with_reducible first | exact HB.out | apply below_alloc | apply pw_below_drewN | apply below_drew1) | exact HB.out)⟩⟩
        rw [if_pos c20] at H
        have c20b0 : decide (x4_3 < (((rd_T46 l0 x3_1).f2).length : Int)) = true := decide_eq_true c20
        clear c20
        by_cases c21 : 0 ≤ x4_3
        rotate_left
        ·
         rw [if_neg c21] at H
         exact absurd H (by simp)
        rw [if_pos c21] at H
        have c21b0 : decide (0 ≤ x4_3) = true := decide_eq_true c21
        clear c21
        replace H := Option.bind_eq_some_iff.mp H
        obtain ⟨t114, A220, H⟩ := H
        replace H : (if t114 = true then (if x4_3 > 0 then (if 0 ≤ (wrap64 (x4_3 - 1)) then (if (wrap64 (x4_3 - 1)) < (((rd_T46 l0 x3_1).f2).length : Int) then (if (rd ((rd_T46 l0 x3_1).f2) (wrap64 (x4_3 - 1))) ≥ (rd ((rd_T46 l0 x3_1).f2) x4_3) then (some false) else (spec_AreJudges.l1 k3 l0 x3_1 (wrap64 (x4_3 + 1)))) else (none)) else (none)) else (spec_AreJudges.l1 k3 l0 x3_1 (wrap64 (x4_3 + 1)))) else (some false)) = some r := H
        have A22 := Aside0.mk A220
        clear A220
        by_cases c23 : t114 = true
        rotate_left
        ·
         replace c23 := Bool.eq_false_iff.mpr c23
         subst c23
         have H1 : (some false) = some r := by rw [if_neg (show ¬ (false = true) by decide)] at H; exact H
         clear H
         have H := H1
         clear H1
         obtain rfl := Option.some.inj H
         have p111 : 0 ≤ (x3_1 : Int) := of_decide_eq_true (by first | (with_reducible assumption) | assumption)
         have q111 : x3_1 < (l0.length : Int) := of_decide_eq_true (by first | (with_reducible assumption) | assumption)
         obtain ⟨ad111, A111_2, c111_2, e111, hx111_0, hx111_1, hx111_2, hl111_2, hi111_2⟩ := at_T46 HR0.out x3_1 p111 q111
         cases e111
         replace hx111_0 := (HB.out.cell (World.block_lt_of_cell? w _ hx111_0)).trans hx111_0
         replace hx111_1 := (HB.out.cell (World.block_lt_of_cell? w _ hx111_1)).trans hx111_1
         replace hx111_2 := (HB.out.cell (World.block_lt_of_cell? w _ hx111_2)).trans hx111_2
         have HR111_2 := Aside0.mk hi111_2
         have HC111_2 := Aside0.mk hl111_2
         clear hi111_2 hl111_2
         replace p111 := eq_true p111
         replace q111 := eq_true q111
         try go_wp2
         have n0_ := Aside0.mk (below_drew1 HB.out)
         clear HB
         have HB := n0_
         clear n0_
         have p112 : 0 ≤ (x3_1 : Int) := of_decide_eq_true (by first | (with_reducible assumption) | assumption)
         have q112 : x3_1 < (l0.length : Int) := of_decide_eq_true (by first | (with_reducible assumption) | assumption)
         obtain ⟨ad112, A112_2, c112_2, e112, hx112_0, hx112_1, hx112_2, hl112_2, hi112_2⟩ := at_T46 HR0.out x3_1 p112 q112
         have hw112_2 := hx112_2
         have hw112_1 := hx112_1
         have hw112_0 := hx112_0
         obtain rfl : ad111 = ad112 := (by injection e112)
         replace hx112_0 := (HB.out.cell (World.block_lt_of_cell? w _ hx112_0)).trans hx112_0
         replace hx112_1 := (HB.out.cell (World.block_lt_of_cell? w _ hx112_1)).trans hx112_1
         replace hx112_2 := (HB.out.cell (World.block_lt_of_cell? w _ hx112_2)).trans hx112_2
         have HR112_2 := Aside0.mk hi112_2
         have HC112_2 := Aside0.mk hl112_2
         clear hi112_2 hl112_2
         replace p112 := eq_true p112
         replace q112 := eq_true q112
         have p113 : 0 ≤ (x4_3 : Int) := of_decide_eq_true (by first | (with_reducible assumption) | assumption)
         have q113 : x4_3 < (((rd_T46 l0 x3_1).f2).length : Int) := of_decide_eq_true (by first | (with_reducible assumption) | assumption)
         obtain ⟨ad113, e113, hx113_0⟩ := Kd.at_int HR112_2.out x4_3 p113 q113
         have hw113_0 := hx113_0
         cases e113
         replace hx113_0 := (HB.out.cell (World.block_lt_of_cell? w _ hx113_0)).trans hx113_0
         replace p113 := eq_true p113
         replace q113 := eq_true q113
         refine start_ (n := 34) (S := fun w' => w'.cell? (ad111.add ((x3_1).toNat * 3)) = some (.int .i64 ((rd_T46 l0 x3_1).f0)) ∧ w'.cell? ⟨(ad111.add ((x3_1).toNat * 3)).block, (ad111.add ((x3_1).toNat * 3)).off + 1, none⟩ = some (.int .i64 ((rd_T46 l0 x3_1).f1)) ∧ w'.cell? ⟨(ad111.add ((x3_1).toNat * 3)).block, (ad111.add ((x3_1).toNat * 3)).off + 2, none⟩ = some (.slice (some ad113) ((rd_T46 l0 x3_1).f2).length c112_2) ∧ w'.cell? (ad113.add (x4_3).toNat) = some (.int .i64 (rd ((rd_T46 l0 x3_1).f2) x4_3))) (ds := []) (bv 34 0) (by kernel_rfl) rfl rfl ⟨((HB.out.cell (World.block_lt_of_cell? w _ hw112_0)).trans hw112_0), ((HB.out.cell (World.block_lt_of_cell? w _ hw112_1)).trans hw112_1), ((HB.out.cell (World.block_lt_of_cell? w _ hw112_2)).trans hw112_2), ((HB.out.cell (World.block_lt_of_cell? w _ hw113_0)).trans hw113_0)⟩ (fun hHeld => ?_); refine with_tabW spec_AreJudges.tab9 spec_AreJudges.bits9 (fun HT_ HW_ => ?_)
         generalize wr.drew = w32 at HB HR112_2 hx112_0 hx112_1 hx112_2 hx113_0 hHeld ⊢
         refine pv_ 34 0 55 1 rfl rfl HT_ ?_; refine pv_ 34 1 56 3 rfl rfl HT_ ?_; refine pv_ 34 2 57 7 rfl rfl HT_ ?_; refine pv_ 34 3 58 15 rfl rfl HT_ ?_; refine pv_ 34 5 60 47 rfl rfl HT_ ?_
         refine tv_ 34 4 59 63 rfl rfl HT_ HW_ hHeld (by rintro w' ⟨s0, s1, s2, s3⟩; go_simp; with_reducible rfl) ?_
         refine pv_ 34 6 61 127 rfl rfl HT_ ?_
         refine tv_ 34 7 62 255 rfl rfl HT_ HW_ hHeld (by rintro w' ⟨s0, s1, s2, s3⟩; go_simp; with_reducible rfl) ?_
         refine one_ (i := 8) (N := some 63) (bv 34 511) rfl rfl (one_of HT_.out (by kernel_rfl)) (by decide) (fun K hK => ?_)
         refine goes_ Try.func56 (by kernel_rfl) rfl #[.int .i64 (rd ((rd_T46 l0 x3_1).f2) x4_3), .int .i64 1, .int .i64 99] (by rfl) rfl rfl (by (try simp only [List.map_toArray, List.map_cons, List.map_nil]); first | done | rfl | (simp only [List.length_drop, List.length_take]; rfl)) ?_
         with_reducible refine (spec_l1In.calls (rd ((rd_T46 l0 x3_1).f2) x4_3) 1 99 false _ A22.out).mono ?_
         rintro e w' ⟨rfl, ⟨nd, rfl⟩⟩
         refine ⟨_, rfl, ?_⟩
         refine hK.out _ _ ⟨((HB.out.cell (World.block_lt_of_cell? w _ hw112_0)).trans hw112_0), ((HB.out.cell (World.block_lt_of_cell? w _ hw112_1)).trans hw112_1), ((HB.out.cell (World.block_lt_of_cell? w _ hw112_2)).trans hw112_2), ((HB.out.cell (World.block_lt_of_cell? w _ hw113_0)).trans hw113_0)⟩ (fun hHeld => ?_)
         clear hK K
         refine nm_ 63 ?_
         refine pv_ 34 9 64 1023 rfl rfl HT_ ?_; refine pv_ 34 10 65 2047 rfl rfl HT_ ?_; refine pu_ 34 11 66 4095 rfl rfl HT_ ?_; refine pu_ 34 12 67 8191 rfl rfl HT_ ?_; refine pu_ 34 13 68 16383 rfl rfl HT_ ?_; refine pu_ 34 14 69 32767 rfl rfl HT_ ?_; refine pu_ 34 15 70 65535 rfl rfl HT_ ?_; refine pu_ 34 16 71 131071 rfl rfl HT_ ?_; refine pu_ 34 17 72 262143 rfl rfl HT_ ?_; refine pu_ 34 18 73 524287 rfl rfl HT_ ?_; refine pu_ 34 19 74 1048575 rfl rfl HT_ ?_; refine pu_ 34 20 75 2097151 rfl rfl HT_ ?_; refine pu_ 34 21 76 4194303 rfl rfl HT_ ?_; refine pu_ 34 22 77 8388607 rfl rfl HT_ ?_; refine pu_ 34 23 78 16777215 rfl rfl HT_ ?_; refine pu_ 34 24 79 33554431 rfl rfl HT_ ?_; refine pu_ 34 25 80 67108863 rfl rfl HT_ ?_; refine pu_ 34 26 81 134217727 rfl rfl HT_ ?_; refine pu_ 34 27 82 268435455 rfl rfl HT_ ?_; refine pu_ 34 28 83 536870911 rfl rfl HT_ ?_; refine pu_ 34 29 84 1073741823 rfl rfl HT_ ?_
         refine pu_ 34 30 85 2147483647 rfl rfl HT_ ?_; refine pu_ 34 31 86 4294967295 rfl rfl HT_ ?_; refine pu_ 34 32 87 8589934591 rfl rfl HT_ ?_; refine pv_ 34 33 88 17179869183 rfl rfl HT_ ?_
         refine done_ (done_of HT_.out (by kernel_rfl)) ?_
         try go_wp2
         go_ret
         exact ⟨by first | rfl | (simp [errW_none, errW_some] <;> rfl) | (simp [*, errW_none, errW_some] <;> rfl), by repeat (first | (with_reducible first | exact HB.out | apply below_alloc | apply pw_below_drewN | apply below_drew1) | exact HB.out)⟩
        subst c23
        have H1 : (if x4_3 > 0 then (if 0 ≤ (wrap64 (x4_3 - 1)) then (if (wrap64 (x4_3 - 1)) < (((rd_T46 l0 x3_1).f2).length : Int) then (if (rd ((rd_T46 l0 x3_1).f2) (wrap64 (x4_3 - 1))) ≥ (rd ((rd_T46 l0 x3_1).f2) x4_3) then (some false) else (spec_AreJudges.l1 k3 l0 x3_1 (wrap64 (x4_3 + 1)))) else (none)) else (none)) else (spec_AreJudges.l1 k3 l0 x3_1 (wrap64 (x4_3 + 1)))) = some r := by rw [if_pos rfl] at H; exact H
        clear H
        have H := H1
        clear H1
        by_cases c24 : x4_3 > 0
        rotate_left
        ·
         rw [if_neg c24] at H
         have c24b0 : decide (0 < x4_3) = false := decide_eq_false c24
         clear c24
         have H' := Aside0.mk H
         clear H
         have p111 : 0 ≤ (x3_1 : Int) := of_decide_eq_true (by first | (with_reducible assumption) | assumption)
         have q111 : x3_1 < (l0.length : Int) := of_decide_eq_true (by first | (with_reducible assumption) | assumption)
         obtain ⟨ad111, A111_2, c111_2, e111, hx111_0, hx111_1, hx111_2, hl111_2, hi111_2⟩ := at_T46 HR0.out x3_1 p111 q111
         cases e111
         replace hx111_0 := (HB.out.cell (World.block_lt_of_cell? w _ hx111_0)).trans hx111_0
         replace hx111_1 := (HB.out.cell (World.block_lt_of_cell? w _ hx111_1)).trans hx111_1
         replace hx111_2 := (HB.out.cell (World.block_lt_of_cell? w _ hx111_2)).trans hx111_2
         have HR111_2 := Aside0.mk hi111_2
         have HC111_2 := Aside0.mk hl111_2
         clear hi111_2 hl111_2
         replace p111 := eq_true p111
         replace q111 := eq_true q111
         try go_wp2
         have n0_ := Aside0.mk (below_drew1 HB.out)
         clear HB
         have HB := n0_
         clear n0_
         have p112 : 0 ≤ (x3_1 : Int) := of_decide_eq_true (by first | (with_reducible assumption) | assumption)
         have q112 : x3_1 < (l0.length : Int) := of_decide_eq_true (by first | (with_reducible assumption) | assumption)
         obtain ⟨ad112, A112_2, c112_2, e112, hx112_0, hx112_1, hx112_2, hl112_2, hi112_2⟩ := at_T46 HR0.out x3_1 p112 q112
         have hw112_2 := hx112_2
         have hw112_1 := hx112_1
         have hw112_0 := hx112_0
         obtain rfl : ad111 = ad112 := (by injection e112)
         replace hx112_0 := (HB.out.cell (World.block_lt_of_cell? w _ hx112_0)).trans hx112_0
         replace hx112_1 := (HB.out.cell (World.block_lt_of_cell? w _ hx112_1)).trans hx112_1
         replace hx112_2 := (HB.out.cell (World.block_lt_of_cell? w _ hx112_2)).trans hx112_2
         have HR112_2 := Aside0.mk hi112_2
         have HC112_2 := Aside0.mk hl112_2
         clear hi112_2 hl112_2
         replace p112 := eq_true p112
         replace q112 := eq_true q112
         have p113 : 0 ≤ (x4_3 : Int) := of_decide_eq_true (by first | (with_reducible assumption) | assumption)
         have q113 : x4_3 < (((rd_T46 l0 x3_1).f2).length : Int) := of_decide_eq_true (by first | (with_reducible assumption) | assumption)
         obtain ⟨ad113, e113, hx113_0⟩ := Kd.at_int HR112_2.out x4_3 p113 q113
         have hw113_0 := hx113_0
         cases e113
         replace hx113_0 := (HB.out.cell (World.block_lt_of_cell? w _ hx113_0)).trans hx113_0
         replace p113 := eq_true p113
         replace q113 := eq_true q113
         refine start_ (n := 34) (S := fun w' => w'.cell? (ad111.add ((x3_1).toNat * 3)) = some (.int .i64 ((rd_T46 l0 x3_1).f0)) ∧ w'.cell? ⟨(ad111.add ((x3_1).toNat * 3)).block, (ad111.add ((x3_1).toNat * 3)).off + 1, none⟩ = some (.int .i64 ((rd_T46 l0 x3_1).f1)) ∧ w'.cell? ⟨(ad111.add ((x3_1).toNat * 3)).block, (ad111.add ((x3_1).toNat * 3)).off + 2, none⟩ = some (.slice (some ad113) ((rd_T46 l0 x3_1).f2).length c112_2) ∧ w'.cell? (ad113.add (x4_3).toNat) = some (.int .i64 (rd ((rd_T46 l0 x3_1).f2) x4_3))) (ds := []) (bv 34 0) (by kernel_rfl) rfl rfl ⟨((HB.out.cell (World.block_lt_of_cell? w _ hw112_0)).trans hw112_0), ((HB.out.cell (World.block_lt_of_cell? w _ hw112_1)).trans hw112_1), ((HB.out.cell (World.block_lt_of_cell? w _ hw112_2)).trans hw112_2), ((HB.out.cell (World.block_lt_of_cell? w _ hw113_0)).trans hw113_0)⟩ (fun hHeld => ?_); refine with_tabW spec_AreJudges.tab9 spec_AreJudges.bits9 (fun HT_ HW_ => ?_)
         generalize wr.drew = w31 at HB HR112_2 hx112_0 hx112_1 hx112_2 hx113_0 hHeld ⊢
         refine pv_ 34 0 55 1 rfl rfl HT_ ?_; refine pv_ 34 1 56 3 rfl rfl HT_ ?_; refine pv_ 34 2 57 7 rfl rfl HT_ ?_; refine pv_ 34 3 58 15 rfl rfl HT_ ?_; refine pv_ 34 5 60 47 rfl rfl HT_ ?_
         refine tv_ 34 4 59 63 rfl rfl HT_ HW_ hHeld (by rintro w' ⟨s0, s1, s2, s3⟩; go_simp; with_reducible rfl) ?_
         refine pv_ 34 6 61 127 rfl rfl HT_ ?_
         refine tv_ 34 7 62 255 rfl rfl HT_ HW_ hHeld (by rintro w' ⟨s0, s1, s2, s3⟩; go_simp; with_reducible rfl) ?_
         refine one_ (i := 8) (N := some 63) (bv 34 511) rfl rfl (one_of HT_.out (by kernel_rfl)) (by decide) (fun K hK => ?_)
         refine goes_ Try.func56 (by kernel_rfl) rfl #[.int .i64 (rd ((rd_T46 l0 x3_1).f2) x4_3), .int .i64 1, .int .i64 99] (by rfl) rfl rfl (by (try simp only [List.map_toArray, List.map_cons, List.map_nil]); first | done | rfl | (simp only [List.length_drop, List.length_take]; rfl)) ?_
         with_reducible refine (spec_l1In.calls (rd ((rd_T46 l0 x3_1).f2) x4_3) 1 99 true _ A22.out).mono ?_
         rintro e w' ⟨rfl, ⟨nd, rfl⟩⟩
         refine ⟨_, rfl, ?_⟩
         refine hK.out _ _ ⟨((HB.out.cell (World.block_lt_of_cell? w _ hw112_0)).trans hw112_0), ((HB.out.cell (World.block_lt_of_cell? w _ hw112_1)).trans hw112_1), ((HB.out.cell (World.block_lt_of_cell? w _ hw112_2)).trans hw112_2), ((HB.out.cell (World.block_lt_of_cell? w _ hw113_0)).trans hw113_0)⟩ (fun hHeld => ?_)
         clear hK K
         refine nm_ 63 ?_
         refine pv_ 34 9 64 1023 rfl rfl HT_ ?_; refine pv_ 34 10 65 2047 rfl rfl HT_ ?_; refine pv_ 34 11 66 4095 rfl rfl HT_ ?_; refine pv_ 34 12 67 8191 rfl rfl HT_ ?_; refine pv_ 34 13 68 16383 rfl rfl HT_ ?_; refine pu_ 34 14 69 32767 rfl rfl HT_ ?_; refine pu_ 34 15 70 65535 rfl rfl HT_ ?_; refine pu_ 34 16 71 131071 rfl rfl HT_ ?_; refine pu_ 34 17 72 262143 rfl rfl HT_ ?_; refine pu_ 34 18 73 524287 rfl rfl HT_ ?_; refine pu_ 34 19 74 1048575 rfl rfl HT_ ?_; refine pu_ 34 20 75 2097151 rfl rfl HT_ ?_; refine pu_ 34 21 76 4194303 rfl rfl HT_ ?_; refine pu_ 34 22 77 8388607 rfl rfl HT_ ?_; refine pu_ 34 23 78 16777215 rfl rfl HT_ ?_; refine pu_ 34 24 79 33554431 rfl rfl HT_ ?_; refine pu_ 34 25 80 67108863 rfl rfl HT_ ?_; refine pu_ 34 26 81 134217727 rfl rfl HT_ ?_; refine pu_ 34 27 82 268435455 rfl rfl HT_ ?_; refine pu_ 34 28 83 536870911 rfl rfl HT_ ?_; refine pu_ 34 29 84 1073741823 rfl rfl HT_ ?_
         refine pu_ 34 30 85 2147483647 rfl rfl HT_ ?_; refine pu_ 34 31 86 4294967295 rfl rfl HT_ ?_; refine pv_ 34 32 87 8589934591 rfl rfl HT_ ?_; refine pv_ 34 33 88 17179869183 rfl rfl HT_ ?_
         refine done_ (done_of HT_.out (by kernel_rfl)) ?_
         try go_wp2
         go_roundg k3
         case measure => have := HK1.out; have := HJ2.out; have := HK3.out; omega
         case rel => exact ⟨(wrap64 (x4_3 + 1)), (by first | rfl | (simp; done) | (simp [*]; done)), H', ⟨by have := HK1.out; have := HJ2.out; have := HK3.out; omega⟩, ⟨by repeat (first | (with_reducible first | exact HB.out | apply below_alloc | apply pw_below_drewN | apply below_drew1) | exact HB.out)⟩⟩
        rw [if_pos c24] at H
        have c24b0 : decide (0 < x4_3) = true := decide_eq_true c24
        clear c24
        obtain ⟨ji25, hji25⟩ : ∃ j_ : Int, (wrap64 (x4_3 - 1)) = j_ := ⟨_, rfl⟩
        replace H : (if 0 ≤ (ji25) then (if (ji25) < (((rd_T46 l0 x3_1).f2).length : Int) then (if (rd ((rd_T46 l0 x3_1).f2) (ji25)) ≥ (rd ((rd_T46 l0 x3_1).f2) x4_3) then (some false) else (spec_AreJudges.l1 k3 l0 x3_1 (wrap64 (x4_3 + 1)))) else (none)) else (none)) = some r := by first | (rw [hji25] at H; exact H) | (simp only [hji25] at H ⊢; exact H)
        (try rw [hji25] at A22)
        have hji25w : (IntKind.i64.wrap (x4_3 - 1)) = ji25 := (i64_w _).trans hji25
        by_cases c26 : 0 ≤ (ji25)
        rotate_left
        ·
         rw [if_neg c26] at H
         exact absurd H (by simp)
        rw [if_pos c26] at H
        have c26b0 : decide (0 ≤ (ji25)) = true := decide_eq_true c26
        clear c26
        by_cases c27 : (ji25) < (((rd_T46 l0 x3_1).f2).length : Int)
        rotate_left
        ·
         rw [if_neg c27] at H
         exact absurd H (by simp)
        rw [if_pos c27] at H
        have c27b0 : decide ((ji25) < (((rd_T46 l0 x3_1).f2).length : Int)) = true := decide_eq_true c27
        clear c27
        by_cases c28 : (rd ((rd_T46 l0 x3_1).f2) (ji25)) ≥ (rd ((rd_T46 l0 x3_1).f2) x4_3)
        rotate_left
        ·
         rw [if_neg c28] at H
         have c28b0 : decide ((rd ((rd_T46 l0 x3_1).f2) x4_3) ≤ (rd ((rd_T46 l0 x3_1).f2) (ji25))) = false := decide_eq_false c28
         clear c28
         have H' := Aside0.mk H
         clear H
         have p111 : 0 ≤ (x3_1 : Int) := of_decide_eq_true (by first | (with_reducible assumption) | assumption)
         have q111 : x3_1 < (l0.length : Int) := of_decide_eq_true (by first | (with_reducible assumption) | assumption)
         obtain ⟨ad111, A111_2, c111_2, e111, hx111_0, hx111_1, hx111_2, hl111_2, hi111_2⟩ := at_T46 HR0.out x3_1 p111 q111
         cases e111
         replace hx111_0 := (HB.out.cell (World.block_lt_of_cell? w _ hx111_0)).trans hx111_0
         replace hx111_1 := (HB.out.cell (World.block_lt_of_cell? w _ hx111_1)).trans hx111_1
         replace hx111_2 := (HB.out.cell (World.block_lt_of_cell? w _ hx111_2)).trans hx111_2
         have HR111_2 := Aside0.mk hi111_2
         have HC111_2 := Aside0.mk hl111_2
         clear hi111_2 hl111_2
         replace p111 := eq_true p111
         replace q111 := eq_true q111
         try go_wp2
         have n0_ := Aside0.mk (below_drew1 HB.out)
         clear HB
         have HB := n0_
         clear n0_
         have p112 : 0 ≤ (x3_1 : Int) := of_decide_eq_true (by first | (with_reducible assumption) | assumption)
         have q112 : x3_1 < (l0.length : Int) := of_decide_eq_true (by first | (with_reducible assumption) | assumption)
         obtain ⟨ad112, A112_2, c112_2, e112, hx112_0, hx112_1, hx112_2, hl112_2, hi112_2⟩ := at_T46 HR0.out x3_1 p112 q112
         have hw112_2 := hx112_2
         have hw112_1 := hx112_1
         have hw112_0 := hx112_0
         obtain rfl : ad111 = ad112 := (by injection e112)
         replace hx112_0 := (HB.out.cell (World.block_lt_of_cell? w _ hx112_0)).trans hx112_0
         replace hx112_1 := (HB.out.cell (World.block_lt_of_cell? w _ hx112_1)).trans hx112_1
         replace hx112_2 := (HB.out.cell (World.block_lt_of_cell? w _ hx112_2)).trans hx112_2
         have HR112_2 := Aside0.mk hi112_2
         have HC112_2 := Aside0.mk hl112_2
         clear hi112_2 hl112_2
         replace p112 := eq_true p112
         replace q112 := eq_true q112
         have p113 : 0 ≤ (x4_3 : Int) := of_decide_eq_true (by first | (with_reducible assumption) | assumption)
         have q113 : x4_3 < (((rd_T46 l0 x3_1).f2).length : Int) := of_decide_eq_true (by first | (with_reducible assumption) | assumption)
         obtain ⟨ad113, e113, hx113_0⟩ := Kd.at_int HR112_2.out x4_3 p113 q113
         have hw113_0 := hx113_0
         cases e113
         replace hx113_0 := (HB.out.cell (World.block_lt_of_cell? w _ hx113_0)).trans hx113_0
         replace p113 := eq_true p113
         replace q113 := eq_true q113
         have p115 : 0 ≤ (x3_1 : Int) := of_decide_eq_true (by first | (with_reducible assumption) | assumption)
         have q115 : x3_1 < (l0.length : Int) := of_decide_eq_true (by first | (with_reducible assumption) | assumption)
         obtain ⟨ad115, A115_2, c115_2, e115, hx115_0, hx115_1, hx115_2, hl115_2, hi115_2⟩ := at_T46 HR0.out x3_1 p115 q115
         have hw115_2 := hx115_2
         have hw115_1 := hx115_1
         have hw115_0 := hx115_0
         obtain rfl : ad111 = ad115 := (by injection e115)
         replace hx115_0 := (HB.out.cell (World.block_lt_of_cell? w _ hx115_0)).trans hx115_0
         replace hx115_1 := (HB.out.cell (World.block_lt_of_cell? w _ hx115_1)).trans hx115_1
         replace hx115_2 := (HB.out.cell (World.block_lt_of_cell? w _ hx115_2)).trans hx115_2
         have HR115_2 := Aside0.mk hi115_2
         have HC115_2 := Aside0.mk hl115_2
         clear hi115_2 hl115_2
         replace p115 := eq_true p115
         replace q115 := eq_true q115
         have ea_ := Option.some.inj (hx112_2.symm.trans hx115_2)
         injection ea_ with ea_ en_ ec_
         subst ea_
         subst ec_
         clear en_
         have p116 : 0 ≤ ((ji25) : Int) := of_decide_eq_true (by first | (with_reducible assumption) | assumption)
         have q116 : (ji25) < (((rd_T46 l0 x3_1).f2).length : Int) := of_decide_eq_true (by first | (with_reducible assumption) | assumption)
         obtain ⟨ad116, e116, hx116_0⟩ := Kd.at_int HR115_2.out (ji25) p116 q116
         have hw116_0 := hx116_0
         cases e116
         replace hx116_0 := (HB.out.cell (World.block_lt_of_cell? w _ hx116_0)).trans hx116_0
         replace p116 := eq_true p116
         replace q116 := eq_true q116
         have p117 : 0 ≤ (x3_1 : Int) := of_decide_eq_true (by first | (with_reducible assumption) | assumption)
         have q117 : x3_1 < (l0.length : Int) := of_decide_eq_true (by first | (with_reducible assumption) | assumption)
         obtain ⟨ad117, A117_2, c117_2, e117, hx117_0, hx117_1, hx117_2, hl117_2, hi117_2⟩ := at_T46 HR0.out x3_1 p117 q117
         have hw117_2 := hx117_2
         have hw117_1 := hx117_1
         have hw117_0 := hx117_0
         obtain rfl : ad111 = ad117 := (by injection e117)
         replace hx117_0 := (HB.out.cell (World.block_lt_of_cell? w _ hx117_0)).trans hx117_0
         replace hx117_1 := (HB.out.cell (World.block_lt_of_cell? w _ hx117_1)).trans hx117_1
         replace hx117_2 := (HB.out.cell (World.block_lt_of_cell? w _ hx117_2)).trans hx117_2
         have HR117_2 := Aside0.mk hi117_2
         have HC117_2 := Aside0.mk hl117_2
         clear hi117_2 hl117_2
         replace p117 := eq_true p117
         replace q117 := eq_true q117
         have ea_ := Option.some.inj (hx112_2.symm.trans hx117_2)
         injection ea_ with ea_ en_ ec_
         subst ea_
         subst ec_
         clear en_
         have p118 : 0 ≤ (x4_3 : Int) := of_decide_eq_true (by first | (with_reducible assumption) | assumption)
         have q118 : x4_3 < (((rd_T46 l0 x3_1).f2).length : Int) := of_decide_eq_true (by first | (with_reducible assumption) | assumption)
         obtain ⟨ad118, e118, hx118_0⟩ := Kd.at_int HR117_2.out x4_3 p118 q118
         have hw118_0 := hx118_0
         cases e118
         replace hx118_0 := (HB.out.cell (World.block_lt_of_cell? w _ hx118_0)).trans hx118_0
         replace p118 := eq_true p118
         replace q118 := eq_true q118
         refine start_ (n := 34) (S := fun w' => w'.cell? (ad111.add ((x3_1).toNat * 3)) = some (.int .i64 ((rd_T46 l0 x3_1).f0)) ∧ w'.cell? ⟨(ad111.add ((x3_1).toNat * 3)).block, (ad111.add ((x3_1).toNat * 3)).off + 1, none⟩ = some (.int .i64 ((rd_T46 l0 x3_1).f1)) ∧ w'.cell? ⟨(ad111.add ((x3_1).toNat * 3)).block, (ad111.add ((x3_1).toNat * 3)).off + 2, none⟩ = some (.slice (some ad113) ((rd_T46 l0 x3_1).f2).length c112_2) ∧ w'.cell? (ad113.add (x4_3).toNat) = some (.int .i64 (rd ((rd_T46 l0 x3_1).f2) x4_3)) ∧ w'.cell? (ad111.add ((x3_1).toNat * 3)) = some (.int .i64 ((rd_T46 l0 x3_1).f0)) ∧ w'.cell? ⟨(ad111.add ((x3_1).toNat * 3)).block, (ad111.add ((x3_1).toNat * 3)).off + 1, none⟩ = some (.int .i64 ((rd_T46 l0 x3_1).f1)) ∧ w'.cell? ⟨(ad111.add ((x3_1).toNat * 3)).block, (ad111.add ((x3_1).toNat * 3)).off + 2, none⟩ = some (.slice (some ad113) ((rd_T46 l0 x3_1).f2).length c112_2) ∧ w'.cell? (ad113.add ((ji25)).toNat) = some (.int .i64 (rd ((rd_T46 l0 x3_1).f2) (ji25))) ∧ w'.cell? (ad111.add ((x3_1).toNat * 3)) = some (.int .i64 ((rd_T46 l0 x3_1).f0)) ∧ w'.cell? ⟨(ad111.add ((x3_1).toNat * 3)).block, (ad111.add ((x3_1).toNat * 3)).off + 1, none⟩ = some (.int .i64 ((rd_T46 l0 x3_1).f1)) ∧ w'.cell? ⟨(ad111.add ((x3_1).toNat * 3)).block, (ad111.add ((x3_1).toNat * 3)).off + 2, none⟩ = some (.slice (some ad113) ((rd_T46 l0 x3_1).f2).length c112_2) ∧ w'.cell? (ad113.add (x4_3).toNat) = some (.int .i64 (rd ((rd_T46 l0 x3_1).f2) x4_3))) (ds := []) (bv 34 0) (by kernel_rfl) rfl rfl ⟨((HB.out.cell (World.block_lt_of_cell? w _ hw112_0)).trans hw112_0), ((HB.out.cell (World.block_lt_of_cell? w _ hw112_1)).trans hw112_1), ((HB.out.cell (World.block_lt_of_cell? w _ hw112_2)).trans hw112_2), ((HB.out.cell (World.block_lt_of_cell? w _ hw113_0)).trans hw113_0), ((HB.out.cell (World.block_lt_of_cell? w _ hw115_0)).trans hw115_0), ((HB.out.cell (World.block_lt_of_cell? w _ hw115_1)).trans hw115_1), ((HB.out.cell (World.block_lt_of_cell? w _ hw115_2)).trans hw115_2), ((HB.out.cell (World.block_lt_of_cell? w _ hw116_0)).trans hw116_0), ((HB.out.cell (World.block_lt_of_cell? w _ hw117_0)).trans hw117_0), ((HB.out.cell (World.block_lt_of_cell? w _ hw117_1)).trans hw117_1), ((HB.out.cell (World.block_lt_of_cell? w _ hw117_2)).trans hw117_2), ((HB.out.cell (World.block_lt_of_cell? w _ hw118_0)).trans hw118_0)⟩ (fun hHeld => ?_); refine with_tabW spec_AreJudges.tab9 spec_AreJudges.bits9 (fun HT_ HW_ => ?_)
         generalize wr.drew = w30 at HB HR112_2 HR115_2 HR117_2 hx112_0 hx112_1 hx112_2 hx113_0 hx115_0 hx115_1 hx115_2 hx116_0 hx117_0 hx117_1 hx117_2 hx118_0 hHeld ⊢
         refine pv_ 34 0 55 1 rfl rfl HT_ ?_; refine pv_ 34 1 56 3 rfl rfl HT_ ?_; refine pv_ 34 2 57 7 rfl rfl HT_ ?_; refine pv_ 34 3 58 15 rfl rfl HT_ ?_; refine pv_ 34 5 60 47 rfl rfl HT_ ?_
         refine tv_ 34 4 59 63 rfl rfl HT_ HW_ hHeld (by rintro w' ⟨s0, s1, s2, s3, s4, s5, s6, s7, s8, s9, s10, s11⟩; go_simp; with_reducible rfl) ?_
         refine pv_ 34 6 61 127 rfl rfl HT_ ?_
         refine tv_ 34 7 62 255 rfl rfl HT_ HW_ hHeld (by rintro w' ⟨s0, s1, s2, s3, s4, s5, s6, s7, s8, s9, s10, s11⟩; go_simp; with_reducible rfl) ?_
         refine one_ (i := 8) (N := some 63) (bv 34 511) rfl rfl (one_of HT_.out (by kernel_rfl)) (by decide) (fun K hK => ?_)
         refine goes_ Try.func56 (by kernel_rfl) rfl #[.int .i64 (rd ((rd_T46 l0 x3_1).f2) x4_3), .int .i64 1, .int .i64 99] (by rfl) rfl rfl (by (try simp only [List.map_toArray, List.map_cons, List.map_nil]); first | done | rfl | (simp only [List.length_drop, List.length_take]; rfl)) ?_
         with_reducible refine (spec_l1In.calls (rd ((rd_T46 l0 x3_1).f2) x4_3) 1 99 true _ A22.out).mono ?_
         rintro e w' ⟨rfl, ⟨nd, rfl⟩⟩
         refine ⟨_, rfl, ?_⟩
         refine hK.out _ _ ⟨((HB.out.cell (World.block_lt_of_cell? w _ hw112_0)).trans hw112_0), ((HB.out.cell (World.block_lt_of_cell? w _ hw112_1)).trans hw112_1), ((HB.out.cell (World.block_lt_of_cell? w _ hw112_2)).trans hw112_2), ((HB.out.cell (World.block_lt_of_cell? w _ hw113_0)).trans hw113_0), ((HB.out.cell (World.block_lt_of_cell? w _ hw115_0)).trans hw115_0), ((HB.out.cell (World.block_lt_of_cell? w _ hw115_1)).trans hw115_1), ((HB.out.cell (World.block_lt_of_cell? w _ hw115_2)).trans hw115_2), ((HB.out.cell (World.block_lt_of_cell? w _ hw116_0)).trans hw116_0), ((HB.out.cell (World.block_lt_of_cell? w _ hw117_0)).trans hw117_0), ((HB.out.cell (World.block_lt_of_cell? w _ hw117_1)).trans hw117_1), ((HB.out.cell (World.block_lt_of_cell? w _ hw117_2)).trans hw117_2), ((HB.out.cell (World.block_lt_of_cell? w _ hw118_0)).trans hw118_0)⟩ (fun hHeld => ?_)
         clear hK K
         refine nm_ 63 ?_
         refine pv_ 34 9 64 1023 rfl rfl HT_ ?_; refine pv_ 34 10 65 2047 rfl rfl HT_ ?_; refine pv_ 34 11 66 4095 rfl rfl HT_ ?_; refine pv_ 34 12 67 8191 rfl rfl HT_ ?_; refine pv_ 34 13 68 16383 rfl rfl HT_ ?_; refine pv_ 34 14 69 32767 rfl rfl HT_ ?_; refine pv_ 34 15 70 65535 rfl rfl HT_ ?_; refine pv_ 34 16 71 131071 rfl rfl HT_ ?_; refine pv_ 34 17 72 262143 rfl rfl HT_ ?_; refine pv_ 34 19 74 786431 rfl rfl HT_ ?_; refine pv_ 34 20 75 1835007 rfl rfl HT_ ?_; refine pv_ 34 23 78 10223615 rfl rfl HT_ ?_; refine pv_ 34 24 79 27000831 rfl rfl HT_ ?_; refine pv_ 34 25 80 60555263 rfl rfl HT_ ?_; refine pv_ 34 26 81 127664127 rfl rfl HT_ ?_; refine pv_ 34 28 83 396099583 rfl rfl HT_ ?_
         refine tv_ 34 18 73 396361727 rfl rfl HT_ HW_ hHeld (by rintro w' ⟨s0, s1, s2, s3, s4, s5, s6, s7, s8, s9, s10, s11⟩; go_simp; with_reducible rfl) ?_
         refine pv_ 34 21 76 398458879 rfl rfl HT_ ?_
         refine tv_ 34 22 77 402653183 rfl rfl HT_ HW_ hHeld (by rintro w' ⟨s0, s1, s2, s3, s4, s5, s6, s7, s8, s9, s10, s11⟩; go_simp; with_reducible rfl) ?_
         refine tv_ 34 27 82 536870911 rfl rfl HT_ HW_ hHeld (by rintro w' ⟨s0, s1, s2, s3, s4, s5, s6, s7, s8, s9, s10, s11⟩; go_simp; with_reducible rfl) ?_
         refine pv_ 34 29 84 1073741823 rfl rfl HT_ ?_
         refine tv_ 34 30 85 2147483647 rfl rfl HT_ HW_ hHeld (by rintro w' ⟨s0, s1, s2, s3, s4, s5, s6, s7, s8, s9, s10, s11⟩; go_simp; with_reducible rfl) ?_
         refine pv_ 34 31 86 4294967295 rfl rfl HT_ ?_; refine pv_ 34 32 87 8589934591 rfl rfl HT_ ?_; refine pv_ 34 33 88 17179869183 rfl rfl HT_ ?_
         refine done_ (done_of HT_.out (by kernel_rfl)) ?_
         try go_wp2
         go_roundg k3
         case measure => have := HK1.out; have := HJ2.out; have := HK3.out; omega
         case rel => exact ⟨(wrap64 (x4_3 + 1)), (by first | rfl | (simp; done) | (simp [*]; done)), H', ⟨by have := HK1.out; have := HJ2.out; have := HK3.out; omega⟩, ⟨by repeat (first | (with_reducible first | exact HB.out | apply below_alloc | apply pw_below_drewN | apply below_drew1) | exact HB.out)⟩⟩
        rw [if_pos c28] at H
        have c28b0 : decide ((rd ((rd_T46 l0 x3_1).f2) x4_3) ≤ (rd ((rd_T46 l0 x3_1).f2) (ji25))) = true := decide_eq_true c28
        clear c28
        obtain rfl := Option.some.inj H
        have p111 : 0 ≤ (x3_1 : Int) := of_decide_eq_true (by first | (with_reducible assumption) | assumption)
        have q111 : x3_1 < (l0.length : Int) := of_decide_eq_true (by first | (with_reducible assumption) | assumption)
        obtain ⟨ad111, A111_2, c111_2, e111, hx111_0, hx111_1, hx111_2, hl111_2, hi111_2⟩ := at_T46 HR0.out x3_1 p111 q111
        cases e111
        replace hx111_0 := (HB.out.cell (World.block_lt_of_cell? w _ hx111_0)).trans hx111_0
        replace hx111_1 := (HB.out.cell (World.block_lt_of_cell? w _ hx111_1)).trans hx111_1
        replace hx111_2 := (HB.out.cell (World.block_lt_of_cell? w _ hx111_2)).trans hx111_2
        have HR111_2 := Aside0.mk hi111_2
        have HC111_2 := Aside0.mk hl111_2
        clear hi111_2 hl111_2
        replace p111 := eq_true p111
        replace q111 := eq_true q111
        try go_wp2
        have n0_ := Aside0.mk (below_drew1 HB.out)
        clear HB
        have HB := n0_
        clear n0_
        have p112 : 0 ≤ (x3_1 : Int) := of_decide_eq_true (by first | (with_reducible assumption) | assumption)
        have q112 : x3_1 < (l0.length : Int) := of_decide_eq_true (by first | (with_reducible assumption) | assumption)
        obtain ⟨ad112, A112_2, c112_2, e112, hx112_0, hx112_1, hx112_2, hl112_2, hi112_2⟩ := at_T46 HR0.out x3_1 p112 q112
        have hw112_2 := hx112_2
        have hw112_1 := hx112_1
        have hw112_0 := hx112_0
        obtain rfl : ad111 = ad112 := (by injection e112)
        replace hx112_0 := (HB.out.cell (World.block_lt_of_cell? w _ hx112_0)).trans hx112_0
        replace hx112_1 := (HB.out.cell (World.block_lt_of_cell? w _ hx112_1)).trans hx112_1
        replace hx112_2 := (HB.out.cell (World.block_lt_of_cell? w _ hx112_2)).trans hx112_2
        have HR112_2 := Aside0.mk hi112_2
        have HC112_2 := Aside0.mk hl112_2
        clear hi112_2 hl112_2
        replace p112 := eq_true p112
        replace q112 := eq_true q112
        have p113 : 0 ≤ (x4_3 : Int) := of_decide_eq_true (by first | (with_reducible assumption) | assumption)
        have q113 : x4_3 < (((rd_T46 l0 x3_1).f2).length : Int) := of_decide_eq_true (by first | (with_reducible assumption) | assumption)
        obtain ⟨ad113, e113, hx113_0⟩ := Kd.at_int HR112_2.out x4_3 p113 q113
        have hw113_0 := hx113_0
        cases e113
        replace hx113_0 := (HB.out.cell (World.block_lt_of_cell? w _ hx113_0)).trans hx113_0
        replace p113 := eq_true p113
        replace q113 := eq_true q113
        have p115 : 0 ≤ (x3_1 : Int) := of_decide_eq_true (by first | (with_reducible assumption) | assumption)
        have q115 : x3_1 < (l0.length : Int) := of_decide_eq_true (by first | (with_reducible assumption) | assumption)
        obtain ⟨ad115, A115_2, c115_2, e115, hx115_0, hx115_1, hx115_2, hl115_2, hi115_2⟩ := at_T46 HR0.out x3_1 p115 q115
        have hw115_2 := hx115_2
        have hw115_1 := hx115_1
        have hw115_0 := hx115_0
        obtain rfl : ad111 = ad115 := (by injection e115)
        replace hx115_0 := (HB.out.cell (World.block_lt_of_cell? w _ hx115_0)).trans hx115_0
        replace hx115_1 := (HB.out.cell (World.block_lt_of_cell? w _ hx115_1)).trans hx115_1
        replace hx115_2 := (HB.out.cell (World.block_lt_of_cell? w _ hx115_2)).trans hx115_2
        have HR115_2 := Aside0.mk hi115_2
        have HC115_2 := Aside0.mk hl115_2
        clear hi115_2 hl115_2
        replace p115 := eq_true p115
        replace q115 := eq_true q115
        have ea_ := Option.some.inj (hx112_2.symm.trans hx115_2)
        injection ea_ with ea_ en_ ec_
        subst ea_
        subst ec_
        clear en_
        have p116 : 0 ≤ ((ji25) : Int) := of_decide_eq_true (by first | (with_reducible assumption) | assumption)
        have q116 : (ji25) < (((rd_T46 l0 x3_1).f2).length : Int) := of_decide_eq_true (by first | (with_reducible assumption) | assumption)
        obtain ⟨ad116, e116, hx116_0⟩ := Kd.at_int HR115_2.out (ji25) p116 q116
        have hw116_0 := hx116_0
        cases e116
        replace hx116_0 := (HB.out.cell (World.block_lt_of_cell? w _ hx116_0)).trans hx116_0
        replace p116 := eq_true p116
        replace q116 := eq_true q116
        have p117 : 0 ≤ (x3_1 : Int) := of_decide_eq_true (by first | (with_reducible assumption) | assumption)
        have q117 : x3_1 < (l0.length : Int) := of_decide_eq_true (by first | (with_reducible assumption) | assumption)
        obtain ⟨ad117, A117_2, c117_2, e117, hx117_0, hx117_1, hx117_2, hl117_2, hi117_2⟩ := at_T46 HR0.out x3_1 p117 q117
        have hw117_2 := hx117_2
        have hw117_1 := hx117_1
        have hw117_0 := hx117_0
        obtain rfl : ad111 = ad117 := (by injection e117)
        replace hx117_0 := (HB.out.cell (World.block_lt_of_cell? w _ hx117_0)).trans hx117_0
        replace hx117_1 := (HB.out.cell (World.block_lt_of_cell? w _ hx117_1)).trans hx117_1
        replace hx117_2 := (HB.out.cell (World.block_lt_of_cell? w _ hx117_2)).trans hx117_2
        have HR117_2 := Aside0.mk hi117_2
        have HC117_2 := Aside0.mk hl117_2
        clear hi117_2 hl117_2
        replace p117 := eq_true p117
        replace q117 := eq_true q117
        have ea_ := Option.some.inj (hx112_2.symm.trans hx117_2)
        injection ea_ with ea_ en_ ec_
        subst ea_
        subst ec_
        clear en_
        have p118 : 0 ≤ (x4_3 : Int) := of_decide_eq_true (by first | (with_reducible assumption) | assumption)
        have q118 : x4_3 < (((rd_T46 l0 x3_1).f2).length : Int) := of_decide_eq_true (by first | (with_reducible assumption) | assumption)
        obtain ⟨ad118, e118, hx118_0⟩ := Kd.at_int HR117_2.out x4_3 p118 q118
        have hw118_0 := hx118_0
        cases e118
        replace hx118_0 := (HB.out.cell (World.block_lt_of_cell? w _ hx118_0)).trans hx118_0
        replace p118 := eq_true p118
        replace q118 := eq_true q118
        refine start_ (n := 34) (S := fun w' => w'.cell? (ad111.add ((x3_1).toNat * 3)) = some (.int .i64 ((rd_T46 l0 x3_1).f0)) ∧ w'.cell? ⟨(ad111.add ((x3_1).toNat * 3)).block, (ad111.add ((x3_1).toNat * 3)).off + 1, none⟩ = some (.int .i64 ((rd_T46 l0 x3_1).f1)) ∧ w'.cell? ⟨(ad111.add ((x3_1).toNat * 3)).block, (ad111.add ((x3_1).toNat * 3)).off + 2, none⟩ = some (.slice (some ad113) ((rd_T46 l0 x3_1).f2).length c112_2) ∧ w'.cell? (ad113.add (x4_3).toNat) = some (.int .i64 (rd ((rd_T46 l0 x3_1).f2) x4_3)) ∧ w'.cell? (ad111.add ((x3_1).toNat * 3)) = some (.int .i64 ((rd_T46 l0 x3_1).f0)) ∧ w'.cell? ⟨(ad111.add ((x3_1).toNat * 3)).block, (ad111.add ((x3_1).toNat * 3)).off + 1, none⟩ = some (.int .i64 ((rd_T46 l0 x3_1).f1)) ∧ w'.cell? ⟨(ad111.add ((x3_1).toNat * 3)).block, (ad111.add ((x3_1).toNat * 3)).off + 2, none⟩ = some (.slice (some ad113) ((rd_T46 l0 x3_1).f2).length c112_2) ∧ w'.cell? (ad113.add ((ji25)).toNat) = some (.int .i64 (rd ((rd_T46 l0 x3_1).f2) (ji25))) ∧ w'.cell? (ad111.add ((x3_1).toNat * 3)) = some (.int .i64 ((rd_T46 l0 x3_1).f0)) ∧ w'.cell? ⟨(ad111.add ((x3_1).toNat * 3)).block, (ad111.add ((x3_1).toNat * 3)).off + 1, none⟩ = some (.int .i64 ((rd_T46 l0 x3_1).f1)) ∧ w'.cell? ⟨(ad111.add ((x3_1).toNat * 3)).block, (ad111.add ((x3_1).toNat * 3)).off + 2, none⟩ = some (.slice (some ad113) ((rd_T46 l0 x3_1).f2).length c112_2) ∧ w'.cell? (ad113.add (x4_3).toNat) = some (.int .i64 (rd ((rd_T46 l0 x3_1).f2) x4_3))) (ds := []) (bv 34 0) (by kernel_rfl) rfl rfl ⟨((HB.out.cell (World.block_lt_of_cell? w _ hw112_0)).trans hw112_0), ((HB.out.cell (World.block_lt_of_cell? w _ hw112_1)).trans hw112_1), ((HB.out.cell (World.block_lt_of_cell? w _ hw112_2)).trans hw112_2), ((HB.out.cell (World.block_lt_of_cell? w _ hw113_0)).trans hw113_0), ((HB.out.cell (World.block_lt_of_cell? w _ hw115_0)).trans hw115_0), ((HB.out.cell (World.block_lt_of_cell? w _ hw115_1)).trans hw115_1), ((HB.out.cell (World.block_lt_of_cell? w _ hw115_2)).trans hw115_2), ((HB.out.cell (World.block_lt_of_cell? w _ hw116_0)).trans hw116_0), ((HB.out.cell (World.block_lt_of_cell? w _ hw117_0)).trans hw117_0), ((HB.out.cell (World.block_lt_of_cell? w _ hw117_1)).trans hw117_1), ((HB.out.cell (World.block_lt_of_cell? w _ hw117_2)).trans hw117_2), ((HB.out.cell (World.block_lt_of_cell? w _ hw118_0)).trans hw118_0)⟩ (fun hHeld => ?_); refine with_tabW spec_AreJudges.tab9 spec_AreJudges.bits9 (fun HT_ HW_ => ?_)
        generalize wr.drew = w29 at HB HR112_2 HR115_2 HR117_2 hx112_0 hx112_1 hx112_2 hx113_0 hx115_0 hx115_1 hx115_2 hx116_0 hx117_0 hx117_1 hx117_2 hx118_0 hHeld ⊢
        refine pv_ 34 0 55 1 rfl rfl HT_ ?_; refine pv_ 34 1 56 3 rfl rfl HT_ ?_; refine pv_ 34 2 57 7 rfl rfl HT_ ?_; refine pv_ 34 3 58 15 rfl rfl HT_ ?_; refine pv_ 34 5 60 47 rfl rfl HT_ ?_
        refine tv_ 34 4 59 63 rfl rfl HT_ HW_ hHeld (by rintro w' ⟨s0, s1, s2, s3, s4, s5, s6, s7, s8, s9, s10, s11⟩; go_simp; with_reducible rfl) ?_
        refine pv_ 34 6 61 127 rfl rfl HT_ ?_
        refine tv_ 34 7 62 255 rfl rfl HT_ HW_ hHeld (by rintro w' ⟨s0, s1, s2, s3, s4, s5, s6, s7, s8, s9, s10, s11⟩; go_simp; with_reducible rfl) ?_
        refine one_ (i := 8) (N := some 63) (bv 34 511) rfl rfl (one_of HT_.out (by kernel_rfl)) (by decide) (fun K hK => ?_)
        refine goes_ Try.func56 (by kernel_rfl) rfl #[.int .i64 (rd ((rd_T46 l0 x3_1).f2) x4_3), .int .i64 1, .int .i64 99] (by rfl) rfl rfl (by (try simp only [List.map_toArray, List.map_cons, List.map_nil]); first | done | rfl | (simp only [List.length_drop, List.length_take]; rfl)) ?_
        with_reducible refine (spec_l1In.calls (rd ((rd_T46 l0 x3_1).f2) x4_3) 1 99 true _ A22.out).mono ?_
        rintro e w' ⟨rfl, ⟨nd, rfl⟩⟩
        refine ⟨_, rfl, ?_⟩
        refine hK.out _ _ ⟨((HB.out.cell (World.block_lt_of_cell? w _ hw112_0)).trans hw112_0), ((HB.out.cell (World.block_lt_of_cell? w _ hw112_1)).trans hw112_1), ((HB.out.cell (World.block_lt_of_cell? w _ hw112_2)).trans hw112_2), ((HB.out.cell (World.block_lt_of_cell? w _ hw113_0)).trans hw113_0), ((HB.out.cell (World.block_lt_of_cell? w _ hw115_0)).trans hw115_0), ((HB.out.cell (World.block_lt_of_cell? w _ hw115_1)).trans hw115_1), ((HB.out.cell (World.block_lt_of_cell? w _ hw115_2)).trans hw115_2), ((HB.out.cell (World.block_lt_of_cell? w _ hw116_0)).trans hw116_0), ((HB.out.cell (World.block_lt_of_cell? w _ hw117_0)).trans hw117_0), ((HB.out.cell (World.block_lt_of_cell? w _ hw117_1)).trans hw117_1), ((HB.out.cell (World.block_lt_of_cell? w _ hw117_2)).trans hw117_2), ((HB.out.cell (World.block_lt_of_cell? w _ hw118_0)).trans hw118_0)⟩ (fun hHeld => ?_)
        clear hK K
        refine nm_ 63 ?_
        refine pv_ 34 9 64 1023 rfl rfl HT_ ?_; refine pv_ 34 10 65 2047 rfl rfl HT_ ?_; refine pv_ 34 11 66 4095 rfl rfl HT_ ?_; refine pv_ 34 12 67 8191 rfl rfl HT_ ?_; refine pv_ 34 13 68 16383 rfl rfl HT_ ?_; refine pv_ 34 14 69 32767 rfl rfl HT_ ?_; refine pv_ 34 15 70 65535 rfl rfl HT_ ?_; refine pv_ 34 16 71 131071 rfl rfl HT_ ?_; refine pv_ 34 17 72 262143 rfl rfl HT_ ?_; refine pv_ 34 19 74 786431 rfl rfl HT_ ?_; refine pv_ 34 20 75 1835007 rfl rfl HT_ ?_; refine pv_ 34 23 78 10223615 rfl rfl HT_ ?_; refine pv_ 34 24 79 27000831 rfl rfl HT_ ?_; refine pv_ 34 25 80 60555263 rfl rfl HT_ ?_; refine pv_ 34 26 81 127664127 rfl rfl HT_ ?_; refine pv_ 34 28 83 396099583 rfl rfl HT_ ?_
        refine tv_ 34 18 73 396361727 rfl rfl HT_ HW_ hHeld (by rintro w' ⟨s0, s1, s2, s3, s4, s5, s6, s7, s8, s9, s10, s11⟩; go_simp; with_reducible rfl) ?_
        refine pv_ 34 21 76 398458879 rfl rfl HT_ ?_
        refine tv_ 34 22 77 402653183 rfl rfl HT_ HW_ hHeld (by rintro w' ⟨s0, s1, s2, s3, s4, s5, s6, s7, s8, s9, s10, s11⟩; go_simp; with_reducible rfl) ?_
        refine tv_ 34 27 82 536870911 rfl rfl HT_ HW_ hHeld (by rintro w' ⟨s0, s1, s2, s3, s4, s5, s6, s7, s8, s9, s10, s11⟩; go_simp; with_reducible rfl) ?_
        refine pv_ 34 29 84 1073741823 rfl rfl HT_ ?_
        refine tv_ 34 30 85 2147483647 rfl rfl HT_ HW_ hHeld (by rintro w' ⟨s0, s1, s2, s3, s4, s5, s6, s7, s8, s9, s10, s11⟩; go_simp; with_reducible rfl) ?_
        refine pv_ 34 31 86 4294967295 rfl rfl HT_ ?_; refine pv_ 34 32 87 8589934591 rfl rfl HT_ ?_; refine pv_ 34 33 88 17179869183 rfl rfl HT_ ?_
        refine done_ (done_of HT_.out (by kernel_rfl)) ?_
        try go_wp2
        go_ret
        exact ⟨by first | rfl | (simp [errW_none, errW_some] <;> rfl) | (simp only [← hji25]; first | rfl | (simp [errW_none, errW_some] <;> rfl)) | (simp [*, errW_none, errW_some] <;> rfl), by repeat (first | (with_reducible first | exact HB.out | apply below_alloc | apply pw_below_drewN | apply below_drew1) | exact HB.out)⟩
     subst c17
     have H1 : (some false) = some r := by rw [if_pos rfl] at H; exact H
     clear H
     have H := H1
     clear H1
     obtain rfl := Option.some.inj H
     go_wp2
     go_ret
     exact ⟨by first | rfl | (simp [errW_none, errW_some] <;> rfl) | (simp [*, errW_none, errW_some] <;> rfl), by repeat (first | (with_reducible first | exact HB.out | apply below_alloc | apply pw_below_drewN | apply below_drew1) | exact HB.out)⟩
end Go.Proofs.Ytdlebbmmanjffaa.A
end

section
namespace Go.Proofs.Ytdlebbmmanjffaa.A
open Go.RowKit Go.Proofs.YtdlebbmmanjffaaW.PrintWords Go.Proofs.YtdlebbmmanjffaaW.PrintLast Go.Proofs.YtdlebbmmanjffaaW.PrintMore
attribute [local go_sem] max2_int min2_int max_two min_two max_three min_three max_four min_four   -- for this text's walks alone
set_option linter.unusedVariables false
set_option linter.unusedSimpArgs false
def spec_l4Has.l0 : Nat → List Int → Int → Int → Option (Bool)
  | 0, _, _, _ => none
  | k + 1, x0, x1, x5 => if x5 < (x0.length : Int) then (if 0 ≤ x5 then (if (rd x0 x5) = x1 then (some true) else (spec_l4Has.l0 k x0 x1 (wrap64 (x5 + 1)))) else (none)) else (some false)
def spec_l4Has.f (k : Nat) (l0 : List Int) (a1 : Int) : Option (Bool) := spec_l4Has.l0 k l0 a1 0
set_option maxHeartbeats 8000000 in
set_option maxRecDepth 100000 in
theorem spec_l4Has.calls (k : Nat) (A0 : Option Addr) (c0 : Nat) (l0 : List Int) (a1 : Int) (r : Bool) (w : World) (hr0 : Kd.C (Kd.int .i64) w A0 l0.length l0) (hc0 : l0.length ≤ c0) (h : spec_l4Has.f k l0 a1 = some r) :
  Calls Try.prog 58 #[.slice A0 l0.length c0, .int .i64 a1] w fun e w' => e = .returned (.bool r) ∧ Drawn0 w w' := by
 have HR0 := Aside0.mk hr0
 have HC0 := Aside0.mk hc0
 clear hr0 hc0
 have H : (spec_l4Has.l0 k l0 a1 0) = some r := h
 clear h
 have H' := Aside0.mk H
 clear H
 go_enter Try.func58, Try.ntmps58
 go_wp2
 go_loopg [5] k (fun kq v5 w' => ∃ (x5_1 : Int), v5 = .int .i64 x5_1 ∧ Aside0 (spec_l4Has.l0 kq l0 a1 x5_1 = some r) ∧ Aside0 (kq ≤ k) ∧ Drawn0 w w')
 case atStart => exact ⟨(0), (by first | rfl | (simp; done) | (simp [*]; done)), H', ⟨Nat.le_refl _⟩, by repeat (first | exact Drawn0.refl _ | apply Drawn0.step)⟩
 case round =>
  clear H'
  try clear p2
  obtain ⟨x5_1, rfl, HA, HK1, ⟨m1, rfl⟩⟩ := hrel
  cases gk with
  | zero => exact absurd HA.out (by simp [spec_l4Has.l0])
  | succ k1 =>
   have H := HA.out
   clear HA
   simp only [spec_l4Has.l0] at H
   by_cases c3 : x5_1 < (l0.length : Int)
   ·
    rw [if_pos c3] at H
    have c3b0 : decide (x5_1 < (l0.length : Int)) = true := decide_eq_true c3
    clear c3
    by_cases c4 : 0 ≤ x5_1
    ·
     rw [if_pos c4] at H
     have c4b0 : decide (0 ≤ x5_1) = true := decide_eq_true c4
     clear c4
     by_cases c5 : (rd l0 x5_1) = a1
     ·
      rw [if_pos c5] at H
      have c5b0 : ((rd l0 x5_1) == a1) = true := beq_iff_eq.mpr c5
      have c5b1 : ((rd l0 x5_1) != a1) = false := bne_eq_false_iff_eq.mpr c5
      clear c5
      obtain rfl := Option.some.inj H
      have p170 : 0 ≤ (x5_1 : Int) := of_decide_eq_true (by first | (with_reducible assumption) | assumption)
      have q170 : x5_1 < (l0.length : Int) := of_decide_eq_true (by first | (with_reducible assumption) | assumption)
      obtain ⟨ad170, e170, hx170_0⟩ := Kd.at_int HR0.out x5_1 p170 q170
      cases e170
      replace p170 := eq_true p170
      replace q170 := eq_true q170
      go_wp2
      go_ret
      exact ⟨by first | rfl | (simp; done) | (simp [*]; done), by repeat (first | exact Drawn0.refl _ | apply Drawn0.step)⟩
     ·
      rw [if_neg c5] at H
      have c5b0 : ((rd l0 x5_1) == a1) = false := beq_eq_false_iff_ne.mpr c5
      have c5b1 : ((rd l0 x5_1) != a1) = true := bne_iff_ne.mpr c5
      have H' := Aside0.mk H
      clear H
      have p170 : 0 ≤ (x5_1 : Int) := of_decide_eq_true (by first | (with_reducible assumption) | assumption)
      have q170 : x5_1 < (l0.length : Int) := of_decide_eq_true (by first | (with_reducible assumption) | assumption)
      obtain ⟨ad170, e170, hx170_0⟩ := Kd.at_int HR0.out x5_1 p170 q170
      cases e170
      replace p170 := eq_true p170
      replace q170 := eq_true q170
      go_wp2
      go_roundg k1
      case measure => have := HK1.out; omega
      case rel => exact ⟨(wrap64 (x5_1 + 1)), (by first | rfl | (simp; done) | (simp [*]; done)), H', ⟨by have := HK1.out; omega⟩, by repeat (first | exact Drawn0.refl _ | apply Drawn0.step)⟩
    ·
     rw [if_neg c4] at H
     exact absurd H (by simp)
   ·
    rw [if_neg c3] at H
    have c3b0 : decide (x5_1 < (l0.length : Int)) = false := decide_eq_false c3
    clear c3
    obtain rfl := Option.some.inj H
    go_wp2
    go_ret
    exact ⟨by first | rfl | (simp; done) | (simp [*]; done), by repeat (first | exact Drawn0.refl _ | apply Drawn0.step)⟩
end Go.Proofs.Ytdlebbmmanjffaa.A
end

section
namespace Go.Proofs.Ytdlebbmmanjffaa.A
open Go.RowKit Go.Proofs.YtdlebbmmanjffaaW.PrintWords Go.Proofs.YtdlebbmmanjffaaW.PrintLast Go.Proofs.YtdlebbmmanjffaaW.PrintMore
attribute [local go_sem] max2_int min2_int max_two min_two max_three min_three max_four min_four   -- for this text's walks alone
set_option linter.unusedVariables false
set_option linter.unusedSimpArgs false
def spec_MayJudge.f (k : Nat) (l0 : List (S78)) (a1_0 : Int) (a1_1 : Int) (l1_2 : List Int) (a2_0 : Int) (a2_1 : Int) : Option (Bool) := (spec_FindTeam.f k l0 a2_0).bind fun t228 => ((spec_FindTeam.f k l0 a2_1).bind fun t229 => (if t228 ≥ 0 then (if t229 ≥ 0 then (if 0 ≤ t228 then (if t228 < (l0.length : Int) then (if ((rd_T78 l0 t228).f1) = a1_1 then (some false) else (if 0 ≤ t229 then (if t229 < (l0.length : Int) then (if ((rd_T78 l0 t229).f1) = a1_1 then (some false) else ((spec_l4Has.f k l1_2 a2_0).bind fun t232 => (if t232 = true then (some false) else ((spec_l4Has.f k l1_2 a2_1).bind fun t233 => (some (!t233)))))) else (none)) else (none))) else (none)) else (none)) else (some false)) else (some false)))
def spec_MayJudge.T3 : Bool × List (List Nat × List Nat) := (true, [([], []), ([0], [0]), ([1], [1]), ([2], [2]), ([3, 2], [2, 3]), ([2, 4], [2, 4]), ([5, 2], [5]), ([6], [6]), ([6], [6]), ([7, 8, 6], [6, 7, 8]), ([9, 6], [6, 9]), ([10, 6], [6, 10]), ([6], [6]), ([12, 6], [6, 12]), ([11, 13, 6], [6, 11, 13]), ([6, 14], [6, 14]), ([15, 6], [15]), ([16], [16]), ([16], [16]), ([17, 18, 16], [16, 17, 18]), ([19, 16], [16, 19]), ([20, 16], [16, 20]), ([16], [16]), ([22, 16], [16, 22]), ([21, 23, 16], [16, 21, 23]), ([16, 24], [16, 24]), ([25, 16], [25]), ([26], [26]), ([27, 26], [26, 27]), ([26], [26]), ([29, 26], [26, 29]), ([28, 30, 26, 26], [26, 28, 30]), ([31, 26], [26, 31]), ([26, 32], [26, 32]), ([33, 31], [33]), ([34], [34]), ([35, 34], [34, 35]), ([34], [34]), ([37, 34], [34, 37]), ([36, 38, 34, 34], [34, 36, 38]), ([39, 34], [34, 39]), ([34, 40], [34, 40]), ([41, 39, 0, 1, 2, 3, 4, 5, 6, 7, 8, 9, 10, 11, 12, 13, 14, 15, 16, 17, 18, 19, 20, 21, 22, 23, 24, 25, 26, 27, 28, 29, 30, 31, 32, 33, 34, 35, 36, 37, 38, 39, 40, 41], [41])])
def spec_MayJudge.B3 : List Nat := [0, 1, 3, 7, 15, 31, 63, 127, 127, 511, 1023, 2047, 127, 4223, 16383, 32767, 65535, 131071, 131071, 524287, 1048575, 2097151, 131071, 4325375, 16777215, 33554431, 67108863, 134217727, 268435455, 134217727, 671088639, 2147483647, 4294967295, 8589934591, 17179869183, 34359738367, 68719476735, 34359738367, 171798691839, 549755813887, 1099511627775, 2199023255551, 4398046511103]
theorem spec_MayJudge.tab3 : rtab .any (opsOf Try.f24 3) = spec_MayJudge.T3 := by kernel_rfl
theorem spec_MayJudge.bits3 : waitsOk spec_MayJudge.T3.2 spec_MayJudge.B3 = true := by kernel_rfl
set_option maxHeartbeats 8000000 in
set_option maxRecDepth 100000 in
theorem spec_MayJudge.calls (k : Nat) (A0 : Option Addr) (c0 : Nat) (l0 : List (S78)) (a1_0 : Int) (a1_1 : Int) (A1_2 : Option Addr) (c1_2 : Nat) (l1_2 : List Int) (a2_0 : Int) (a2_1 : Int) (r : Bool) (w : World) (hr0 : Kd.C k78 w A0 l0.length l0) (hc0 : l0.length ≤ c0) (hr1_2 : Kd.C (Kd.int .i64) w A1_2 l1_2.length l1_2) (hc1_2 : l1_2.length ≤ c1_2) (h : spec_MayJudge.f k l0 a1_0 a1_1 l1_2 a2_0 a2_1 = some r) :
  Calls Try.prog 24 #[.slice A0 l0.length c0, .agg #[.int .i64 a1_0, .int .i64 a1_1, .slice A1_2 l1_2.length c1_2], .agg #[.int .i64 a2_0, .int .i64 a2_1]] w fun e w' => e = .returned (.bool r) ∧ Below w.heap.size w w' := by
 have hu46 := Try.underlying46
 have hu48 := Try.underlying48
 have HR0 := Aside0.mk hr0
 have HC0 := Aside0.mk hc0
 clear hr0 hc0
 have HR1_2 := Aside0.mk hr1_2
 have HC1_2 := Aside0.mk hc1_2
 clear hr1_2 hc1_2
 have HB := Aside0.mk (Below.refl w.heap.size w)
 have H : ((spec_FindTeam.f k l0 a2_0).bind fun t228 => ((spec_FindTeam.f k l0 a2_1).bind fun t229 => (if t228 ≥ 0 then (if t229 ≥ 0 then (if 0 ≤ t228 then (if t228 < (l0.length : Int) then (if ((rd_T78 l0 t228).f1) = a1_1 then (some false) else (if 0 ≤ t229 then (if t229 < (l0.length : Int) then (if ((rd_T78 l0 t229).f1) = a1_1 then (some false) else ((spec_l4Has.f k l1_2 a2_0).bind fun t232 => (if t232 = true then (some false) else ((spec_l4Has.f k l1_2 a2_1).bind fun t233 => (some (!t233)))))) else (none)) else (none))) else (none)) else (none)) else (some false)) else (some false)))) = some r := h
 clear h
 replace H := Option.bind_eq_some_iff.mp H
 obtain ⟨t228, A40, H⟩ := H
 replace H : ((spec_FindTeam.f k l0 a2_1).bind fun t229 => (if t228 ≥ 0 then (if t229 ≥ 0 then (if 0 ≤ t228 then (if t228 < (l0.length : Int) then (if ((rd_T78 l0 t228).f1) = a1_1 then (some false) else (if 0 ≤ t229 then (if t229 < (l0.length : Int) then (if ((rd_T78 l0 t229).f1) = a1_1 then (some false) else ((spec_l4Has.f k l1_2 a2_0).bind fun t232 => (if t232 = true then (some false) else ((spec_l4Has.f k l1_2 a2_1).bind fun t233 => (some (!t233)))))) else (none)) else (none))) else (none)) else (none)) else (some false)) else (some false))) = some r := H
 have A4 := Aside0.mk A40
 clear A40
 replace H := Option.bind_eq_some_iff.mp H
 obtain ⟨t229, A50, H⟩ := H
 replace H : (if t228 ≥ 0 then (if t229 ≥ 0 then (if 0 ≤ t228 then (if t228 < (l0.length : Int) then (if ((rd_T78 l0 t228).f1) = a1_1 then (some false) else (if 0 ≤ t229 then (if t229 < (l0.length : Int) then (if ((rd_T78 l0 t229).f1) = a1_1 then (some false) else ((spec_l4Has.f k l1_2 a2_0).bind fun t232 => (if t232 = true then (some false) else ((spec_l4Has.f k l1_2 a2_1).bind fun t233 => (some (!t233)))))) else (none)) else (none))) else (none)) else (none)) else (some false)) else (some false)) = some r := H
 have A5 := Aside0.mk A50
 clear A50
 by_cases c6 : t228 ≥ 0
 rotate_left
 ·
  rw [if_neg c6] at H
  have c6b0 : decide (0 ≤ t228) = false := decide_eq_false c6
  clear c6
  obtain rfl := Option.some.inj H
  go_enter Try.func24, Try.ntmps24
  try go_wp2_with (first | ((with_reducible refine gate_dst (N := 4) rfl ?_); refine box_event ?hg (N := 4) ?hd (cs := #[.int .i64 a1_0, .int .i64 a1_1, .slice A1_2 l1_2.length c1_2]) (t := 46) ?hr ?_; (case hd => rfl); (case hg => rfl); (case hr => first | (go_simp; done) | (go_simp; rfl)); intro gb226 hg w42 hbox hb; have n0_ := Aside0.mk (below_step (by repeat (first | (with_reducible first | exact HB.out | apply below_alloc | apply pw_below_drewN | apply below_drew1) | exact HB.out)) hb); have n1_ := Aside0.mk (hbox); have n2_ := Aside0.mk ((by rw [hg]; exact (below_size (by repeat (first | (with_reducible first | exact HB.out | apply below_alloc | apply pw_below_drewN | apply below_drew1) | exact HB.out))) : w.heap.size ≤ gb226)); have n3_ := Aside0.mk ((by rw [hg]; exact (below_size (by repeat (first | (with_reducible first | exact HB.out | apply below_alloc | apply pw_below_drewN | apply below_drew1) | exact HB.out))) : w.heap.size ≤ gb226)); clear HB; have HB := n0_; have BK226 := n1_; have GW226 := n2_; have GE226 := n3_; clear n0_ n1_ n2_ n3_; clear hb hbox hg) | ((with_reducible refine gate_dst (N := 5) rfl ?_); refine box_event ?hg (N := 5) ?hd (cs := #[.int .i64 a2_0, .int .i64 a2_1]) (t := 48) ?hr ?_; (case hd => rfl); (case hg => rfl); (case hr => first | (go_simp; done) | (go_simp; rfl)); intro gb227 hg w43 hbox hb; have n0_ := Aside0.mk (blk_below (g := gb226) (o := .cells #[.int .i64 a1_0, .int .i64 a1_1, .slice A1_2 l1_2.length c1_2] 46 (0, 0)) (by (with_reducible repeat (first | refine blk_drewN ?_ _ | refine blk_drew ?_ | refine blk_alloc ?_ _)); exact BK226.out) hb); have n1_ := Aside0.mk (below_step (by repeat (first | (with_reducible first | exact HB.out | apply below_alloc | apply pw_below_drewN | apply below_drew1 | refine below_set ?_ GE226.out) | exact HB.out)) hb); have n2_ := Aside0.mk (hbox); have n3_ := Aside0.mk ((by rw [hg]; exact (below_size (by repeat (first | (with_reducible first | exact HB.out | apply below_alloc | apply pw_below_drewN | apply below_drew1 | refine below_set ?_ GE226.out) | exact HB.out))) : w.heap.size ≤ gb227)); have n4_ := Aside0.mk ((by rw [hg]; exact (below_size (by repeat (first | (with_reducible first | exact HB.out | apply below_alloc | apply pw_below_drewN | apply below_drew1 | refine below_set ?_ GE226.out) | exact HB.out))) : w.heap.size ≤ gb227)); have n5_ := Aside0.mk ((by rw [hg]; exact Nat.ne_of_lt (blk_lt (g := gb226) (o := .cells #[.int .i64 a1_0, .int .i64 a1_1, .slice A1_2 l1_2.length c1_2] 46 (0, 0)) (by (with_reducible repeat (first | refine blk_drewN ?_ _ | refine blk_drew ?_ | refine blk_alloc ?_ _)); exact BK226.out)) : gb226 ≠ gb227)); have n6_ := Aside0.mk ((by rw [hg]; exact Nat.ne_of_gt (blk_lt (g := gb226) (o := .cells #[.int .i64 a1_0, .int .i64 a1_1, .slice A1_2 l1_2.length c1_2] 46 (0, 0)) (by (with_reducible repeat (first | refine blk_drewN ?_ _ | refine blk_drew ?_ | refine blk_alloc ?_ _)); exact BK226.out)) : gb227 ≠ gb226)); clear BK226; clear HB; have BK226 := n0_; have HB := n1_; have BK227 := n2_; have GW227 := n3_; have GE227 := n4_; have NB226_227 := n5_; have NB227_226 := n6_; clear n0_ n1_ n2_ n3_ n4_ n5_ n6_; clear hb hbox hg; have hnb44 := NB227_226.out; have hnc44 := NB226_227.out; have hcz45_0 : w43.cell? ⟨gb227, 0, none⟩ = some (.int .i64 a2_0) := (blk_cell BK227.out 0).trans rfl; have hcz45_1 : w43.cell? ⟨gb227, 1, none⟩ = some (.int .i64 a2_1) := (blk_cell BK227.out 1).trans rfl; have hfz45_0 := blk_frozen BK227.out 0; have hfz45_1 := blk_frozen BK227.out 1) | ((with_reducible refine gate_callee (f := 62) rfl ?_); refine goesL_ (some 12) rfl rfl Try.func62 (by kernel_rfl) rfl #[.slice A0 l0.length c0, .int .i64 a2_0] rfl (by (try simp only [List.map_toArray, List.map_cons, List.map_nil]); first | done | rfl | (simp only [List.length_drop, List.length_take]; rfl)) ?_; (with_reducible refine (spec_FindTeam.calls k _ _ l0 a2_0 t228 _ ?side1 ?side2 A4.out).mono ?_); (case side1 => repeat (first | exact (Kd.C_below HR0.out HB.out) | (with_reducible refine Kd.C_alloc ?_ _) | (with_reducible refine Kd.C_drewN ?_ _) | (with_reducible refine Kd.C_drew ?_))); (case side2 => exact HC0.out); rintro e w' ⟨rfl, ⟨nd, rfl⟩⟩; refine ⟨_, rfl, ?_⟩) | ((with_reducible refine gate_callee (f := 62) rfl ?_); refine goesL_ (some 16) rfl rfl Try.func62 (by kernel_rfl) rfl #[.slice A0 l0.length c0, .int .i64 a2_1] rfl (by (try simp only [List.map_toArray, List.map_cons, List.map_nil]); first | done | rfl | (simp only [List.length_drop, List.length_take]; rfl)) ?_; (with_reducible refine (spec_FindTeam.calls k _ _ l0 a2_1 t229 _ ?side1 ?side2 A5.out).mono ?_); (case side1 => repeat (first | exact (Kd.C_below HR0.out (by repeat (first | (with_reducible first | exact HB.out | apply below_alloc | apply pw_below_drewN | apply below_drew1 | refine below_set ?_ GE226.out | refine below_set ?_ GE227.out) | exact HB.out))) | (with_reducible refine Kd.C_alloc ?_ _) | (with_reducible refine Kd.C_drewN ?_ _) | (with_reducible refine Kd.C_drew ?_))); (case side2 => exact HC0.out); rintro e w' ⟨rfl, ⟨nd, rfl⟩⟩; refine ⟨_, rfl, ?_⟩))
  (try (rw [drewN_self w43]; generalize hq_ : World.drewN w43 _ = w43; have n0_ : Aside0 (w43.heap[gb226]? = some (.cells #[.int .i64 a1_0, .int .i64 a1_1, .slice A1_2 l1_2.length c1_2] 46 (0, 0))) := ⟨by rw [← hq_]; exact (by (with_reducible repeat (first | refine blk_drewN ?_ _ | refine blk_drew ?_ | refine blk_alloc ?_ _)); exact BK226.out)⟩; have n1_ : Aside0 (w43.heap[gb227]? = some (.cells #[.int .i64 a2_0, .int .i64 a2_1] 48 (0, 0))) := ⟨by rw [← hq_]; exact (by (with_reducible repeat (first | refine blk_drewN ?_ _ | refine blk_drew ?_ | refine blk_alloc ?_ _)); exact BK227.out)⟩; have n2_ : Aside0 (Below w.heap.size w w43) := ⟨by rw [← hq_]; exact (by repeat (first | (with_reducible first | exact HB.out | apply below_alloc | apply pw_below_drewN | apply below_drew1 | refine below_set ?_ GE226.out | refine below_set ?_ GE227.out) | exact HB.out))⟩; clear BK226 BK227 HB hq_; have BK226 := n0_; have BK227 := n1_; have HB := n2_; clear n0_ n1_ n2_))
  have n0_ := Aside0.mk (blk_drew BK226.out)
  have n1_ := Aside0.mk (blk_drew BK227.out)
  have n2_ := Aside0.mk (below_drew1 HB.out)
  clear BK226
  clear BK227
  clear HB
  have BK226 := n0_
  have BK227 := n1_
  have HB := n2_
  clear n0_ n1_ n2_
  refine start_ (n := 43) (S := fun w' => True) (ds := []) (bv 43 0) (by kernel_rfl) rfl rfl trivial (fun hHeld => ?_); refine with_tabW spec_MayJudge.tab3 spec_MayJudge.bits3 (fun HT_ HW_ => ?_)
  generalize w43.drew = w46 at BK226 BK227 HB hHeld ⊢
  refine pv_ 43 0 17 1 rfl rfl HT_ ?_; refine pv_ 43 1 18 3 rfl rfl HT_ ?_; refine pv_ 43 2 19 7 rfl rfl HT_ ?_; refine pu_ 43 3 20 15 rfl rfl HT_ ?_; refine pu_ 43 4 21 31 rfl rfl HT_ ?_; refine pv_ 43 5 22 63 rfl rfl HT_ ?_; refine pv_ 43 6 23 127 rfl rfl HT_ ?_; refine pu_ 43 7 24 255 rfl rfl HT_ ?_; refine pu_ 43 8 25 511 rfl rfl HT_ ?_; refine pu_ 43 9 26 1023 rfl rfl HT_ ?_; refine pu_ 43 10 27 2047 rfl rfl HT_ ?_; refine pu_ 43 11 28 4095 rfl rfl HT_ ?_; refine pu_ 43 12 29 8191 rfl rfl HT_ ?_; refine pu_ 43 13 30 16383 rfl rfl HT_ ?_; refine pu_ 43 14 31 32767 rfl rfl HT_ ?_; refine pv_ 43 15 32 65535 rfl rfl HT_ ?_; refine pv_ 43 16 33 131071 rfl rfl HT_ ?_; refine pu_ 43 17 34 262143 rfl rfl HT_ ?_; refine pu_ 43 18 35 524287 rfl rfl HT_ ?_; refine pu_ 43 19 36 1048575 rfl rfl HT_ ?_; refine pu_ 43 20 37 2097151 rfl rfl HT_ ?_; refine pu_ 43 21 38 4194303 rfl rfl HT_ ?_; refine pu_ 43 22 39 8388607 rfl rfl HT_ ?_
  refine pu_ 43 23 40 16777215 rfl rfl HT_ ?_; refine pu_ 43 24 41 33554431 rfl rfl HT_ ?_; refine pv_ 43 25 42 67108863 rfl rfl HT_ ?_; refine pv_ 43 26 43 134217727 rfl rfl HT_ ?_; refine pu_ 43 27 44 268435455 rfl rfl HT_ ?_; refine pu_ 43 28 45 536870911 rfl rfl HT_ ?_; refine pu_ 43 29 46 1073741823 rfl rfl HT_ ?_; refine pu_ 43 30 47 2147483647 rfl rfl HT_ ?_; refine pu_ 43 31 48 4294967295 rfl rfl HT_ ?_; refine pu_ 43 32 49 8589934591 rfl rfl HT_ ?_; refine pv_ 43 33 50 17179869183 rfl rfl HT_ ?_; refine pv_ 43 34 51 34359738367 rfl rfl HT_ ?_; refine pu_ 43 35 52 68719476735 rfl rfl HT_ ?_; refine pu_ 43 36 53 137438953471 rfl rfl HT_ ?_; refine pu_ 43 37 54 274877906943 rfl rfl HT_ ?_; refine pu_ 43 38 55 549755813887 rfl rfl HT_ ?_; refine pu_ 43 39 56 1099511627775 rfl rfl HT_ ?_; refine pu_ 43 40 57 2199023255551 rfl rfl HT_ ?_; refine pv_ 43 41 58 4398046511103 rfl rfl HT_ ?_
  refine pv_ 43 42 6 8796093022207 rfl rfl HT_ ?_
  refine done_ (done_of HT_.out (by kernel_rfl)) ?_
  try go_wp2
  go_ret
  exact ⟨by first | rfl | (simp [errW_none, errW_some] <;> rfl) | (simp [*, errW_none, errW_some] <;> rfl), by repeat (first | (with_reducible first | exact HB.out | apply below_alloc | apply pw_below_drewN | apply below_drew1 | refine below_set ?_ GE226.out | refine below_set ?_ GE227.out) | exact HB.out)⟩

 rw [if_pos c6] at H
 have c6b0 : decide (0 ≤ t228) = true := decide_eq_true c6
 clear c6
 by_cases c7 : t229 ≥ 0
 rotate_left
 ·
  rw [if_neg c7] at H
  have c7b0 : decide (0 ≤ t229) = false := decide_eq_false c7
  clear c7
  obtain rfl := Option.some.inj H
  go_enter Try.func24, Try.ntmps24
  try go_wp2_with (first | ((with_reducible refine gate_dst (N := 4) rfl ?_); refine box_event ?hg (N := 4) ?hd (cs := #[.int .i64 a1_0, .int .i64 a1_1, .slice A1_2 l1_2.length c1_2]) (t := 46) ?hr ?_; (case hd => rfl); (case hg => rfl); (case hr => first | (go_simp; done) | (go_simp; rfl)); intro gb226 hg w37 hbox hb; have n0_ := Aside0.mk (below_step (by repeat (first | (with_reducible first | exact HB.out | apply below_alloc | apply pw_below_drewN | apply below_drew1) | exact HB.out)) hb); have n1_ := Aside0.mk (hbox); have n2_ := Aside0.mk ((by rw [hg]; exact (below_size (by repeat (first | (with_reducible first | exact HB.out | apply below_alloc | apply pw_below_drewN | apply below_drew1) | exact HB.out))) : w.heap.size ≤ gb226)); have n3_ := Aside0.mk ((by rw [hg]; exact (below_size (by repeat (first | (with_reducible first | exact HB.out | apply below_alloc | apply pw_below_drewN | apply below_drew1) | exact HB.out))) : w.heap.size ≤ gb226)); clear HB; have HB := n0_; have BK226 := n1_; have GW226 := n2_; have GE226 := n3_; clear n0_ n1_ n2_ n3_; clear hb hbox hg) | ((with_reducible refine gate_dst (N := 5) rfl ?_); refine box_event ?hg (N := 5) ?hd (cs := #[.int .i64 a2_0, .int .i64 a2_1]) (t := 48) ?hr ?_; (case hd => rfl); (case hg => rfl); (case hr => first | (go_simp; done) | (go_simp; rfl)); intro gb227 hg w38 hbox hb; have n0_ := Aside0.mk (blk_below (g := gb226) (o := .cells #[.int .i64 a1_0, .int .i64 a1_1, .slice A1_2 l1_2.length c1_2] 46 (0, 0)) (by (with_reducible repeat (first | refine blk_drewN ?_ _ | refine blk_drew ?_ | refine blk_alloc ?_ _)); exact BK226.out) hb); have n1_ := Aside0.mk (below_step (by repeat (first | (with_reducible first | exact HB.out | apply below_alloc | apply pw_below_drewN | apply below_drew1 | refine below_set ?_ GE226.out) | exact HB.out)) hb); have n2_ := Aside0.mk (hbox); have n3_ := Aside0.mk ((by rw [hg]; exact (below_size (by repeat (first | (with_reducible first | exact HB.out | apply below_alloc | apply pw_below_drewN | apply below_drew1 | refine below_set ?_ GE226.out) | exact HB.out))) : w.heap.size ≤ gb227)); have n4_ := Aside0.mk ((by rw [hg]; exact (below_size (by repeat (first | (with_reducible first | exact HB.out | apply below_alloc | apply pw_below_drewN | apply below_drew1 | refine below_set ?_ GE226.out) | exact HB.out))) : w.heap.size ≤ gb227)); have n5_ := Aside0.mk ((by rw [hg]; exact Nat.ne_of_lt (blk_lt (g := gb226) (o := .cells #[.int .i64 a1_0, .int .i64 a1_1, .slice A1_2 l1_2.length c1_2] 46 (0, 0)) (by (with_reducible repeat (first | refine blk_drewN ?_ _ | refine blk_drew ?_ | refine blk_alloc ?_ _)); exact BK226.out)) : gb226 ≠ gb227)); have n6_ := Aside0.mk ((by rw [hg]; exact Nat.ne_of_gt (blk_lt (g := gb226) (o := .cells #[.int .i64 a1_0, .int .i64 a1_1, .slice A1_2 l1_2.length c1_2] 46 (0, 0)) (by (with_reducible repeat (first | refine blk_drewN ?_ _ | refine blk_drew ?_ | refine blk_alloc ?_ _)); exact BK226.out)) : gb227 ≠ gb226)); clear BK226; clear HB; have BK226 := n0_; have HB := n1_; have BK227 := n2_; have GW227 := n3_; have GE227 := n4_; have NB226_227 := n5_; have NB227_226 := n6_; clear n0_ n1_ n2_ n3_ n4_ n5_ n6_; clear hb hbox hg; have hnb39 := NB227_226.out; have hnc39 := NB226_227.out; have hcz40_0 : w38.cell? ⟨gb227, 0, none⟩ = some (.int .i64 a2_0) := (blk_cell BK227.out 0).trans rfl; have hcz40_1 : w38.cell? ⟨gb227, 1, none⟩ = some (.int .i64 a2_1) := (blk_cell BK227.out 1).trans rfl; have hfz40_0 := blk_frozen BK227.out 0; have hfz40_1 := blk_frozen BK227.out 1) | ((with_reducible refine gate_callee (f := 62) rfl ?_); refine goesL_ (some 12) rfl rfl Try.func62 (by kernel_rfl) rfl #[.slice A0 l0.length c0, .int .i64 a2_0] rfl (by (try simp only [List.map_toArray, List.map_cons, List.map_nil]); first | done | rfl | (simp only [List.length_drop, List.length_take]; rfl)) ?_; (with_reducible refine (spec_FindTeam.calls k _ _ l0 a2_0 t228 _ ?side1 ?side2 A4.out).mono ?_); (case side1 => repeat (first | exact (Kd.C_below HR0.out HB.out) | (with_reducible refine Kd.C_alloc ?_ _) | (with_reducible refine Kd.C_drewN ?_ _) | (with_reducible refine Kd.C_drew ?_))); (case side2 => exact HC0.out); rintro e w' ⟨rfl, ⟨nd, rfl⟩⟩; refine ⟨_, rfl, ?_⟩) | ((with_reducible refine gate_callee (f := 62) rfl ?_); refine goesL_ (some 16) rfl rfl Try.func62 (by kernel_rfl) rfl #[.slice A0 l0.length c0, .int .i64 a2_1] rfl (by (try simp only [List.map_toArray, List.map_cons, List.map_nil]); first | done | rfl | (simp only [List.length_drop, List.length_take]; rfl)) ?_; (with_reducible refine (spec_FindTeam.calls k _ _ l0 a2_1 t229 _ ?side1 ?side2 A5.out).mono ?_); (case side1 => repeat (first | exact (Kd.C_below HR0.out (by repeat (first | (with_reducible first | exact HB.out | apply below_alloc | apply pw_below_drewN | apply below_drew1 | refine below_set ?_ GE226.out | refine below_set ?_ GE227.out) | exact HB.out))) | (with_reducible refine Kd.C_alloc ?_ _) | (with_reducible refine Kd.C_drewN ?_ _) | (with_reducible refine Kd.C_drew ?_))); (case side2 => exact HC0.out); rintro e w' ⟨rfl, ⟨nd, rfl⟩⟩; refine ⟨_, rfl, ?_⟩))
  (try (rw [drewN_self w38]; generalize hq_ : World.drewN w38 _ = w38; have n0_ : Aside0 (w38.heap[gb226]? = some (.cells #[.int .i64 a1_0, .int .i64 a1_1, .slice A1_2 l1_2.length c1_2] 46 (0, 0))) := ⟨by rw [← hq_]; exact (by (with_reducible repeat (first | refine blk_drewN ?_ _ | refine blk_drew ?_ | refine blk_alloc ?_ _)); exact BK226.out)⟩; have n1_ : Aside0 (w38.heap[gb227]? = some (.cells #[.int .i64 a2_0, .int .i64 a2_1] 48 (0, 0))) := ⟨by rw [← hq_]; exact (by (with_reducible repeat (first | refine blk_drewN ?_ _ | refine blk_drew ?_ | refine blk_alloc ?_ _)); exact BK227.out)⟩; have n2_ : Aside0 (Below w.heap.size w w38) := ⟨by rw [← hq_]; exact (by repeat (first | (with_reducible first | exact HB.out | apply below_alloc | apply pw_below_drewN | apply below_drew1 | refine below_set ?_ GE226.out | refine below_set ?_ GE227.out) | exact HB.out))⟩; clear BK226 BK227 HB hq_; have BK226 := n0_; have BK227 := n1_; have HB := n2_; clear n0_ n1_ n2_))
  have n0_ := Aside0.mk (blk_drew BK226.out)
  have n1_ := Aside0.mk (blk_drew BK227.out)
  have n2_ := Aside0.mk (below_drew1 HB.out)
  clear BK226
  clear BK227
  clear HB
  have BK226 := n0_
  have BK227 := n1_
  have HB := n2_
  clear n0_ n1_ n2_
  refine start_ (n := 43) (S := fun w' => True) (ds := []) (bv 43 0) (by kernel_rfl) rfl rfl trivial (fun hHeld => ?_); refine with_tabW spec_MayJudge.tab3 spec_MayJudge.bits3 (fun HT_ HW_ => ?_)
  generalize w38.drew = w41 at BK226 BK227 HB hHeld ⊢
  refine pv_ 43 0 17 1 rfl rfl HT_ ?_; refine pv_ 43 1 18 3 rfl rfl HT_ ?_; refine pv_ 43 2 19 7 rfl rfl HT_ ?_; refine pv_ 43 3 20 15 rfl rfl HT_ ?_; refine pv_ 43 4 21 31 rfl rfl HT_ ?_; refine pv_ 43 5 22 63 rfl rfl HT_ ?_; refine pv_ 43 6 23 127 rfl rfl HT_ ?_; refine pu_ 43 7 24 255 rfl rfl HT_ ?_; refine pu_ 43 8 25 511 rfl rfl HT_ ?_; refine pu_ 43 9 26 1023 rfl rfl HT_ ?_; refine pu_ 43 10 27 2047 rfl rfl HT_ ?_; refine pu_ 43 11 28 4095 rfl rfl HT_ ?_; refine pu_ 43 12 29 8191 rfl rfl HT_ ?_; refine pu_ 43 13 30 16383 rfl rfl HT_ ?_; refine pu_ 43 14 31 32767 rfl rfl HT_ ?_; refine pv_ 43 15 32 65535 rfl rfl HT_ ?_; refine pv_ 43 16 33 131071 rfl rfl HT_ ?_; refine pu_ 43 17 34 262143 rfl rfl HT_ ?_; refine pu_ 43 18 35 524287 rfl rfl HT_ ?_; refine pu_ 43 19 36 1048575 rfl rfl HT_ ?_; refine pu_ 43 20 37 2097151 rfl rfl HT_ ?_; refine pu_ 43 21 38 4194303 rfl rfl HT_ ?_; refine pu_ 43 22 39 8388607 rfl rfl HT_ ?_
  refine pu_ 43 23 40 16777215 rfl rfl HT_ ?_; refine pu_ 43 24 41 33554431 rfl rfl HT_ ?_; refine pv_ 43 25 42 67108863 rfl rfl HT_ ?_; refine pv_ 43 26 43 134217727 rfl rfl HT_ ?_; refine pu_ 43 27 44 268435455 rfl rfl HT_ ?_; refine pu_ 43 28 45 536870911 rfl rfl HT_ ?_; refine pu_ 43 29 46 1073741823 rfl rfl HT_ ?_; refine pu_ 43 30 47 2147483647 rfl rfl HT_ ?_; refine pu_ 43 31 48 4294967295 rfl rfl HT_ ?_; refine pu_ 43 32 49 8589934591 rfl rfl HT_ ?_; refine pv_ 43 33 50 17179869183 rfl rfl HT_ ?_; refine pv_ 43 34 51 34359738367 rfl rfl HT_ ?_; refine pu_ 43 35 52 68719476735 rfl rfl HT_ ?_; refine pu_ 43 36 53 137438953471 rfl rfl HT_ ?_; refine pu_ 43 37 54 274877906943 rfl rfl HT_ ?_; refine pu_ 43 38 55 549755813887 rfl rfl HT_ ?_; refine pu_ 43 39 56 1099511627775 rfl rfl HT_ ?_; refine pu_ 43 40 57 2199023255551 rfl rfl HT_ ?_; refine pv_ 43 41 58 4398046511103 rfl rfl HT_ ?_
  refine pv_ 43 42 6 8796093022207 rfl rfl HT_ ?_
  refine done_ (done_of HT_.out (by kernel_rfl)) ?_
  try go_wp2
  go_ret
  exact ⟨by first | rfl | (simp [errW_none, errW_some] <;> rfl) | (simp [*, errW_none, errW_some] <;> rfl), by repeat (first | (with_reducible first | exact HB.out | apply below_alloc | apply pw_below_drewN | apply below_drew1 | refine below_set ?_ GE226.out | refine below_set ?_ GE227.out) | exact HB.out)⟩
 rw [if_pos c7] at H
 have c7b0 : decide (0 ≤ t229) = true := decide_eq_true c7
 clear c7
 by_cases c8 : 0 ≤ t228
 rotate_left
 ·
  rw [if_neg c8] at H
  exact absurd H (by simp)
 rw [if_pos c8] at H
 have c8b0 : decide (0 ≤ t228) = true := decide_eq_true c8
 clear c8
 by_cases c9 : t228 < (l0.length : Int)
 rotate_left
 ·
  rw [if_neg c9] at H
  exact absurd H (by simp)
 rw [if_pos c9] at H
 have c9b0 : decide (t228 < (l0.length : Int)) = true := decide_eq_true c9
 clear c9
 by_cases c10 : ((rd_T78 l0 t228).f1) = a1_1
 rotate_left
 ·
  rw [if_neg c10] at H
  have c10b0 : (((rd_T78 l0 t228).f1) == a1_1) = false := beq_eq_false_iff_ne.mpr c10
  have c10b1 : (((rd_T78 l0 t228).f1) != a1_1) = true := bne_iff_ne.mpr c10
  by_cases c16 : 0 ≤ t229
  rotate_left
  ·
   rw [if_neg c16] at H
   exact absurd H (by simp)
  rw [if_pos c16] at H
  have c16b0 : decide (0 ≤ t229) = true := decide_eq_true c16
  clear c16
  by_cases c17 : t229 < (l0.length : Int)
  rotate_left
  ·
   rw [if_neg c17] at H
   exact absurd H (by simp)
  rw [if_pos c17] at H
  have c17b0 : decide (t229 < (l0.length : Int)) = true := decide_eq_true c17
  clear c17
  by_cases c18 : ((rd_T78 l0 t229).f1) = a1_1
  rotate_left
  ·
   rw [if_neg c18] at H
   have c18b0 : (((rd_T78 l0 t229).f1) == a1_1) = false := beq_eq_false_iff_ne.mpr c18
   have c18b1 : (((rd_T78 l0 t229).f1) != a1_1) = true := bne_iff_ne.mpr c18
   replace H := Option.bind_eq_some_iff.mp H
   obtain ⟨t232, A240, H⟩ := H
   replace H : (if t232 = true then (some false) else ((spec_l4Has.f k l1_2 a2_1).bind fun t233 => (some (!t233)))) = some r := H
   have A24 := Aside0.mk A240
   clear A240
   by_cases c25 : t232 = true
   rotate_left
   ·
    replace c25 := Bool.eq_false_iff.mpr c25
    subst c25
    have H1 : ((spec_l4Has.f k l1_2 a2_1).bind fun t233 => (some (!t233))) = some r := by rw [if_neg (show ¬ (false = true) by decide)] at H; exact H
    clear H
    have H := H1
    clear H1
    replace H := Option.bind_eq_some_iff.mp H
    obtain ⟨t233, A310, H⟩ := H
    replace H : (some (!t233)) = some r := H
    have A31 := Aside0.mk A310
    clear A310
    obtain rfl := Option.some.inj H
    go_enter Try.func24, Try.ntmps24
    try go_wp2_with (first | ((with_reducible refine gate_dst (N := 4) rfl ?_); refine box_event ?hg (N := 4) ?hd (cs := #[.int .i64 a1_0, .int .i64 a1_1, .slice A1_2 l1_2.length c1_2]) (t := 46) ?hr ?_; (case hd => rfl); (case hg => rfl); (case hr => first | (go_simp; done) | (go_simp; rfl)); intro gb226 hg w32 hbox hb; have n0_ := Aside0.mk (below_step (by repeat (first | (with_reducible first | exact HB.out | apply below_alloc | apply pw_below_drewN | apply below_drew1) | exact HB.out)) hb); have n1_ := Aside0.mk (hbox); have n2_ := Aside0.mk ((by rw [hg]; exact (below_size (by repeat (first | (with_reducible first | exact HB.out | apply below_alloc | apply pw_below_drewN | apply below_drew1) | exact HB.out))) : w.heap.size ≤ gb226)); have n3_ := Aside0.mk ((by rw [hg]; exact (below_size (by repeat (first | (with_reducible first | exact HB.out | apply below_alloc | apply pw_below_drewN | apply below_drew1) | exact HB.out))) : w.heap.size ≤ gb226)); clear HB; have HB := n0_; have BK226 := n1_; have GW226 := n2_; have GE226 := n3_; clear n0_ n1_ n2_ n3_; clear hb hbox hg) | ((with_reducible refine gate_dst (N := 5) rfl ?_); refine box_event ?hg (N := 5) ?hd (cs := #[.int .i64 a2_0, .int .i64 a2_1]) (t := 48) ?hr ?_; (case hd => rfl); (case hg => rfl); (case hr => first | (go_simp; done) | (go_simp; rfl)); intro gb227 hg w33 hbox hb; have n0_ := Aside0.mk (blk_below (g := gb226) (o := .cells #[.int .i64 a1_0, .int .i64 a1_1, .slice A1_2 l1_2.length c1_2] 46 (0, 0)) (by (with_reducible repeat (first | refine blk_drewN ?_ _ | refine blk_drew ?_ | refine blk_alloc ?_ _)); exact BK226.out) hb); have n1_ := Aside0.mk (below_step (by repeat (first | (with_reducible first | exact HB.out | apply below_alloc | apply pw_below_drewN | apply below_drew1 | refine below_set ?_ GE226.out) | exact HB.out)) hb); have n2_ := Aside0.mk (hbox); have n3_ := Aside0.mk ((by rw [hg]; exact (below_size (by repeat (first | (with_reducible first | exact HB.out | apply below_alloc | apply pw_below_drewN | apply below_drew1 | refine below_set ?_ GE226.out) | exact HB.out))) : w.heap.size ≤ gb227)); have n4_ := Aside0.mk ((by rw [hg]; exact (below_size (by repeat (first | (with_reducible first | exact HB.out | apply below_alloc | apply pw_below_drewN | apply below_drew1 | refine below_set ?_ GE226.out) | exact HB.out))) : w.heap.size ≤ gb227)); have n5_ := Aside0.mk ((by rw [hg]; exact Nat.ne_of_lt (blk_lt (g := gb226) (o := .cells #[.int .i64 a1_0, .int .i64 a1_1, .slice A1_2 l1_2.length c1_2] 46 (0, 0)) (by (with_reducible repeat (first | refine blk_drewN ?_ _ | refine blk_drew ?_ | refine blk_alloc ?_ _)); exact BK226.out)) : gb226 ≠ gb227)); have n6_ := Aside0.mk ((by rw [hg]; exact Nat.ne_of_gt (blk_lt (g := gb226) (o := .cells #[.int .i64 a1_0, .int .i64 a1_1, .slice A1_2 l1_2.length c1_2] 46 (0, 0)) (by (with_reducible repeat (first | refine blk_drewN ?_ _ | refine blk_drew ?_ | refine blk_alloc ?_ _)); exact BK226.out)) : gb227 ≠ gb226)); clear BK226; clear HB; have BK226 := n0_; have HB := n1_; have BK227 := n2_; have GW227 := n3_; have GE227 := n4_; have NB226_227 := n5_; have NB227_226 := n6_; clear n0_ n1_ n2_ n3_ n4_ n5_ n6_; clear hb hbox hg; have hnb34 := NB227_226.out; have hnc34 := NB226_227.out; have hcz35_0 : w33.cell? ⟨gb227, 0, none⟩ = some (.int .i64 a2_0) := (blk_cell BK227.out 0).trans rfl; have hcz35_1 : w33.cell? ⟨gb227, 1, none⟩ = some (.int .i64 a2_1) := (blk_cell BK227.out 1).trans rfl; have hfz35_0 := blk_frozen BK227.out 0; have hfz35_1 := blk_frozen BK227.out 1) | ((with_reducible refine gate_callee (f := 62) rfl ?_); refine goesL_ (some 12) rfl rfl Try.func62 (by kernel_rfl) rfl #[.slice A0 l0.length c0, .int .i64 a2_0] rfl (by (try simp only [List.map_toArray, List.map_cons, List.map_nil]); first | done | rfl | (simp only [List.length_drop, List.length_take]; rfl)) ?_; (with_reducible refine (spec_FindTeam.calls k _ _ l0 a2_0 t228 _ ?side1 ?side2 A4.out).mono ?_); (case side1 => repeat (first | exact (Kd.C_below HR0.out HB.out) | (with_reducible refine Kd.C_alloc ?_ _) | (with_reducible refine Kd.C_drewN ?_ _) | (with_reducible refine Kd.C_drew ?_))); (case side2 => exact HC0.out); rintro e w' ⟨rfl, ⟨nd, rfl⟩⟩; refine ⟨_, rfl, ?_⟩) | ((with_reducible refine gate_callee (f := 62) rfl ?_); refine goesL_ (some 16) rfl rfl Try.func62 (by kernel_rfl) rfl #[.slice A0 l0.length c0, .int .i64 a2_1] rfl (by (try simp only [List.map_toArray, List.map_cons, List.map_nil]); first | done | rfl | (simp only [List.length_drop, List.length_take]; rfl)) ?_; (with_reducible refine (spec_FindTeam.calls k _ _ l0 a2_1 t229 _ ?side1 ?side2 A5.out).mono ?_); (case side1 => repeat (first | exact (Kd.C_below HR0.out (by repeat (first | (with_reducible first | exact HB.out | apply below_alloc | apply pw_below_drewN | apply below_drew1 | refine below_set ?_ GE226.out | refine below_set ?_ GE227.out) | exact HB.out))) | (with_reducible refine Kd.C_alloc ?_ _) | (with_reducible refine Kd.C_drewN ?_ _) | (with_reducible refine Kd.C_drew ?_))); (case side2 => exact HC0.out); rintro e w' ⟨rfl, ⟨nd, rfl⟩⟩; refine ⟨_, rfl, ?_⟩))
    (try (rw [drewN_self w33]; generalize hq_ : World.drewN w33 _ = w33; have n0_ : Aside0 (w33.heap[gb226]? = some (.cells #[.int .i64 a1_0, .int .i64 a1_1, .slice A1_2 l1_2.length c1_2] 46 (0, 0))) := ⟨by rw [← hq_]; exact (by (with_reducible repeat (first | refine blk_drewN ?_ _ | refine blk_drew ?_ | refine blk_alloc ?_ _)); exact BK226.out)⟩; have n1_ : Aside0 (w33.heap[gb227]? = some (.cells #[.int .i64 a2_0, .int .i64 a2_1] 48 (0, 0))) := ⟨by rw [← hq_]; exact (by (with_reducible repeat (first | refine blk_drewN ?_ _ | refine blk_drew ?_ | refine blk_alloc ?_ _)); exact BK227.out)⟩; have n2_ : Aside0 (Below w.heap.size w w33) := ⟨by rw [← hq_]; exact (by repeat (first | (with_reducible first | exact HB.out | apply below_alloc | apply pw_below_drewN | apply below_drew1 | refine below_set ?_ GE226.out | refine below_set ?_ GE227.out) | exact HB.out))⟩; clear BK226 BK227 HB hq_; have BK226 := n0_; have BK227 := n1_; have HB := n2_; clear n0_ n1_ n2_))
    have n0_ := Aside0.mk (blk_drew BK226.out)
    have n1_ := Aside0.mk (blk_drew BK227.out)
    have n2_ := Aside0.mk (below_drew1 HB.out)
    clear BK226
    clear BK227
    clear HB
    have BK226 := n0_
    have BK227 := n1_
    have HB := n2_
    clear n0_ n1_ n2_
    have p230 : 0 ≤ (t228 : Int) := of_decide_eq_true (by first | (with_reducible assumption) | assumption)
    have q230 : t228 < (l0.length : Int) := of_decide_eq_true (by first | (with_reducible assumption) | assumption)
    obtain ⟨ad230, A230_5, c230_5, e230, hx230_0, hx230_1, hx230_2, hx230_3, hx230_4, hx230_5, hl230_5, hi230_5⟩ := at_T78 HR0.out t228 p230 q230
    have hw230_5 := hx230_5
    have hw230_4 := hx230_4
    have hw230_3 := hx230_3
    have hw230_2 := hx230_2
    have hw230_1 := hx230_1
    have hw230_0 := hx230_0
    cases e230
    replace hx230_0 := (HB.out.cell (World.block_lt_of_cell? w _ hx230_0)).trans hx230_0
    replace hx230_1 := (HB.out.cell (World.block_lt_of_cell? w _ hx230_1)).trans hx230_1
    replace hx230_2 := (HB.out.cell (World.block_lt_of_cell? w _ hx230_2)).trans hx230_2
    replace hx230_3 := (HB.out.cell (World.block_lt_of_cell? w _ hx230_3)).trans hx230_3
    replace hx230_4 := (HB.out.cell (World.block_lt_of_cell? w _ hx230_4)).trans hx230_4
    replace hx230_5 := (HB.out.cell (World.block_lt_of_cell? w _ hx230_5)).trans hx230_5
    have HR230_5 := Aside0.mk hi230_5
    have HC230_5 := Aside0.mk hl230_5
    clear hi230_5 hl230_5
    replace p230 := eq_true p230
    replace q230 := eq_true q230
    have p231 : 0 ≤ (t229 : Int) := of_decide_eq_true (by first | (with_reducible assumption) | assumption)
    have q231 : t229 < (l0.length : Int) := of_decide_eq_true (by first | (with_reducible assumption) | assumption)
    obtain ⟨ad231, A231_5, c231_5, e231, hx231_0, hx231_1, hx231_2, hx231_3, hx231_4, hx231_5, hl231_5, hi231_5⟩ := at_T78 HR0.out t229 p231 q231
    have hw231_5 := hx231_5
    have hw231_4 := hx231_4
    have hw231_3 := hx231_3
    have hw231_2 := hx231_2
    have hw231_1 := hx231_1
    have hw231_0 := hx231_0
    obtain rfl : ad230 = ad231 := (by injection e231)
    replace hx231_0 := (HB.out.cell (World.block_lt_of_cell? w _ hx231_0)).trans hx231_0
    replace hx231_1 := (HB.out.cell (World.block_lt_of_cell? w _ hx231_1)).trans hx231_1
    replace hx231_2 := (HB.out.cell (World.block_lt_of_cell? w _ hx231_2)).trans hx231_2
    replace hx231_3 := (HB.out.cell (World.block_lt_of_cell? w _ hx231_3)).trans hx231_3
    replace hx231_4 := (HB.out.cell (World.block_lt_of_cell? w _ hx231_4)).trans hx231_4
    replace hx231_5 := (HB.out.cell (World.block_lt_of_cell? w _ hx231_5)).trans hx231_5
    have HR231_5 := Aside0.mk hi231_5
    have HC231_5 := Aside0.mk hl231_5
    clear hi231_5 hl231_5
    replace p231 := eq_true p231
    replace q231 := eq_true q231
    refine start_ (n := 43) (S := fun w' => w'.cell? ⟨gb226, 0, none⟩ = some (.int .i64 a1_0) ∧ w'.cell? ⟨gb226, 1, none⟩ = some (.int .i64 a1_1) ∧ w'.cell? ⟨gb226, 2, none⟩ = some (.slice A1_2 l1_2.length c1_2) ∧ w'.cell? ⟨gb227, 0, none⟩ = some (.int .i64 a2_0) ∧ w'.cell? ⟨gb227, 1, none⟩ = some (.int .i64 a2_1) ∧ w'.cell? (ad230.add ((t228).toNat * 6)) = some (.int .i64 ((rd_T78 l0 t228).f0)) ∧ w'.cell? ⟨(ad230.add ((t228).toNat * 6)).block, (ad230.add ((t228).toNat * 6)).off + 1, none⟩ = some (.int .i64 ((rd_T78 l0 t228).f1)) ∧ w'.cell? ⟨(ad230.add ((t228).toNat * 6)).block, (ad230.add ((t228).toNat * 6)).off + 2, none⟩ = some (.int .i64 ((rd_T78 l0 t228).f2)) ∧ w'.cell? ⟨(ad230.add ((t228).toNat * 6)).block, (ad230.add ((t228).toNat * 6)).off + 3, none⟩ = some (.int .i64 ((rd_T78 l0 t228).f3)) ∧ w'.cell? ⟨(ad230.add ((t228).toNat * 6)).block, (ad230.add ((t228).toNat * 6)).off + 4, none⟩ = some (.int .i64 ((rd_T78 l0 t228).f4)) ∧ w'.cell? ⟨(ad230.add ((t228).toNat * 6)).block, (ad230.add ((t228).toNat * 6)).off + 5, none⟩ = some (.slice A230_5 ((rd_T78 l0 t228).f5).length c230_5) ∧ w'.cell? (ad230.add ((t229).toNat * 6)) = some (.int .i64 ((rd_T78 l0 t229).f0)) ∧ w'.cell? ⟨(ad230.add ((t229).toNat * 6)).block, (ad230.add ((t229).toNat * 6)).off + 1, none⟩ = some (.int .i64 ((rd_T78 l0 t229).f1)) ∧ w'.cell? ⟨(ad230.add ((t229).toNat * 6)).block, (ad230.add ((t229).toNat * 6)).off + 2, none⟩ = some (.int .i64 ((rd_T78 l0 t229).f2)) ∧ w'.cell? ⟨(ad230.add ((t229).toNat * 6)).block, (ad230.add ((t229).toNat * 6)).off + 3, none⟩ = some (.int .i64 ((rd_T78 l0 t229).f3)) ∧ w'.cell? ⟨(ad230.add ((t229).toNat * 6)).block, (ad230.add ((t229).toNat * 6)).off + 4, none⟩ = some (.int .i64 ((rd_T78 l0 t229).f4)) ∧ w'.cell? ⟨(ad230.add ((t229).toNat * 6)).block, (ad230.add ((t229).toNat * 6)).off + 5, none⟩ = some (.slice A231_5 ((rd_T78 l0 t229).f5).length c231_5)) (ds := []) (bv 43 0) (by kernel_rfl) rfl rfl ⟨(blk_cell BK226.out 0).trans rfl, (blk_cell BK226.out 1).trans rfl, (blk_cell BK226.out 2).trans rfl, (blk_cell BK227.out 0).trans rfl, (blk_cell BK227.out 1).trans rfl, ((HB.out.cell (World.block_lt_of_cell? w _ hw230_0)).trans hw230_0), ((HB.out.cell (World.block_lt_of_cell? w _ hw230_1)).trans hw230_1), ((HB.out.cell (World.block_lt_of_cell? w _ hw230_2)).trans hw230_2), ((HB.out.cell (World.block_lt_of_cell? w _ hw230_3)).trans hw230_3), ((HB.out.cell (World.block_lt_of_cell? w _ hw230_4)).trans hw230_4), ((HB.out.cell (World.block_lt_of_cell? w _ hw230_5)).trans hw230_5), ((HB.out.cell (World.block_lt_of_cell? w _ hw231_0)).trans hw231_0), ((HB.out.cell (World.block_lt_of_cell? w _ hw231_1)).trans hw231_1), ((HB.out.cell (World.block_lt_of_cell? w _ hw231_2)).trans hw231_2), ((HB.out.cell (World.block_lt_of_cell? w _ hw231_3)).trans hw231_3), ((HB.out.cell (World.block_lt_of_cell? w _ hw231_4)).trans hw231_4), ((HB.out.cell (World.block_lt_of_cell? w _ hw231_5)).trans hw231_5)⟩ (fun hHeld => ?_); refine with_tabW spec_MayJudge.tab3 spec_MayJudge.bits3 (fun HT_ HW_ => ?_)
    generalize w33.drew = w36 at BK226 BK227 HB HR230_5 HR231_5 hx230_0 hx230_1 hx230_2 hx230_3 hx230_4 hx230_5 hx231_0 hx231_1 hx231_2 hx231_3 hx231_4 hx231_5 hHeld ⊢
    refine pv_ 43 0 17 1 rfl rfl HT_ ?_; refine pv_ 43 1 18 3 rfl rfl HT_ ?_; refine pv_ 43 2 19 7 rfl rfl HT_ ?_; refine pv_ 43 3 20 15 rfl rfl HT_ ?_; refine pv_ 43 4 21 31 rfl rfl HT_ ?_; refine pv_ 43 5 22 63 rfl rfl HT_ ?_; refine pv_ 43 6 23 127 rfl rfl HT_ ?_; refine pv_ 43 7 24 255 rfl rfl HT_ ?_; refine pv_ 43 8 25 511 rfl rfl HT_ ?_; refine pv_ 43 9 26 1023 rfl rfl HT_ ?_; refine pv_ 43 10 27 2047 rfl rfl HT_ ?_; refine pv_ 43 12 29 6143 rfl rfl HT_ ?_
    refine tv_ 43 11 28 8191 rfl rfl HT_ HW_ hHeld (by rintro w' ⟨s0, s1, s2, s3, s4, s5, s6, s7, s8, s9, s10, s11, s12, s13, s14, s15, s16⟩; go_simp; with_reducible rfl) ?_
    refine tv_ 43 13 30 16383 rfl rfl HT_ HW_ hHeld (by rintro w' ⟨s0, s1, s2, s3, s4, s5, s6, s7, s8, s9, s10, s11, s12, s13, s14, s15, s16⟩; go_simp; with_reducible rfl) ?_
    refine pv_ 43 14 31 32767 rfl rfl HT_ ?_; refine pv_ 43 15 32 65535 rfl rfl HT_ ?_; refine pv_ 43 16 33 131071 rfl rfl HT_ ?_; refine pv_ 43 17 34 262143 rfl rfl HT_ ?_; refine pv_ 43 18 35 524287 rfl rfl HT_ ?_; refine pv_ 43 19 36 1048575 rfl rfl HT_ ?_; refine pv_ 43 20 37 2097151 rfl rfl HT_ ?_; refine pv_ 43 22 39 6291455 rfl rfl HT_ ?_
    refine tv_ 43 21 38 8388607 rfl rfl HT_ HW_ hHeld (by rintro w' ⟨s0, s1, s2, s3, s4, s5, s6, s7, s8, s9, s10, s11, s12, s13, s14, s15, s16⟩; go_simp; with_reducible rfl) ?_
    refine tv_ 43 23 40 16777215 rfl rfl HT_ HW_ hHeld (by rintro w' ⟨s0, s1, s2, s3, s4, s5, s6, s7, s8, s9, s10, s11, s12, s13, s14, s15, s16⟩; go_simp; with_reducible rfl) ?_
    refine pv_ 43 24 41 33554431 rfl rfl HT_ ?_; refine pv_ 43 25 42 67108863 rfl rfl HT_ ?_; refine pv_ 43 26 43 134217727 rfl rfl HT_ ?_; refine pv_ 43 27 44 268435455 rfl rfl HT_ ?_; refine pv_ 43 29 46 805306367 rfl rfl HT_ ?_
    refine tv_ 43 28 45 1073741823 rfl rfl HT_ HW_ hHeld (by rintro w' ⟨s0, s1, s2, s3, s4, s5, s6, s7, s8, s9, s10, s11, s12, s13, s14, s15, s16⟩; go_simp; with_reducible rfl) ?_
    refine tv_ 43 30 47 2147483647 rfl rfl HT_ HW_ hHeld (by rintro w' ⟨s0, s1, s2, s3, s4, s5, s6, s7, s8, s9, s10, s11, s12, s13, s14, s15, s16⟩; go_simp; with_reducible rfl) ?_
    refine one_ (i := 31) (N := some 48) (bv 43 4294967295) rfl rfl (one_of HT_.out (by kernel_rfl)) (by decide) (fun K hK => ?_)
    refine goes_ Try.func58 (by kernel_rfl) rfl #[.slice A1_2 l1_2.length c1_2, .int .i64 a2_0] (by rfl) rfl rfl (by (try simp only [List.map_toArray, List.map_cons, List.map_nil]); first | done | rfl | (simp only [List.length_drop, List.length_take]; rfl)) ?_
    with_reducible refine (spec_l4Has.calls k _ _ l1_2 a2_0 false _ ?side1 ?side2 A24.out).mono ?_
    (case side1 => repeat (first | exact (Kd.C_below HR1_2.out HB.out) | (with_reducible refine Kd.C_alloc ?_ _) | (with_reducible refine Kd.C_drewN ?_ _) | (with_reducible refine Kd.C_drew ?_)))
    (case side2 => exact HC1_2.out)
    rintro e w' ⟨rfl, ⟨nd, rfl⟩⟩
    refine ⟨_, rfl, ?_⟩
    refine hK.out _ _ ⟨(blk_cell BK226.out 0).trans rfl, (blk_cell BK226.out 1).trans rfl, (blk_cell BK226.out 2).trans rfl, (blk_cell BK227.out 0).trans rfl, (blk_cell BK227.out 1).trans rfl, ((HB.out.cell (World.block_lt_of_cell? w _ hw230_0)).trans hw230_0), ((HB.out.cell (World.block_lt_of_cell? w _ hw230_1)).trans hw230_1), ((HB.out.cell (World.block_lt_of_cell? w _ hw230_2)).trans hw230_2), ((HB.out.cell (World.block_lt_of_cell? w _ hw230_3)).trans hw230_3), ((HB.out.cell (World.block_lt_of_cell? w _ hw230_4)).trans hw230_4), ((HB.out.cell (World.block_lt_of_cell? w _ hw230_5)).trans hw230_5), ((HB.out.cell (World.block_lt_of_cell? w _ hw231_0)).trans hw231_0), ((HB.out.cell (World.block_lt_of_cell? w _ hw231_1)).trans hw231_1), ((HB.out.cell (World.block_lt_of_cell? w _ hw231_2)).trans hw231_2), ((HB.out.cell (World.block_lt_of_cell? w _ hw231_3)).trans hw231_3), ((HB.out.cell (World.block_lt_of_cell? w _ hw231_4)).trans hw231_4), ((HB.out.cell (World.block_lt_of_cell? w _ hw231_5)).trans hw231_5)⟩ (fun hHeld => ?_)
    clear hK K
    refine nm_ 48 ?_
    refine pv_ 43 32 49 8589934591 rfl rfl HT_ ?_; refine pv_ 43 33 50 17179869183 rfl rfl HT_ ?_; refine pv_ 43 34 51 34359738367 rfl rfl HT_ ?_; refine pv_ 43 35 52 68719476735 rfl rfl HT_ ?_; refine pv_ 43 37 54 206158430207 rfl rfl HT_ ?_
    refine tv_ 43 36 53 274877906943 rfl rfl HT_ HW_ hHeld (by rintro w' ⟨s0, s1, s2, s3, s4, s5, s6, s7, s8, s9, s10, s11, s12, s13, s14, s15, s16⟩; go_simp; with_reducible rfl) ?_
    refine tv_ 43 38 55 549755813887 rfl rfl HT_ HW_ hHeld (by rintro w' ⟨s0, s1, s2, s3, s4, s5, s6, s7, s8, s9, s10, s11, s12, s13, s14, s15, s16⟩; go_simp; with_reducible rfl) ?_
    refine one_ (i := 39) (N := some 56) (bv 43 1099511627775) rfl rfl (one_of HT_.out (by kernel_rfl)) (by decide) (fun K hK => ?_)
    refine goes_ Try.func58 (by kernel_rfl) rfl #[.slice A1_2 l1_2.length c1_2, .int .i64 a2_1] (by rfl) rfl rfl (by (try simp only [List.map_toArray, List.map_cons, List.map_nil]); first | done | rfl | (simp only [List.length_drop, List.length_take]; rfl)) ?_
    with_reducible refine (spec_l4Has.calls k _ _ l1_2 a2_1 t233 _ ?side1 ?side2 A31.out).mono ?_
    (case side1 => repeat (first | exact (Kd.C_below HR1_2.out (by repeat (first | (with_reducible first | exact HB.out | apply below_alloc | apply pw_below_drewN | apply below_drew1 | refine below_set ?_ GE226.out | refine below_set ?_ GE227.out) | exact HB.out))) | (with_reducible refine Kd.C_alloc ?_ _) | (with_reducible refine Kd.C_drewN ?_ _) | (with_reducible refine Kd.C_drew ?_)))
    (case side2 => exact HC1_2.out)
    rintro e w' ⟨rfl, ⟨nd, rfl⟩⟩
    refine ⟨_, rfl, ?_⟩
    refine hK.out _ _ ⟨(blk_cell BK226.out 0).trans rfl, (blk_cell BK226.out 1).trans rfl, (blk_cell BK226.out 2).trans rfl, (blk_cell BK227.out 0).trans rfl, (blk_cell BK227.out 1).trans rfl, ((HB.out.cell (World.block_lt_of_cell? w _ hw230_0)).trans hw230_0), ((HB.out.cell (World.block_lt_of_cell? w _ hw230_1)).trans hw230_1), ((HB.out.cell (World.block_lt_of_cell? w _ hw230_2)).trans hw230_2), ((HB.out.cell (World.block_lt_of_cell? w _ hw230_3)).trans hw230_3), ((HB.out.cell (World.block_lt_of_cell? w _ hw230_4)).trans hw230_4), ((HB.out.cell (World.block_lt_of_cell? w _ hw230_5)).trans hw230_5), ((HB.out.cell (World.block_lt_of_cell? w _ hw231_0)).trans hw231_0), ((HB.out.cell (World.block_lt_of_cell? w _ hw231_1)).trans hw231_1), ((HB.out.cell (World.block_lt_of_cell? w _ hw231_2)).trans hw231_2), ((HB.out.cell (World.block_lt_of_cell? w _ hw231_3)).trans hw231_3), ((HB.out.cell (World.block_lt_of_cell? w _ hw231_4)).trans hw231_4), ((HB.out.cell (World.block_lt_of_cell? w _ hw231_5)).trans hw231_5)⟩ (fun hHeld => ?_)
    clear hK K
    refine nm_ 56 ?_
    refine pv_ 43 40 57 2199023255551 rfl rfl HT_ ?_; refine pv_ 43 41 58 4398046511103 rfl rfl HT_ ?_; refine pv_ 43 42 6 8796093022207 rfl rfl HT_ ?_
    refine done_ (done_of HT_.out (by kernel_rfl)) ?_
    try go_wp2
    go_ret
    exact ⟨by first | rfl | (simp [errW_none, errW_some] <;> rfl) | (simp [*, errW_none, errW_some] <;> rfl), by repeat (first | (with_reducible first | exact HB.out | apply below_alloc | apply pw_below_drewN | apply below_drew1 | refine below_set ?_ GE226.out | refine below_set ?_ GE227.out) | exact HB.out)⟩
   subst c25
   have H1 : (some false) = some r := by rw [if_pos rfl] at H; exact H
   clear H
   have H := H1
   clear H1
   obtain rfl := Option.some.inj H
   go_enter Try.func24, Try.ntmps24
   try go_wp2_with (first | ((with_reducible refine gate_dst (N := 4) rfl ?_); refine box_event ?hg (N := 4) ?hd (cs := #[.int .i64 a1_0, .int .i64 a1_1, .slice A1_2 l1_2.length c1_2]) (t := 46) ?hr ?_; (case hd => rfl); (case hg => rfl); (case hr => first | (go_simp; done) | (go_simp; rfl)); intro gb226 hg w26 hbox hb; have n0_ := Aside0.mk (below_step (by repeat (first | (with_reducible first | exact HB.out | apply below_alloc | apply pw_below_drewN | apply below_drew1) | exact HB.out)) hb); have n1_ := Aside0.mk (hbox); have n2_ := Aside0.mk ((by rw [hg]; exact (below_size (by repeat (first | (with_reducible first | exact HB.out | apply below_alloc | apply pw_below_drewN | apply below_drew1) | exact HB.out))) : w.heap.size ≤ gb226)); have n3_ := Aside0.mk ((by rw [hg]; exact (below_size (by repeat (first | (with_reducible first | exact HB.out | apply below_alloc | apply pw_below_drewN | apply below_drew1) | exact HB.out))) : w.heap.size ≤ gb226)); clear HB; have HB := n0_; have BK226 := n1_; have GW226 := n2_; have GE226 := n3_; clear n0_ n1_ n2_ n3_; clear hb hbox hg) | ((with_reducible refine gate_dst (N := 5) rfl ?_); refine box_event ?hg (N := 5) ?hd (cs := #[.int .i64 a2_0, .int .i64 a2_1]) (t := 48) ?hr ?_; (case hd => rfl); (case hg => rfl); (case hr => first | (go_simp; done) | (go_simp; rfl)); intro gb227 hg w27 hbox hb; have n0_ := Aside0.mk (blk_below (g := gb226) (o := .cells #[.int .i64 a1_0, .int .i64 a1_1, .slice A1_2 l1_2.length c1_2] 46 (0, 0)) (by (with_reducible repeat (first | refine blk_drewN ?_ _ | refine blk_drew ?_ | refine blk_alloc ?_ _)); exact BK226.out) hb); have n1_ := Aside0.mk (below_step (by repeat (first | (with_reducible first | exact HB.out | apply below_alloc | apply pw_below_drewN | apply below_drew1 | refine below_set ?_ GE226.out) | exact HB.out)) hb); have n2_ := Aside0.mk (hbox); have n3_ := Aside0.mk ((by rw [hg]; exact (below_size (by repeat (first | (with_reducible first | exact HB.out | apply below_alloc | apply pw_below_drewN | apply below_drew1 | refine below_set ?_ GE226.out) | exact HB.out))) : w.heap.size ≤ gb227)); have n4_ := Aside0.mk ((by rw [hg]; exact (below_size (by repeat (first | (with_reducible first | exact HB.out | apply below_alloc | apply pw_below_drewN | apply below_drew1 | refine below_set ?_ GE226.out) | exact HB.out))) : w.heap.size ≤ gb227)); have n5_ := Aside0.mk ((by rw [hg]; exact Nat.ne_of_lt (blk_lt (g := gb226) (o := .cells #[.int .i64 a1_0, .int .i64 a1_1, .slice A1_2 l1_2.length c1_2] 46 (0, 0)) (by (with_reducible repeat (first | refine blk_drewN ?_ _ | refine blk_drew ?_ | refine blk_alloc ?_ _)); exact BK226.out)) : gb226 ≠ gb227)); have n6_ := Aside0.mk ((by rw [hg]; exact Nat.ne_of_gt (blk_lt (g := gb226) (o := .cells #[.int .i64 a1_0, .int .i64 a1_1, .slice A1_2 l1_2.length c1_2] 46 (0, 0)) (by (with_reducible repeat (first | refine blk_drewN ?_ _ | refine blk_drew ?_ | refine blk_alloc ?_ _)); exact BK226.out)) : gb227 ≠ gb226)); clear BK226; clear HB; have BK226 := n0_; have HB := n1_; have BK227 := n2_; have GW227 := n3_; have GE227 := n4_; have NB226_227 := n5_; have NB227_226 := n6_; clear n0_ n1_ n2_ n3_ n4_ n5_ n6_; clear hb hbox hg; have hnb28 := NB227_226.out; have hnc28 := NB226_227.out; have hcz29_0 : w27.cell? ⟨gb227, 0, none⟩ = some (.int .i64 a2_0) := (blk_cell BK227.out 0).trans rfl; have hcz29_1 : w27.cell? ⟨gb227, 1, none⟩ = some (.int .i64 a2_1) := (blk_cell BK227.out 1).trans rfl; have hfz29_0 := blk_frozen BK227.out 0; have hfz29_1 := blk_frozen BK227.out 1) | ((with_reducible refine gate_callee (f := 62) rfl ?_); refine goesL_ (some 12) rfl rfl Try.func62 (by kernel_rfl) rfl #[.slice A0 l0.length c0, .int .i64 a2_0] rfl (by (try simp only [List.map_toArray, List.map_cons, List.map_nil]); first | done | rfl | (simp only [List.length_drop, List.length_take]; rfl)) ?_; (with_reducible refine (spec_FindTeam.calls k _ _ l0 a2_0 t228 _ ?side1 ?side2 A4.out).mono ?_); (case side1 => repeat (first | exact (Kd.C_below HR0.out HB.out) | (with_reducible refine Kd.C_alloc ?_ _) | (with_reducible refine Kd.C_drewN ?_ _) | (with_reducible refine Kd.C_drew ?_))); (case side2 => exact HC0.out); rintro e w' ⟨rfl, ⟨nd, rfl⟩⟩; refine ⟨_, rfl, ?_⟩) | ((with_reducible refine gate_callee (f := 62) rfl ?_); refine goesL_ (some 16) rfl rfl Try.func62 (by kernel_rfl) rfl #[.slice A0 l0.length c0, .int .i64 a2_1] rfl (by (try simp only [List.map_toArray, List.map_cons, List.map_nil]); first | done | rfl | (simp only [List.length_drop, List.length_take]; rfl)) ?_; (with_reducible refine (spec_FindTeam.calls k _ _ l0 a2_1 t229 _ ?side1 ?side2 A5.out).mono ?_); (case side1 => repeat (first | exact (Kd.C_below HR0.out (by repeat (first | (with_reducible first | exact HB.out | apply below_alloc | apply pw_below_drewN | apply below_drew1 | refine below_set ?_ GE226.out | refine below_set ?_ GE227.out) | exact HB.out))) | (with_reducible refine Kd.C_alloc ?_ _) | (with_reducible refine Kd.C_drewN ?_ _) | (with_reducible refine Kd.C_drew ?_))); (case side2 => exact HC0.out); rintro e w' ⟨rfl, ⟨nd, rfl⟩⟩; refine ⟨_, rfl, ?_⟩))
   (try (rw [drewN_self w27]; generalize hq_ : World.drewN w27 _ = w27; have n0_ : Aside0 (w27.heap[gb226]? = some (.cells #[.int .i64 a1_0, .int .i64 a1_1, .slice A1_2 l1_2.length c1_2] 46 (0, 0))) := ⟨by rw [← hq_]; exact (by (with_reducible repeat (first | refine blk_drewN ?_ _ | refine blk_drew ?_ | refine blk_alloc ?_ _)); exact BK226.out)⟩; have n1_ : Aside0 (w27.heap[gb227]? = some (.cells #[.int .i64 a2_0, .int .i64 a2_1] 48 (0, 0))) := ⟨by rw [← hq_]; exact (by (with_reducible repeat (first | refine blk_drewN ?_ _ | refine blk_drew ?_ | refine blk_alloc ?_ _)); exact BK227.out)⟩; have n2_ : Aside0 (Below w.heap.size w w27) := ⟨by rw [← hq_]; exact (by repeat (first | (with_reducible first | exact HB.out | apply below_alloc | apply pw_below_drewN | apply below_drew1 | refine below_set ?_ GE226.out | refine below_set ?_ GE227.out) | exact HB.out))⟩; clear BK226 BK227 HB hq_; have BK226 := n0_; have BK227 := n1_; have HB := n2_; clear n0_ n1_ n2_))
   have n0_ := Aside0.mk (blk_drew BK226.out)
   have n1_ := Aside0.mk (blk_drew BK227.out)
   have n2_ := Aside0.mk (below_drew1 HB.out)
   clear BK226
   clear BK227
   clear HB
   have BK226 := n0_
   have BK227 := n1_
   have HB := n2_
   clear n0_ n1_ n2_
   have p230 : 0 ≤ (t228 : Int) := of_decide_eq_true (by first | (with_reducible assumption) | assumption)
   have q230 : t228 < (l0.length : Int) := of_decide_eq_true (by first | (with_reducible assumption) | assumption)
   obtain ⟨ad230, A230_5, c230_5, e230, hx230_0, hx230_1, hx230_2, hx230_3, hx230_4, hx230_5, hl230_5, hi230_5⟩ := at_T78 HR0.out t228 p230 q230
   have hw230_5 := hx230_5
   have hw230_4 := hx230_4
   have hw230_3 := hx230_3
   have hw230_2 := hx230_2
   have hw230_1 := hx230_1
   have hw230_0 := hx230_0
   cases e230
   replace hx230_0 := (HB.out.cell (World.block_lt_of_cell? w _ hx230_0)).trans hx230_0
   replace hx230_1 := (HB.out.cell (World.block_lt_of_cell? w _ hx230_1)).trans hx230_1
   replace hx230_2 := (HB.out.cell (World.block_lt_of_cell? w _ hx230_2)).trans hx230_2
   replace hx230_3 := (HB.out.cell (World.block_lt_of_cell? w _ hx230_3)).trans hx230_3
   replace hx230_4 := (HB.out.cell (World.block_lt_of_cell? w _ hx230_4)).trans hx230_4
   replace hx230_5 := (HB.out.cell (World.block_lt_of_cell? w _ hx230_5)).trans hx230_5
   have HR230_5 := Aside0.mk hi230_5
   have HC230_5 := Aside0.mk hl230_5
   clear hi230_5 hl230_5
   replace p230 := eq_true p230
   replace q230 := eq_true q230
   have p231 : 0 ≤ (t229 : Int) := of_decide_eq_true (by first | (with_reducible assumption) | assumption)
   have q231 : t229 < (l0.length : Int) := of_decide_eq_true (by first | (with_reducible assumption) | assumption)
   obtain ⟨ad231, A231_5, c231_5, e231, hx231_0, hx231_1, hx231_2, hx231_3, hx231_4, hx231_5, hl231_5, hi231_5⟩ := at_T78 HR0.out t229 p231 q231
   have hw231_5 := hx231_5
   have hw231_4 := hx231_4
   have hw231_3 := hx231_3
   have hw231_2 := hx231_2
   have hw231_1 := hx231_1
   have hw231_0 := hx231_0
   obtain rfl : ad230 = ad231 := (by injection e231)
   replace hx231_0 := (HB.out.cell (World.block_lt_of_cell? w _ hx231_0)).trans hx231_0
   replace hx231_1 := (HB.out.cell (World.block_lt_of_cell? w _ hx231_1)).trans hx231_1
   replace hx231_2 := (HB.out.cell (World.block_lt_of_cell? w _ hx231_2)).trans hx231_2
   replace hx231_3 := (HB.out.cell (World.block_lt_of_cell? w _ hx231_3)).trans hx231_3
   replace hx231_4 := (HB.out.cell (World.block_lt_of_cell? w _ hx231_4)).trans hx231_4
   replace hx231_5 := (HB.out.cell (World.block_lt_of_cell? w _ hx231_5)).trans hx231_5
   have HR231_5 := Aside0.mk hi231_5
   have HC231_5 := Aside0.mk hl231_5
   clear hi231_5 hl231_5
   replace p231 := eq_true p231
   replace q231 := eq_true q231
   refine start_ (n := 43) (S := fun w' => w'.cell? ⟨gb226, 0, none⟩ = some (.int .i64 a1_0) ∧ w'.cell? ⟨gb226, 1, none⟩ = some (.int .i64 a1_1) ∧ w'.cell? ⟨gb226, 2, none⟩ = some (.slice A1_2 l1_2.length c1_2) ∧ w'.cell? ⟨gb227, 0, none⟩ = some (.int .i64 a2_0) ∧ w'.cell? ⟨gb227, 1, none⟩ = some (.int .i64 a2_1) ∧ w'.cell? (ad230.add ((t228).toNat * 6)) = some (.int .i64 ((rd_T78 l0 t228).f0)) ∧ w'.cell? ⟨(ad230.add ((t228).toNat * 6)).block, (ad230.add ((t228).toNat * 6)).off + 1, none⟩ = some (.int .i64 ((rd_T78 l0 t228).f1)) ∧ w'.cell? ⟨(ad230.add ((t228).toNat * 6)).block, (ad230.add ((t228).toNat * 6)).off + 2, none⟩ = some (.int .i64 ((rd_T78 l0 t228).f2)) ∧ w'.cell? ⟨(ad230.add ((t228).toNat * 6)).block, (ad230.add ((t228).toNat * 6)).off + 3, none⟩ = some (.int .i64 ((rd_T78 l0 t228).f3)) ∧ w'.cell? ⟨(ad230.add ((t228).toNat * 6)).block, (ad230.add ((t228).toNat * 6)).off + 4, none⟩ = some (.int .i64 ((rd_T78 l0 t228).f4)) ∧ w'.cell? ⟨(ad230.add ((t228).toNat * 6)).block, (ad230.add ((t228).toNat * 6)).off + 5, none⟩ = some (.slice A230_5 ((rd_T78 l0 t228).f5).length c230_5) ∧ w'.cell? (ad230.add ((t229).toNat * 6)) = some (.int .i64 ((rd_T78 l0 t229).f0)) ∧ w'.cell? ⟨(ad230.add ((t229).toNat * 6)).block, (ad230.add ((t229).toNat * 6)).off + 1, none⟩ = some (.int .i64 ((rd_T78 l0 t229).f1)) ∧ w'.cell? ⟨(ad230.add ((t229).toNat * 6)).block, (ad230.add ((t229).toNat * 6)).off + 2, none⟩ = some (.int .i64 ((rd_T78 l0 t229).f2)) ∧ w'.cell? ⟨(ad230.add ((t229).toNat * 6)).block, (ad230.add ((t229).toNat * 6)).off + 3, none⟩ = some (.int .i64 ((rd_T78 l0 t229).f3)) ∧ w'.cell? ⟨(ad230.add ((t229).toNat * 6)).block, (ad230.add ((t229).toNat * 6)).off + 4, none⟩ = some (.int .i64 ((rd_T78 l0 t229).f4)) ∧ w'.cell? ⟨(ad230.add ((t229).toNat * 6)).block, (ad230.add ((t229).toNat * 6)).off + 5, none⟩ = some (.slice A231_5 ((rd_T78 l0 t229).f5).length c231_5)) (ds := []) (bv 43 0) (by kernel_rfl) rfl rfl ⟨(blk_cell BK226.out 0).trans rfl, (blk_cell BK226.out 1).trans rfl, (blk_cell BK226.out 2).trans rfl, (blk_cell BK227.out 0).trans rfl, (blk_cell BK227.out 1).trans rfl, ((HB.out.cell (World.block_lt_of_cell? w _ hw230_0)).trans hw230_0), ((HB.out.cell (World.block_lt_of_cell? w _ hw230_1)).trans hw230_1), ((HB.out.cell (World.block_lt_of_cell? w _ hw230_2)).trans hw230_2), ((HB.out.cell (World.block_lt_of_cell? w _ hw230_3)).trans hw230_3), ((HB.out.cell (World.block_lt_of_cell? w _ hw230_4)).trans hw230_4), ((HB.out.cell (World.block_lt_of_cell? w _ hw230_5)).trans hw230_5), ((HB.out.cell (World.block_lt_of_cell? w _ hw231_0)).trans hw231_0), ((HB.out.cell (World.block_lt_of_cell? w _ hw231_1)).trans hw231_1), ((HB.out.cell (World.block_lt_of_cell? w _ hw231_2)).trans hw231_2), ((HB.out.cell (World.block_lt_of_cell? w _ hw231_3)).trans hw231_3), ((HB.out.cell (World.block_lt_of_cell? w _ hw231_4)).trans hw231_4), ((HB.out.cell (World.block_lt_of_cell? w _ hw231_5)).trans hw231_5)⟩ (fun hHeld => ?_); refine with_tabW spec_MayJudge.tab3 spec_MayJudge.bits3 (fun HT_ HW_ => ?_)
   generalize w27.drew = w30 at BK226 BK227 HB HR230_5 HR231_5 hx230_0 hx230_1 hx230_2 hx230_3 hx230_4 hx230_5 hx231_0 hx231_1 hx231_2 hx231_3 hx231_4 hx231_5 hHeld ⊢
   refine pv_ 43 0 17 1 rfl rfl HT_ ?_; refine pv_ 43 1 18 3 rfl rfl HT_ ?_; refine pv_ 43 2 19 7 rfl rfl HT_ ?_; refine pv_ 43 3 20 15 rfl rfl HT_ ?_; refine pv_ 43 4 21 31 rfl rfl HT_ ?_; refine pv_ 43 5 22 63 rfl rfl HT_ ?_; refine pv_ 43 6 23 127 rfl rfl HT_ ?_; refine pv_ 43 7 24 255 rfl rfl HT_ ?_; refine pv_ 43 8 25 511 rfl rfl HT_ ?_; refine pv_ 43 9 26 1023 rfl rfl HT_ ?_; refine pv_ 43 10 27 2047 rfl rfl HT_ ?_; refine pv_ 43 12 29 6143 rfl rfl HT_ ?_
   refine tv_ 43 11 28 8191 rfl rfl HT_ HW_ hHeld (by rintro w' ⟨s0, s1, s2, s3, s4, s5, s6, s7, s8, s9, s10, s11, s12, s13, s14, s15, s16⟩; go_simp; with_reducible rfl) ?_
   refine tv_ 43 13 30 16383 rfl rfl HT_ HW_ hHeld (by rintro w' ⟨s0, s1, s2, s3, s4, s5, s6, s7, s8, s9, s10, s11, s12, s13, s14, s15, s16⟩; go_simp; with_reducible rfl) ?_
   refine pv_ 43 14 31 32767 rfl rfl HT_ ?_; refine pv_ 43 15 32 65535 rfl rfl HT_ ?_; refine pv_ 43 16 33 131071 rfl rfl HT_ ?_; refine pv_ 43 17 34 262143 rfl rfl HT_ ?_; refine pv_ 43 18 35 524287 rfl rfl HT_ ?_; refine pv_ 43 19 36 1048575 rfl rfl HT_ ?_; refine pv_ 43 20 37 2097151 rfl rfl HT_ ?_; refine pv_ 43 22 39 6291455 rfl rfl HT_ ?_
   refine tv_ 43 21 38 8388607 rfl rfl HT_ HW_ hHeld (by rintro w' ⟨s0, s1, s2, s3, s4, s5, s6, s7, s8, s9, s10, s11, s12, s13, s14, s15, s16⟩; go_simp; with_reducible rfl) ?_
   refine tv_ 43 23 40 16777215 rfl rfl HT_ HW_ hHeld (by rintro w' ⟨s0, s1, s2, s3, s4, s5, s6, s7, s8, s9, s10, s11, s12, s13, s14, s15, s16⟩; go_simp; with_reducible rfl) ?_
   refine pv_ 43 24 41 33554431 rfl rfl HT_ ?_; refine pv_ 43 25 42 67108863 rfl rfl HT_ ?_; refine pv_ 43 26 43 134217727 rfl rfl HT_ ?_; refine pv_ 43 27 44 268435455 rfl rfl HT_ ?_; refine pv_ 43 29 46 805306367 rfl rfl HT_ ?_
   refine tv_ 43 28 45 1073741823 rfl rfl HT_ HW_ hHeld (by rintro w' ⟨s0, s1, s2, s3, s4, s5, s6, s7, s8, s9, s10, s11, s12, s13, s14, s15, s16⟩; go_simp; with_reducible rfl) ?_
   refine tv_ 43 30 47 2147483647 rfl rfl HT_ HW_ hHeld (by rintro w' ⟨s0, s1, s2, s3, s4, s5, s6, s7, s8, s9, s10, s11, s12, s13, s14, s15, s16⟩; go_simp; with_reducible rfl) ?_
   refine one_ (i := 31) (N := some 48) (bv 43 4294967295) rfl rfl (one_of HT_.out (by kernel_rfl)) (by decide) (fun K hK => ?_)
   refine goes_ Try.func58 (by kernel_rfl) rfl #[.slice A1_2 l1_2.length c1_2, .int .i64 a2_0] (by rfl) rfl rfl (by (try simp only [List.map_toArray, List.map_cons, List.map_nil]); first | done | rfl | (simp only [List.length_drop, List.length_take]; rfl)) ?_
   with_reducible refine (spec_l4Has.calls k _ _ l1_2 a2_0 true _ ?side1 ?side2 A24.out).mono ?_
   (case side1 => repeat (first | exact (Kd.C_below HR1_2.out HB.out) | (with_reducible refine Kd.C_alloc ?_ _) | (with_reducible refine Kd.C_drewN ?_ _) | (with_reducible refine Kd.C_drew ?_)))
   (case side2 => exact HC1_2.out)
   rintro e w' ⟨rfl, ⟨nd, rfl⟩⟩
   refine ⟨_, rfl, ?_⟩
   refine hK.out _ _ ⟨(blk_cell BK226.out 0).trans rfl, (blk_cell BK226.out 1).trans rfl, (blk_cell BK226.out 2).trans rfl, (blk_cell BK227.out 0).trans rfl, (blk_cell BK227.out 1).trans rfl, ((HB.out.cell (World.block_lt_of_cell? w _ hw230_0)).trans hw230_0), ((HB.out.cell (World.block_lt_of_cell? w _ hw230_1)).trans hw230_1), ((HB.out.cell (World.block_lt_of_cell? w _ hw230_2)).trans hw230_2), ((HB.out.cell (World.block_lt_of_cell? w _ hw230_3)).trans hw230_3), ((HB.out.cell (World.block_lt_of_cell? w _ hw230_4)).trans hw230_4), ((HB.out.cell (World.block_lt_of_cell? w _ hw230_5)).trans hw230_5), ((HB.out.cell (World.block_lt_of_cell? w _ hw231_0)).trans hw231_0), ((HB.out.cell (World.block_lt_of_cell? w _ hw231_1)).trans hw231_1), ((HB.out.cell (World.block_lt_of_cell? w _ hw231_2)).trans hw231_2), ((HB.out.cell (World.block_lt_of_cell? w _ hw231_3)).trans hw231_3), ((HB.out.cell (World.block_lt_of_cell? w _ hw231_4)).trans hw231_4), ((HB.out.cell (World.block_lt_of_cell? w _ hw231_5)).trans hw231_5)⟩ (fun hHeld => ?_)
   clear hK K
   refine nm_ 48 ?_
   refine pv_ 43 32 49 8589934591 rfl rfl HT_ ?_; refine pv_ 43 33 50 17179869183 rfl rfl HT_ ?_; refine pv_ 43 34 51 34359738367 rfl rfl HT_ ?_; refine pu_ 43 35 52 68719476735 rfl rfl HT_ ?_; refine pu_ 43 36 53 137438953471 rfl rfl HT_ ?_; refine pu_ 43 37 54 274877906943 rfl rfl HT_ ?_; refine pu_ 43 38 55 549755813887 rfl rfl HT_ ?_; refine pu_ 43 39 56 1099511627775 rfl rfl HT_ ?_; refine pu_ 43 40 57 2199023255551 rfl rfl HT_ ?_; refine pv_ 43 41 58 4398046511103 rfl rfl HT_ ?_; refine pv_ 43 42 6 8796093022207 rfl rfl HT_ ?_
   refine done_ (done_of HT_.out (by kernel_rfl)) ?_
   try go_wp2
   go_ret
   exact ⟨by first | rfl | (simp [errW_none, errW_some] <;> rfl) | (simp [*, errW_none, errW_some] <;> rfl), by repeat (first | (with_reducible first | exact HB.out | apply below_alloc | apply pw_below_drewN | apply below_drew1 | refine below_set ?_ GE226.out | refine below_set ?_ GE227.out) | exact HB.out)⟩
  rw [if_pos c18] at H
  have c18b0 : (((rd_T78 l0 t229).f1) == a1_1) = true := beq_iff_eq.mpr c18
  have c18b1 : (((rd_T78 l0 t229).f1) != a1_1) = false := bne_eq_false_iff_eq.mpr c18
  clear c18
  obtain rfl := Option.some.inj H
  go_enter Try.func24, Try.ntmps24
  try go_wp2_with (first | ((with_reducible refine gate_dst (N := 4) rfl ?_); refine box_event ?hg (N := 4) ?hd (cs := #[.int .i64 a1_0, .int .i64 a1_1, .slice A1_2 l1_2.length c1_2]) (t := 46) ?hr ?_; (case hd => rfl); (case hg => rfl); (case hr => first | (go_simp; done) | (go_simp; rfl)); intro gb226 hg w19 hbox hb; have n0_ := Aside0.mk (below_step (by repeat (first | (with_reducible first | exact HB.out | apply below_alloc | apply pw_below_drewN | apply below_drew1) | exact HB.out)) hb); have n1_ := Aside0.mk (hbox); have n2_ := Aside0.mk ((by rw [hg]; exact (below_size (by repeat (first | (with_reducible first | exact HB.out | apply below_alloc | apply pw_below_drewN | apply below_drew1) | exact HB.out))) : w.heap.size ≤ gb226)); have n3_ := Aside0.mk ((by rw [hg]; exact (below_size (by repeat (first | (with_reducible first | exact HB.out | apply below_alloc | apply pw_below_drewN | apply below_drew1) | exact HB.out))) : w.heap.size ≤ gb226)); clear HB; have HB := n0_; have BK226 := n1_; have GW226 := n2_; have GE226 := n3_; clear n0_ n1_ n2_ n3_; clear hb hbox hg) | ((with_reducible refine gate_dst (N := 5) rfl ?_); refine box_event ?hg (N := 5) ?hd (cs := #[.int .i64 a2_0, .int .i64 a2_1]) (t := 48) ?hr ?_; (case hd => rfl); (case hg => rfl); (case hr => first | (go_simp; done) | (go_simp; rfl)); intro gb227 hg w20 hbox hb; have n0_ := Aside0.mk (blk_below (g := gb226) (o := .cells #[.int .i64 a1_0, .int .i64 a1_1, .slice A1_2 l1_2.length c1_2] 46 (0, 0)) (by (with_reducible repeat (first | refine blk_drewN ?_ _ | refine blk_drew ?_ | refine blk_alloc ?_ _)); exact BK226.out) hb); have n1_ := Aside0.mk (below_step (by repeat (first | (with_reducible first | exact HB.out | apply below_alloc | apply pw_below_drewN | apply below_drew1 | refine below_set ?_ GE226.out) | exact HB.out)) hb); have n2_ := Aside0.mk (hbox); have n3_ := Aside0.mk ((by rw [hg]; exact (below_size (by repeat (first | (with_reducible first | exact HB.out | apply below_alloc | apply pw_below_drewN | apply below_drew1 | refine below_set ?_ GE226.out) | exact HB.out))) : w.heap.size ≤ gb227)); have n4_ := Aside0.mk ((by rw [hg]; exact (below_size (by repeat (first | (with_reducible first | exact HB.out | apply below_alloc | apply pw_below_drewN | apply below_drew1 | refine below_set ?_ GE226.out) | exact HB.out))) : w.heap.size ≤ gb227)); have n5_ := Aside0.mk ((by rw [hg]; exact Nat.ne_of_lt (blk_lt (g := gb226) (o := .cells #[.int .i64 a1_0, .int .i64 a1_1, .slice A1_2 l1_2.length c1_2] 46 (0, 0)) (by (with_reducible repeat (first | refine blk_drewN ?_ _ | refine blk_drew ?_ | refine blk_alloc ?_ _)); exact BK226.out)) : gb226 ≠ gb227)); have n6_ := Aside0.mk ((by rw [hg]; exact Nat.ne_of_gt (blk_lt (g := gb226) (o := .cells #[.int .i64 a1_0, .int .i64 a1_1, .slice A1_2 l1_2.length c1_2] 46 (0, 0)) (by (with_reducible repeat (first | refine blk_drewN ?_ _ | refine blk_drew ?_ | refine blk_alloc ?_ _)); exact BK226.out)) : gb227 ≠ gb226)); clear BK226; clear HB; have BK226 := n0_; have HB := n1_; have BK227 := n2_; have GW227 := n3_; have GE227 := n4_; have NB226_227 := n5_; have NB227_226 := n6_; clear n0_ n1_ n2_ n3_ n4_ n5_ n6_; clear hb hbox hg; have hnb21 := NB227_226.out; have hnc21 := NB226_227.out; have hcz22_0 : w20.cell? ⟨gb227, 0, none⟩ = some (.int .i64 a2_0) := (blk_cell BK227.out 0).trans rfl; have hcz22_1 : w20.cell? ⟨gb227, 1, none⟩ = some (.int .i64 a2_1) := (blk_cell BK227.out 1).trans rfl; have hfz22_0 := blk_frozen BK227.out 0; have hfz22_1 := blk_frozen BK227.out 1) | ((with_reducible refine gate_callee (f := 62) rfl ?_); refine goesL_ (some 12) rfl rfl Try.func62 (by kernel_rfl) rfl #[.slice A0 l0.length c0, .int .i64 a2_0] rfl (by (try simp only [List.map_toArray, List.map_cons, List.map_nil]); first | done | rfl | (simp only [List.length_drop, List.length_take]; rfl)) ?_; (with_reducible refine (spec_FindTeam.calls k _ _ l0 a2_0 t228 _ ?side1 ?side2 A4.out).mono ?_); (case side1 => repeat (first | exact (Kd.C_below HR0.out HB.out) | (with_reducible refine Kd.C_alloc ?_ _) | (with_reducible refine Kd.C_drewN ?_ _) | (with_reducible refine Kd.C_drew ?_))); (case side2 => exact HC0.out); rintro e w' ⟨rfl, ⟨nd, rfl⟩⟩; refine ⟨_, rfl, ?_⟩) | ((with_reducible refine gate_callee (f := 62) rfl ?_); refine goesL_ (some 16) rfl rfl Try.func62 (by kernel_rfl) rfl #[.slice A0 l0.length c0, .int .i64 a2_1] rfl (by (try simp only [List.map_toArray, List.map_cons, List.map_nil]); first | done | rfl | (simp only [List.length_drop, List.length_take]; rfl)) ?_; (with_reducible refine (spec_FindTeam.calls k _ _ l0 a2_1 t229 _ ?side1 ?side2 A5.out).mono ?_); (case side1 => repeat (first | exact (Kd.C_below HR0.out (by repeat (first | (with_reducible first | exact HB.out | apply below_alloc | apply pw_below_drewN | apply below_drew1 | refine below_set ?_ GE226.out | refine below_set ?_ GE227.out) | exact HB.out))) | (with_reducible refine Kd.C_alloc ?_ _) | (with_reducible refine Kd.C_drewN ?_ _) | (with_reducible refine Kd.C_drew ?_))); (case side2 => exact HC0.out); rintro e w' ⟨rfl, ⟨nd, rfl⟩⟩; refine ⟨_, rfl, ?_⟩))
  (try (rw [drewN_self w20]; generalize hq_ : World.drewN w20 _ = w20; have n0_ : Aside0 (w20.heap[gb226]? = some (.cells #[.int .i64 a1_0, .int .i64 a1_1, .slice A1_2 l1_2.length c1_2] 46 (0, 0))) := ⟨by rw [← hq_]; exact (by (with_reducible repeat (first | refine blk_drewN ?_ _ | refine blk_drew ?_ | refine blk_alloc ?_ _)); exact BK226.out)⟩; have n1_ : Aside0 (w20.heap[gb227]? = some (.cells #[.int .i64 a2_0, .int .i64 a2_1] 48 (0, 0))) := ⟨by rw [← hq_]; exact (by (with_reducible repeat (first | refine blk_drewN ?_ _ | refine blk_drew ?_ | refine blk_alloc ?_ _)); exact BK227.out)⟩; have n2_ : Aside0 (Below w.heap.size w w20) := ⟨by rw [← hq_]; exact (by repeat (first | (with_reducible first | exact HB.out | apply below_alloc | apply pw_below_drewN | apply below_drew1 | refine below_set ?_ GE226.out | refine below_set ?_ GE227.out) | exact HB.out))⟩; clear BK226 BK227 HB hq_; have BK226 := n0_; have BK227 := n1_; have HB := n2_; clear n0_ n1_ n2_))
  have n0_ := Aside0.mk (blk_drew BK226.out)
  have n1_ := Aside0.mk (blk_drew BK227.out)
  have n2_ := Aside0.mk (below_drew1 HB.out)
  clear BK226
  clear BK227
  clear HB
  have BK226 := n0_
  have BK227 := n1_
  have HB := n2_
  clear n0_ n1_ n2_
  have p230 : 0 ≤ (t228 : Int) := of_decide_eq_true (by first | (with_reducible assumption) | assumption)
  have q230 : t228 < (l0.length : Int) := of_decide_eq_true (by first | (with_reducible assumption) | assumption)
  obtain ⟨ad230, A230_5, c230_5, e230, hx230_0, hx230_1, hx230_2, hx230_3, hx230_4, hx230_5, hl230_5, hi230_5⟩ := at_T78 HR0.out t228 p230 q230
  have hw230_5 := hx230_5
  have hw230_4 := hx230_4
  have hw230_3 := hx230_3
  have hw230_2 := hx230_2
  have hw230_1 := hx230_1
  have hw230_0 := hx230_0
  cases e230
  replace hx230_0 := (HB.out.cell (World.block_lt_of_cell? w _ hx230_0)).trans hx230_0
  replace hx230_1 := (HB.out.cell (World.block_lt_of_cell? w _ hx230_1)).trans hx230_1
  replace hx230_2 := (HB.out.cell (World.block_lt_of_cell? w _ hx230_2)).trans hx230_2
  replace hx230_3 := (HB.out.cell (World.block_lt_of_cell? w _ hx230_3)).trans hx230_3
  replace hx230_4 := (HB.out.cell (World.block_lt_of_cell? w _ hx230_4)).trans hx230_4
  replace hx230_5 := (HB.out.cell (World.block_lt_of_cell? w _ hx230_5)).trans hx230_5
  have HR230_5 := Aside0.mk hi230_5
  have HC230_5 := Aside0.mk hl230_5
  clear hi230_5 hl230_5
  replace p230 := eq_true p230
  replace q230 := eq_true q230
  have p231 : 0 ≤ (t229 : Int) := of_decide_eq_true (by first | (with_reducible assumption) | assumption)
  have q231 : t229 < (l0.length : Int) := of_decide_eq_true (by first | (with_reducible assumption) | assumption)
  obtain ⟨ad231, A231_5, c231_5, e231, hx231_0, hx231_1, hx231_2, hx231_3, hx231_4, hx231_5, hl231_5, hi231_5⟩ := at_T78 HR0.out t229 p231 q231
  have hw231_5 := hx231_5
  have hw231_4 := hx231_4
  have hw231_3 := hx231_3
  have hw231_2 := hx231_2
  have hw231_1 := hx231_1
  have hw231_0 := hx231_0
  obtain rfl : ad230 = ad231 := (by injection e231)
  replace hx231_0 := (HB.out.cell (World.block_lt_of_cell? w _ hx231_0)).trans hx231_0
  replace hx231_1 := (HB.out.cell (World.block_lt_of_cell? w _ hx231_1)).trans hx231_1
  replace hx231_2 := (HB.out.cell (World.block_lt_of_cell? w _ hx231_2)).trans hx231_2
  replace hx231_3 := (HB.out.cell (World.block_lt_of_cell? w _ hx231_3)).trans hx231_3
  replace hx231_4 := (HB.out.cell (World.block_lt_of_cell? w _ hx231_4)).trans hx231_4
  replace hx231_5 := (HB.out.cell (World.block_lt_of_cell? w _ hx231_5)).trans hx231_5
  have HR231_5 := Aside0.mk hi231_5
  have HC231_5 := Aside0.mk hl231_5
  clear hi231_5 hl231_5
  replace p231 := eq_true p231
  replace q231 := eq_true q231
  refine start_ (n := 43) (S := fun w' => w'.cell? ⟨gb226, 0, none⟩ = some (.int .i64 a1_0) ∧ w'.cell? ⟨gb226, 1, none⟩ = some (.int .i64 a1_1) ∧ w'.cell? ⟨gb226, 2, none⟩ = some (.slice A1_2 l1_2.length c1_2) ∧ w'.cell? (ad230.add ((t228).toNat * 6)) = some (.int .i64 ((rd_T78 l0 t228).f0)) ∧ w'.cell? ⟨(ad230.add ((t228).toNat * 6)).block, (ad230.add ((t228).toNat * 6)).off + 1, none⟩ = some (.int .i64 ((rd_T78 l0 t228).f1)) ∧ w'.cell? ⟨(ad230.add ((t228).toNat * 6)).block, (ad230.add ((t228).toNat * 6)).off + 2, none⟩ = some (.int .i64 ((rd_T78 l0 t228).f2)) ∧ w'.cell? ⟨(ad230.add ((t228).toNat * 6)).block, (ad230.add ((t228).toNat * 6)).off + 3, none⟩ = some (.int .i64 ((rd_T78 l0 t228).f3)) ∧ w'.cell? ⟨(ad230.add ((t228).toNat * 6)).block, (ad230.add ((t228).toNat * 6)).off + 4, none⟩ = some (.int .i64 ((rd_T78 l0 t228).f4)) ∧ w'.cell? ⟨(ad230.add ((t228).toNat * 6)).block, (ad230.add ((t228).toNat * 6)).off + 5, none⟩ = some (.slice A230_5 ((rd_T78 l0 t228).f5).length c230_5) ∧ w'.cell? (ad230.add ((t229).toNat * 6)) = some (.int .i64 ((rd_T78 l0 t229).f0)) ∧ w'.cell? ⟨(ad230.add ((t229).toNat * 6)).block, (ad230.add ((t229).toNat * 6)).off + 1, none⟩ = some (.int .i64 ((rd_T78 l0 t229).f1)) ∧ w'.cell? ⟨(ad230.add ((t229).toNat * 6)).block, (ad230.add ((t229).toNat * 6)).off + 2, none⟩ = some (.int .i64 ((rd_T78 l0 t229).f2)) ∧ w'.cell? ⟨(ad230.add ((t229).toNat * 6)).block, (ad230.add ((t229).toNat * 6)).off + 3, none⟩ = some (.int .i64 ((rd_T78 l0 t229).f3)) ∧ w'.cell? ⟨(ad230.add ((t229).toNat * 6)).block, (ad230.add ((t229).toNat * 6)).off + 4, none⟩ = some (.int .i64 ((rd_T78 l0 t229).f4)) ∧ w'.cell? ⟨(ad230.add ((t229).toNat * 6)).block, (ad230.add ((t229).toNat * 6)).off + 5, none⟩ = some (.slice A231_5 ((rd_T78 l0 t229).f5).length c231_5)) (ds := []) (bv 43 0) (by kernel_rfl) rfl rfl ⟨(blk_cell BK226.out 0).trans rfl, (blk_cell BK226.out 1).trans rfl, (blk_cell BK226.out 2).trans rfl, ((HB.out.cell (World.block_lt_of_cell? w _ hw230_0)).trans hw230_0), ((HB.out.cell (World.block_lt_of_cell? w _ hw230_1)).trans hw230_1), ((HB.out.cell (World.block_lt_of_cell? w _ hw230_2)).trans hw230_2), ((HB.out.cell (World.block_lt_of_cell? w _ hw230_3)).trans hw230_3), ((HB.out.cell (World.block_lt_of_cell? w _ hw230_4)).trans hw230_4), ((HB.out.cell (World.block_lt_of_cell? w _ hw230_5)).trans hw230_5), ((HB.out.cell (World.block_lt_of_cell? w _ hw231_0)).trans hw231_0), ((HB.out.cell (World.block_lt_of_cell? w _ hw231_1)).trans hw231_1), ((HB.out.cell (World.block_lt_of_cell? w _ hw231_2)).trans hw231_2), ((HB.out.cell (World.block_lt_of_cell? w _ hw231_3)).trans hw231_3), ((HB.out.cell (World.block_lt_of_cell? w _ hw231_4)).trans hw231_4), ((HB.out.cell (World.block_lt_of_cell? w _ hw231_5)).trans hw231_5)⟩ (fun hHeld => ?_); refine with_tabW spec_MayJudge.tab3 spec_MayJudge.bits3 (fun HT_ HW_ => ?_)
  generalize w20.drew = w23 at BK226 BK227 HB HR230_5 HR231_5 hx230_0 hx230_1 hx230_2 hx230_3 hx230_4 hx230_5 hx231_0 hx231_1 hx231_2 hx231_3 hx231_4 hx231_5 hHeld ⊢
  refine pv_ 43 0 17 1 rfl rfl HT_ ?_; refine pv_ 43 1 18 3 rfl rfl HT_ ?_; refine pv_ 43 2 19 7 rfl rfl HT_ ?_; refine pv_ 43 3 20 15 rfl rfl HT_ ?_; refine pv_ 43 4 21 31 rfl rfl HT_ ?_; refine pv_ 43 5 22 63 rfl rfl HT_ ?_; refine pv_ 43 6 23 127 rfl rfl HT_ ?_; refine pv_ 43 7 24 255 rfl rfl HT_ ?_; refine pv_ 43 8 25 511 rfl rfl HT_ ?_; refine pv_ 43 9 26 1023 rfl rfl HT_ ?_; refine pv_ 43 10 27 2047 rfl rfl HT_ ?_; refine pv_ 43 12 29 6143 rfl rfl HT_ ?_
  refine tv_ 43 11 28 8191 rfl rfl HT_ HW_ hHeld (by rintro w' ⟨s0, s1, s2, s3, s4, s5, s6, s7, s8, s9, s10, s11, s12, s13, s14⟩; go_simp; with_reducible rfl) ?_
  refine tv_ 43 13 30 16383 rfl rfl HT_ HW_ hHeld (by rintro w' ⟨s0, s1, s2, s3, s4, s5, s6, s7, s8, s9, s10, s11, s12, s13, s14⟩; go_simp; with_reducible rfl) ?_
  refine pv_ 43 14 31 32767 rfl rfl HT_ ?_; refine pv_ 43 15 32 65535 rfl rfl HT_ ?_; refine pv_ 43 16 33 131071 rfl rfl HT_ ?_; refine pv_ 43 17 34 262143 rfl rfl HT_ ?_; refine pv_ 43 18 35 524287 rfl rfl HT_ ?_; refine pv_ 43 19 36 1048575 rfl rfl HT_ ?_; refine pv_ 43 20 37 2097151 rfl rfl HT_ ?_; refine pv_ 43 22 39 6291455 rfl rfl HT_ ?_
  refine tv_ 43 21 38 8388607 rfl rfl HT_ HW_ hHeld (by rintro w' ⟨s0, s1, s2, s3, s4, s5, s6, s7, s8, s9, s10, s11, s12, s13, s14⟩; go_simp; with_reducible rfl) ?_
  refine tv_ 43 23 40 16777215 rfl rfl HT_ HW_ hHeld (by rintro w' ⟨s0, s1, s2, s3, s4, s5, s6, s7, s8, s9, s10, s11, s12, s13, s14⟩; go_simp; with_reducible rfl) ?_
  refine pv_ 43 24 41 33554431 rfl rfl HT_ ?_; refine pv_ 43 25 42 67108863 rfl rfl HT_ ?_; refine pv_ 43 26 43 134217727 rfl rfl HT_ ?_; refine pu_ 43 27 44 268435455 rfl rfl HT_ ?_; refine pu_ 43 28 45 536870911 rfl rfl HT_ ?_; refine pu_ 43 29 46 1073741823 rfl rfl HT_ ?_; refine pu_ 43 30 47 2147483647 rfl rfl HT_ ?_; refine pu_ 43 31 48 4294967295 rfl rfl HT_ ?_; refine pu_ 43 32 49 8589934591 rfl rfl HT_ ?_; refine pv_ 43 33 50 17179869183 rfl rfl HT_ ?_; refine pv_ 43 34 51 34359738367 rfl rfl HT_ ?_; refine pu_ 43 35 52 68719476735 rfl rfl HT_ ?_; refine pu_ 43 36 53 137438953471 rfl rfl HT_ ?_; refine pu_ 43 37 54 274877906943 rfl rfl HT_ ?_; refine pu_ 43 38 55 549755813887 rfl rfl HT_ ?_; refine pu_ 43 39 56 1099511627775 rfl rfl HT_ ?_; refine pu_ 43 40 57 2199023255551 rfl rfl HT_ ?_; refine pv_ 43 41 58 4398046511103 rfl rfl HT_ ?_; refine pv_ 43 42 6 8796093022207 rfl rfl HT_ ?_
  refine done_ (done_of HT_.out (by kernel_rfl)) ?_
  try go_wp2
  go_ret
  exact ⟨by first | rfl | (simp [errW_none, errW_some] <;> rfl) | (simp [*, errW_none, errW_some] <;> rfl), by repeat (first | (with_reducible first | exact HB.out | apply below_alloc | apply pw_below_drewN | apply below_drew1 | refine below_set ?_ GE226.out | refine below_set ?_ GE227.out) | exact HB.out)⟩
 rw [if_pos c10] at H
 have c10b0 : (((rd_T78 l0 t228).f1) == a1_1) = true := beq_iff_eq.mpr c10
 have c10b1 : (((rd_T78 l0 t228).f1) != a1_1) = false := bne_eq_false_iff_eq.mpr c10
 clear c10
 obtain rfl := Option.some.inj H
 go_enter Try.func24, Try.ntmps24
 try go_wp2_with (first | ((with_reducible refine gate_dst (N := 4) rfl ?_); refine box_event ?hg (N := 4) ?hd (cs := #[.int .i64 a1_0, .int .i64 a1_1, .slice A1_2 l1_2.length c1_2]) (t := 46) ?hr ?_; (case hd => rfl); (case hg => rfl); (case hr => first | (go_simp; done) | (go_simp; rfl)); intro gb226 hg w11 hbox hb; have n0_ := Aside0.mk (below_step (by repeat (first | (with_reducible first | exact HB.out | apply below_alloc | apply pw_below_drewN | apply below_drew1) | exact HB.out)) hb); have n1_ := Aside0.mk (hbox); have n2_ := Aside0.mk ((by rw [hg]; exact (below_size (by repeat (first | (with_reducible first | exact HB.out | apply below_alloc | apply pw_below_drewN | apply below_drew1) | exact HB.out))) : w.heap.size ≤ gb226)); have n3_ := Aside0.mk ((by rw [hg]; exact (below_size (by repeat (first | (with_reducible first | exact HB.out | apply below_alloc | apply pw_below_drewN | apply below_drew1) | exact HB.out))) : w.heap.size ≤ gb226)); clear HB; have HB := n0_; have BK226 := n1_; have GW226 := n2_; have GE226 := n3_; clear n0_ n1_ n2_ n3_; clear hb hbox hg) | ((with_reducible refine gate_dst (N := 5) rfl ?_); refine box_event ?hg (N := 5) ?hd (cs := #[.int .i64 a2_0, .int .i64 a2_1]) (t := 48) ?hr ?_; (case hd => rfl); (case hg => rfl); (case hr => first | (go_simp; done) | (go_simp; rfl)); intro gb227 hg w12 hbox hb; have n0_ := Aside0.mk (blk_below (g := gb226) (o := .cells #[.int .i64 a1_0, .int .i64 a1_1, .slice A1_2 l1_2.length c1_2] 46 (0, 0)) (by (with_reducible repeat (first | refine blk_drewN ?_ _ | refine blk_drew ?_ | refine blk_alloc ?_ _)); exact BK226.out) hb); have n1_ := Aside0.mk (below_step (by repeat (first | (with_reducible first | exact HB.out | apply below_alloc | apply pw_below_drewN | apply below_drew1 | refine below_set ?_ GE226.out) | exact HB.out)) hb); have n2_ := Aside0.mk (hbox); have n3_ := Aside0.mk ((by rw [hg]; exact (below_size (by repeat (first | (with_reducible first | exact HB.out | apply below_alloc | apply pw_below_drewN | apply below_drew1 | refine below_set ?_ GE226.out) | exact HB.out))) : w.heap.size ≤ gb227)); have n4_ := Aside0.mk ((by rw [hg]; exact (below_size (by repeat (first | (with_reducible first | exact HB.out | apply below_alloc | apply pw_below_drewN | apply below_drew1 | refine below_set ?_ GE226.out) | exact HB.out))) : w.heap.size ≤ gb227)); have n5_ := Aside0.mk ((by rw [hg]; exact Nat.ne_of_lt (blk_lt (g := gb226) (o := .cells #[.int .i64 a1_0, .int .i64 a1_1, .slice A1_2 l1_2.length c1_2] 46 (0, 0)) (by (with_reducible repeat (first | refine blk_drewN ?_ _ | refine blk_drew ?_ | refine blk_alloc ?_ _)); exact BK226.out)) : gb226 ≠ gb227)); have n6_ := Aside0.mk ((by rw [hg]; exact Nat.ne_of_gt (blk_lt (g := gb226) (o := .cells #[.int .i64 a1_0, .int .i64 a1_1, .slice A1_2 l1_2.length c1_2] 46 (0, 0)) (by (with_reducible repeat (first | refine blk_drewN ?_ _ | refine blk_drew ?_ | refine blk_alloc ?_ _)); exact BK226.out)) : gb227 ≠ gb226)); clear BK226; clear HB; have BK226 := n0_; have HB := n1_; have BK227 := n2_; have GW227 := n3_; have GE227 := n4_; have NB226_227 := n5_; have NB227_226 := n6_; clear n0_ n1_ n2_ n3_ n4_ n5_ n6_; clear hb hbox hg; have hnb13 := NB227_226.out; have hnc13 := NB226_227.out; have hcz14_0 : w12.cell? ⟨gb227, 0, none⟩ = some (.int .i64 a2_0) := (blk_cell BK227.out 0).trans rfl; have hcz14_1 : w12.cell? ⟨gb227, 1, none⟩ = some (.int .i64 a2_1) := (blk_cell BK227.out 1).trans rfl; have hfz14_0 := blk_frozen BK227.out 0; have hfz14_1 := blk_frozen BK227.out 1) | ((with_reducible refine gate_callee (f := 62) rfl ?_); refine goesL_ (some 12) rfl rfl Try.func62 (by kernel_rfl) rfl #[.slice A0 l0.length c0, .int .i64 a2_0] rfl (by (try simp only [List.map_toArray, List.map_cons, List.map_nil]); first | done | rfl | (simp only [List.length_drop, List.length_take]; rfl)) ?_; (with_reducible refine (spec_FindTeam.calls k _ _ l0 a2_0 t228 _ ?side1 ?side2 A4.out).mono ?_); (case side1 => repeat (first | exact (Kd.C_below HR0.out HB.out) | (with_reducible refine Kd.C_alloc ?_ _) | (with_reducible refine Kd.C_drewN ?_ _) | (with_reducible refine Kd.C_drew ?_))); (case side2 => exact HC0.out); rintro e w' ⟨rfl, ⟨nd, rfl⟩⟩; refine ⟨_, rfl, ?_⟩) | ((with_reducible refine gate_callee (f := 62) rfl ?_); refine goesL_ (some 16) rfl rfl Try.func62 (by kernel_rfl) rfl #[.slice A0 l0.length c0, .int .i64 a2_1] rfl (by (try simp only [List.map_toArray, List.map_cons, List.map_nil]); first | done | rfl | (simp only [List.length_drop, List.length_take]; rfl)) ?_; (with_reducible refine (spec_FindTeam.calls k _ _ l0 a2_1 t229 _ ?side1 ?side2 A5.out).mono ?_); (case side1 => repeat (first | exact (Kd.C_below HR0.out (by repeat (first | (with_reducible first | exact HB.out | apply below_alloc | apply pw_below_drewN | apply below_drew1 | refine below_set ?_ GE226.out | refine below_set ?_ GE227.out) | exact HB.out))) | (with_reducible refine Kd.C_alloc ?_ _) | (with_reducible refine Kd.C_drewN ?_ _) | (with_reducible refine Kd.C_drew ?_))); (case side2 => exact HC0.out); rintro e w' ⟨rfl, ⟨nd, rfl⟩⟩; refine ⟨_, rfl, ?_⟩))
 (try (rw [drewN_self w12]; generalize hq_ : World.drewN w12 _ = w12; have n0_ : Aside0 (w12.heap[gb226]? = some (.cells #[.int .i64 a1_0, .int .i64 a1_1, .slice A1_2 l1_2.length c1_2] 46 (0, 0))) := ⟨by rw [← hq_]; exact (by (with_reducible repeat (first | refine blk_drewN ?_ _ | refine blk_drew ?_ | refine blk_alloc ?_ _)); exact BK226.out)⟩; have n1_ : Aside0 (w12.heap[gb227]? = some (.cells #[.int .i64 a2_0, .int .i64 a2_1] 48 (0, 0))) := ⟨by rw [← hq_]; exact (by (with_reducible repeat (first | refine blk_drewN ?_ _ | refine blk_drew ?_ | refine blk_alloc ?_ _)); exact BK227.out)⟩; have n2_ : Aside0 (Below w.heap.size w w12) := ⟨by rw [← hq_]; exact (by repeat (first | (with_reducible first | exact HB.out | apply below_alloc | apply pw_below_drewN | apply below_drew1 | refine below_set ?_ GE226.out | refine below_set ?_ GE227.out) | exact HB.out))⟩; clear BK226 BK227 HB hq_; have BK226 := n0_; have BK227 := n1_; have HB := n2_; clear n0_ n1_ n2_))
 have n0_ := Aside0.mk (blk_drew BK226.out)
 have n1_ := Aside0.mk (blk_drew BK227.out)
 have n2_ := Aside0.mk (below_drew1 HB.out)
 clear BK226
 clear BK227
 clear HB
 have BK226 := n0_
 have BK227 := n1_
 have HB := n2_
 clear n0_ n1_ n2_
 have p230 : 0 ≤ (t228 : Int) := of_decide_eq_true (by first | (with_reducible assumption) | assumption)
 have q230 : t228 < (l0.length : Int) := of_decide_eq_true (by first | (with_reducible assumption) | assumption)
 obtain ⟨ad230, A230_5, c230_5, e230, hx230_0, hx230_1, hx230_2, hx230_3, hx230_4, hx230_5, hl230_5, hi230_5⟩ := at_T78 HR0.out t228 p230 q230
 have hw230_5 := hx230_5
 have hw230_4 := hx230_4
 have hw230_3 := hx230_3
 have hw230_2 := hx230_2
 have hw230_1 := hx230_1
 have hw230_0 := hx230_0
 cases e230
 replace hx230_0 := (HB.out.cell (World.block_lt_of_cell? w _ hx230_0)).trans hx230_0
 replace hx230_1 := (HB.out.cell (World.block_lt_of_cell? w _ hx230_1)).trans hx230_1
 replace hx230_2 := (HB.out.cell (World.block_lt_of_cell? w _ hx230_2)).trans hx230_2
 replace hx230_3 := (HB.out.cell (World.block_lt_of_cell? w _ hx230_3)).trans hx230_3
 replace hx230_4 := (HB.out.cell (World.block_lt_of_cell? w _ hx230_4)).trans hx230_4
 replace hx230_5 := (HB.out.cell (World.block_lt_of_cell? w _ hx230_5)).trans hx230_5
 have HR230_5 := Aside0.mk hi230_5
 have HC230_5 := Aside0.mk hl230_5
 clear hi230_5 hl230_5
 replace p230 := eq_true p230
 replace q230 := eq_true q230
 refine start_ (n := 43) (S := fun w' => w'.cell? ⟨gb226, 0, none⟩ = some (.int .i64 a1_0) ∧ w'.cell? ⟨gb226, 1, none⟩ = some (.int .i64 a1_1) ∧ w'.cell? ⟨gb226, 2, none⟩ = some (.slice A1_2 l1_2.length c1_2) ∧ w'.cell? (ad230.add ((t228).toNat * 6)) = some (.int .i64 ((rd_T78 l0 t228).f0)) ∧ w'.cell? ⟨(ad230.add ((t228).toNat * 6)).block, (ad230.add ((t228).toNat * 6)).off + 1, none⟩ = some (.int .i64 ((rd_T78 l0 t228).f1)) ∧ w'.cell? ⟨(ad230.add ((t228).toNat * 6)).block, (ad230.add ((t228).toNat * 6)).off + 2, none⟩ = some (.int .i64 ((rd_T78 l0 t228).f2)) ∧ w'.cell? ⟨(ad230.add ((t228).toNat * 6)).block, (ad230.add ((t228).toNat * 6)).off + 3, none⟩ = some (.int .i64 ((rd_T78 l0 t228).f3)) ∧ w'.cell? ⟨(ad230.add ((t228).toNat * 6)).block, (ad230.add ((t228).toNat * 6)).off + 4, none⟩ = some (.int .i64 ((rd_T78 l0 t228).f4)) ∧ w'.cell? ⟨(ad230.add ((t228).toNat * 6)).block, (ad230.add ((t228).toNat * 6)).off + 5, none⟩ = some (.slice A230_5 ((rd_T78 l0 t228).f5).length c230_5)) (ds := []) (bv 43 0) (by kernel_rfl) rfl rfl ⟨(blk_cell BK226.out 0).trans rfl, (blk_cell BK226.out 1).trans rfl, (blk_cell BK226.out 2).trans rfl, ((HB.out.cell (World.block_lt_of_cell? w _ hw230_0)).trans hw230_0), ((HB.out.cell (World.block_lt_of_cell? w _ hw230_1)).trans hw230_1), ((HB.out.cell (World.block_lt_of_cell? w _ hw230_2)).trans hw230_2), ((HB.out.cell (World.block_lt_of_cell? w _ hw230_3)).trans hw230_3), ((HB.out.cell (World.block_lt_of_cell? w _ hw230_4)).trans hw230_4), ((HB.out.cell (World.block_lt_of_cell? w _ hw230_5)).trans hw230_5)⟩ (fun hHeld => ?_); refine with_tabW spec_MayJudge.tab3 spec_MayJudge.bits3 (fun HT_ HW_ => ?_)
 generalize w12.drew = w15 at BK226 BK227 HB HR230_5 hx230_0 hx230_1 hx230_2 hx230_3 hx230_4 hx230_5 hHeld ⊢
 refine pv_ 43 0 17 1 rfl rfl HT_ ?_; refine pv_ 43 1 18 3 rfl rfl HT_ ?_; refine pv_ 43 2 19 7 rfl rfl HT_ ?_; refine pv_ 43 3 20 15 rfl rfl HT_ ?_; refine pv_ 43 4 21 31 rfl rfl HT_ ?_; refine pv_ 43 5 22 63 rfl rfl HT_ ?_; refine pv_ 43 6 23 127 rfl rfl HT_ ?_; refine pv_ 43 7 24 255 rfl rfl HT_ ?_; refine pv_ 43 8 25 511 rfl rfl HT_ ?_; refine pv_ 43 9 26 1023 rfl rfl HT_ ?_; refine pv_ 43 10 27 2047 rfl rfl HT_ ?_; refine pv_ 43 12 29 6143 rfl rfl HT_ ?_
 refine tv_ 43 11 28 8191 rfl rfl HT_ HW_ hHeld (by rintro w' ⟨s0, s1, s2, s3, s4, s5, s6, s7, s8⟩; go_simp; with_reducible rfl) ?_
 refine tv_ 43 13 30 16383 rfl rfl HT_ HW_ hHeld (by rintro w' ⟨s0, s1, s2, s3, s4, s5, s6, s7, s8⟩; go_simp; with_reducible rfl) ?_
 refine pv_ 43 14 31 32767 rfl rfl HT_ ?_; refine pv_ 43 15 32 65535 rfl rfl HT_ ?_; refine pv_ 43 16 33 131071 rfl rfl HT_ ?_; refine pu_ 43 17 34 262143 rfl rfl HT_ ?_; refine pu_ 43 18 35 524287 rfl rfl HT_ ?_; refine pu_ 43 19 36 1048575 rfl rfl HT_ ?_; refine pu_ 43 20 37 2097151 rfl rfl HT_ ?_; refine pu_ 43 21 38 4194303 rfl rfl HT_ ?_; refine pu_ 43 22 39 8388607 rfl rfl HT_ ?_; refine pu_ 43 23 40 16777215 rfl rfl HT_ ?_; refine pu_ 43 24 41 33554431 rfl rfl HT_ ?_; refine pv_ 43 25 42 67108863 rfl rfl HT_ ?_; refine pv_ 43 26 43 134217727 rfl rfl HT_ ?_; refine pu_ 43 27 44 268435455 rfl rfl HT_ ?_; refine pu_ 43 28 45 536870911 rfl rfl HT_ ?_; refine pu_ 43 29 46 1073741823 rfl rfl HT_ ?_; refine pu_ 43 30 47 2147483647 rfl rfl HT_ ?_; refine pu_ 43 31 48 4294967295 rfl rfl HT_ ?_; refine pu_ 43 32 49 8589934591 rfl rfl HT_ ?_; refine pv_ 43 33 50 17179869183 rfl rfl HT_ ?_; refine pv_ 43 34 51 34359738367 rfl rfl HT_ ?_
 refine pu_ 43 35 52 68719476735 rfl rfl HT_ ?_; refine pu_ 43 36 53 137438953471 rfl rfl HT_ ?_; refine pu_ 43 37 54 274877906943 rfl rfl HT_ ?_; refine pu_ 43 38 55 549755813887 rfl rfl HT_ ?_; refine pu_ 43 39 56 1099511627775 rfl rfl HT_ ?_; refine pu_ 43 40 57 2199023255551 rfl rfl HT_ ?_; refine pv_ 43 41 58 4398046511103 rfl rfl HT_ ?_; refine pv_ 43 42 6 8796093022207 rfl rfl HT_ ?_
 refine done_ (done_of HT_.out (by kernel_rfl)) ?_
 try go_wp2
 go_ret
 exact ⟨by first | rfl | (simp [errW_none, errW_some] <;> rfl) | (simp [*, errW_none, errW_some] <;> rfl), by repeat (first | (with_reducible first | exact HB.out | apply below_alloc | apply pw_below_drewN | apply below_drew1 | refine below_set ?_ GE226.out | refine below_set ?_ GE227.out) | exact HB.out)⟩
end Go.Proofs.Ytdlebbmmanjffaa.A
end
