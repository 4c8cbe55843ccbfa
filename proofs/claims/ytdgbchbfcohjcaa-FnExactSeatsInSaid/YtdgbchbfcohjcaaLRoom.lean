/- Rooms: what the printed functions come to, for every list of at most 2^40. -/
import Derived.Test.YtdgbchbfcohjcaaLRngS
import Derived.Test.YtdgbchbfcohjcaaLRngI
import Derived.Test.YtdgbchbfcohjcaaA27
import Derived.Test.YtdgbchbfcohjcaaA30
import Derived.Test.YtdgbchbfcohjcaaA24
import Derived.Test.YtdgbchbfcohjcaaA25
import Derived.Test.YtdgbchbfcohjcaaA28
import Derived.Test.YtdgbchbfcohjcaaA60
import Derived.Test.YtdgbchbfcohjcaaA61
set_option linter.unusedVariables false
set_option linter.unusedSimpArgs false
namespace Go.Proofs.Ytdgbchbfcohjcaa.L
open Go Go.RowKit Go.Proofs.Ytdgbchbfcohjcaa.A Go.Proofs.YtdgbchbfcohjcaaW.PrintWords

theorem rdLRoom {l : List S72} {n : Nat} (h : n < l.length) : rd_T72 l (n : Int) = l[n] := by
  simp [rd_T72, h]
theorem rdRoom {l : List S70} {n : Nat} (h : n < l.length) : rd_T70 l (n : Int) = l[n] := by
  simp [rd_T70, h]
def cvRoom (x : S72) : S70 := ⟨x.f0, x.f1⟩
theorem toRoomS_l0 (l : List S72) (hl : l.length ≤ 1099511627776) : ∀ (d n : Nat) (xs : List S70), n + d = l.length → xs.length = l.length → xs.take n = (l.map cvRoom).take n → Ev (fun k => laws_toRoomS.l0 k l xs (n : Int)) (l.map cvRoom) := by
  intro d
  induction d with
  | zero =>
    intro n xs hd hx ht
    refine Ev.step (fun k => laws_toRoomS.l0.eq_2 ..) ?_
    refine Ev.neg (by omega) (Ev.some_ ?_)
    rw [List.take_of_length_le (by omega), List.take_of_length_le (by simp; omega)] at ht
    exact ht
  | succ d ih =>
    intro n xs hd hx ht
    refine Ev.step (fun k => laws_toRoomS.l0.eq_2 ..) ?_
    refine Ev.pos (by omega) (Ev.pos (by omega) ?_)
    simp only [laws_toRoom.f, Option.bind_some]
    refine Ev.pos (by omega) ?_
    simp only [w64s (show n < 4611686018427387904 by omega), rdLRoom (show n < l.length by omega), Int.toNat_natCast]
    refine ih (n + 1) _ (by omega) (by simp [hx]) ?_
    rw [List.take_succ_eq_append_getElem (by simp; omega), List.take_succ_eq_append_getElem (by simp; omega), List.take_set_of_le (by omega), ht]
    simp [cvRoom]
theorem toRoomS_ev (l : List S72) (hl : l.length ≤ 1099511627776) : Ev (fun k => laws_toRoomS.f k l) (l.map cvRoom) := by
  unfold laws_toRoomS.f
  refine Ev.pos (by omega) (Ev.pos (by simp; omega) ?_)
  exact toRoomS_l0 l hl l.length 0 _ (by omega) (by simp) (by simp)
theorem eqRoom_same (x : S70) : laws_eqRoom.f x.f0 x.f1 x.f0 x.f1 = some true := by simp [laws_eqRoom.f]
theorem eqRoomS_l0 (l : List S70) (hl : l.length ≤ 1099511627776) : ∀ (d n : Nat), n + d = l.length → Ev (fun k => laws_eqRoomS.l0 k l l (n : Int)) true := by
  intro d
  induction d with
  | zero =>
    intro n hd
    refine Ev.step (fun k => laws_eqRoomS.l0.eq_2 ..) ?_
    exact Ev.neg (by omega) (Ev.now _)
  | succ d ih =>
    intro n hd
    refine Ev.step (fun k => laws_eqRoomS.l0.eq_2 ..) ?_
    refine Ev.pos (by omega) (Ev.pos (by omega) (Ev.pos (by omega) ?_))
    simp only [w64s (show n < 4611686018427387904 by omega), rdRoom (show n < l.length by omega), eqRoom_same, Option.bind_some]
    exact Ev.pos trivial (ih (n + 1) (by omega))
theorem eqRoomS_ev (l : List S70) (hl : l.length ≤ 1099511627776) : Ev (fun k => laws_eqRoomS.f k l l) true := by
  unfold laws_eqRoomS.f
  exact Ev.pos rfl (eqRoomS_l0 l hl l.length 0 (by omega))
theorem szRoomS_eq (l : List S72) (left : Int) (h0 : 0 ≤ left) (h1 : left ≤ 1048576) (hl : l.length ≤ 9223372036854775807) : laws_szRoomS.f l left = some (if left - l.length < 0 then -1 else left - l.length) := by
  unfold laws_szRoomS.f
  rw [w64 (by omega) (by omega)]
  split <;> rfl

/-- Rooms from a place on: ranges, and each Id behind the one ahead of it. -/
def roomsF (p : Int) : List S70 → Bool
  | [] => true
  | r :: l => inR r.f0 1 99 && decide (p < r.f0) && inR r.f1 1 1000 && roomsF r.f0 l
def okRooms (l : List S70) : Bool := roomsF 0 l && decide ((l.length : Int) ≤ 20)
theorem sAreRooms_l0 (l : List S70) (hl : l.length ≤ 1099511627776) : ∀ (d n : Nat) (p : Int), n + d = l.length → (n = 0 → p = 0) → (∀ h : 0 < n ∧ n ≤ l.length, p = (l[n - 1]'(by omega)).f0) → Ev (fun k => spec_AreRooms.l0 k l (n : Int)) (roomsF p (l.drop n) && decide ((l.length : Int) ≤ 20)) := by
  intro d
  induction d with
  | zero =>
    intro n p hd hp0 hp
    refine Ev.step (fun k => spec_AreRooms.l0.eq_2 ..) ?_
    refine Ev.neg (by omega) (Ev.some_ ?_)
    rw [List.drop_eq_nil_of_le (by omega)]
    simp [roomsF]
  | succ d ih =>
    intro n p hd hp0 hp
    refine Ev.step (fun k => spec_AreRooms.l0.eq_2 ..) ?_
    refine Ev.pos (by omega) (Ev.pos (by omega) ?_)
    simp only [w64s (show n < 4611686018427387904 by omega), rdRoom (show n < l.length by omega), l1In_eq, Option.bind_some]
    have h1 := ih (n + 1) (l[n]).f0 (by omega) (by omega) (fun h => by simp)
    rw [List.drop_eq_getElem_cons (show n < l.length by omega)]
    generalize l.drop (n + 1) = u at h1 ⊢
    refine Ev.ite (fun h => Ev.ite (fun h' => Ev.ite (fun h2 => ?_) (fun h2 => Ev.cast h1 ?_)) (fun h' => Ev.some_ ?_)) (fun h => Ev.some_ ?_)
    · obtain ⟨m, rfl⟩ : ∃ m, n = m + 1 := ⟨n - 1, by omega⟩
      simp only [w64p (show m < 4611686018427387904 by omega), rdRoom (show m < l.length by omega)]
      have hp' : p = l[m].f0 := hp ⟨by omega, by omega⟩
      refine Ev.pos (by omega) (Ev.pos (by omega) (Ev.ite (fun h3 => Ev.some_ ?_) (fun h3 => Ev.cast h1 ?_)))
      · have : ¬ p < l[m + 1].f0 := by omega
        simp [roomsF, this]
      · have : p < l[m + 1].f0 := by omega
        simp [roomsF, this, h, h']
    · have h0 : n = 0 := by omega
      have := inR_iff.1 h
      have : p < l[n].f0 := by rw [hp0 h0]; omega
      simp [roomsF, h, h', this]
    · simp [roomsF, h']
    · simp [roomsF, h]
theorem sAreRooms_ev (l : List S70) (hl : l.length ≤ 1099511627776) : Ev (fun k => spec_AreRooms.f k l) (okRooms l) := by
  unfold spec_AreRooms.f
  exact Ev.cast (sAreRooms_l0 l hl l.length 0 0 (by omega) (fun _ => rfl) (fun h => by omega)) (by simp [okRooms])
theorem iAreRooms_l0 (l : List S70) (hl : l.length ≤ 1099511627776) : ∀ (d n : Nat) (p : Int), n + d = l.length → (n = 0 → p = 0) → (∀ h : 0 < n ∧ n ≤ l.length, p = (l[n - 1]'(by omega)).f0) → Ev (fun k => impl_AreRooms.l0 k l l (l.length : Int) (n : Int)) (roomsF p (l.drop n)) := by
  intro d
  induction d with
  | zero =>
    intro n p hd hp0 hp
    refine Ev.step (fun k => impl_AreRooms.l0.eq_2 ..) ?_
    refine Ev.neg (by omega) (Ev.some_ ?_)
    rw [List.drop_eq_nil_of_le (by omega)]
    simp [roomsF]
  | succ d ih =>
    intro n p hd hp0 hp
    refine Ev.step (fun k => impl_AreRooms.l0.eq_2 ..) ?_
    refine Ev.pos (by omega) (Ev.pos (by omega) (Ev.pos (by omega) ?_))
    simp only [w64s (show n < 4611686018427387904 by omega), rdRoom (show n < l.length by omega), InRange_eq, Option.bind_some]
    have h1 := ih (n + 1) (l[n]).f0 (by omega) (by omega) (fun h => by simp)
    rw [List.drop_eq_getElem_cons (show n < l.length by omega)]
    generalize l.drop (n + 1) = u at h1 ⊢
    refine Ev.ite (fun h => Ev.ite (fun h2 => ?_) (fun h2 => Ev.ite (fun h' => Ev.cast h1 ?_) (fun h' => Ev.some_ ?_))) (fun h => Ev.some_ ?_)
    · obtain ⟨m, rfl⟩ : ∃ m, n = m + 1 := ⟨n - 1, by omega⟩
      simp only [w64p (show m < 4611686018427387904 by omega), rdRoom (show m < l.length by omega)]
      have hp' : p = l[m].f0 := hp ⟨by omega, by omega⟩
      refine Ev.pos (by omega) (Ev.pos (by omega) (Ev.ite (fun h3 => Ev.some_ ?_) (fun h3 => Ev.ite (fun h' => Ev.cast h1 ?_) (fun h' => Ev.some_ ?_))))
      · have : ¬ p < l[m + 1].f0 := by omega
        simp [roomsF, this]
      · have : p < l[m + 1].f0 := by omega
        simp [roomsF, this, h, h']
      · simp [roomsF, h']
    · have h0 : n = 0 := by omega
      have := inR_iff.1 h
      have : p < l[n].f0 := by rw [hp0 h0]; omega
      simp [roomsF, h, h', this]
    · simp [roomsF, h']
    · simp [roomsF, h]
theorem iAreRooms_ev (l : List S70) (hl : l.length ≤ 1099511627776) : Ev (fun k => impl_AreRooms.f k l) (okRooms l) := by
  unfold impl_AreRooms.f
  refine Ev.ite (fun h => Ev.some_ ?_) (fun h => Ev.cast (iAreRooms_l0 l hl l.length 0 0 (by omega) (fun _ => rfl) (fun h => by omega)) ?_)
  · have : ¬ (l.length : Int) ≤ 20 := by omega
    simp [okRooms, this]
  · have : (l.length : Int) ≤ 20 := by omega
    simp [okRooms, this]
theorem roomsF_mem : ∀ (l : List S70) (p : Int), roomsF p l = true → ∀ r ∈ l, p < r.f0 ∧ 1 ≤ r.f0 ∧ r.f0 ≤ 99 ∧ 1 ≤ r.f1 ∧ r.f1 ≤ 1000
  | [], _, _, r, hr => by cases hr
  | x :: l, p, h, r, hr => by
    simp only [roomsF, Bool.and_eq_true, decide_eq_true_eq, inR_iff] at h
    obtain ⟨⟨⟨h0, h1⟩, h2⟩, h3⟩ := h
    rcases List.mem_cons.1 hr with rfl | hr
    · omega
    · have := roomsF_mem l x.f0 h3 r hr
      omega
/-- Seats in all. -/
def seats : List S70 → Int
  | [] => 0
  | r :: l => r.f1 + seats l
theorem seats_le : ∀ (l : List S70), (∀ r ∈ l, 1 ≤ r.f1 ∧ r.f1 ≤ 1000) → 0 ≤ seats l ∧ seats l ≤ 1000 * l.length
  | [], _ => by simp [seats]
  | x :: l, h => by
    have h1 := h x (by simp)
    have h2 := seats_le l (fun r hr => h r (by simp [hr]))
    simp only [seats, List.length_cons]
    omega
theorem sSeatsIn_l0 (l : List S70) (hl : l.length ≤ 1099511627776) (ho : okRooms l = true) (hr : ∀ r ∈ l, 1 ≤ r.f1 ∧ r.f1 ≤ 1000) : ∀ (d n : Nat) (acc : Int), n + d = l.length → 0 ≤ acc → acc + 1000 * d ≤ 4611686018427387904 → Ev (fun k => spec_SeatsIn.l0 k l acc (n : Int)) (acc + seats (l.drop n)) := by
  intro d
  induction d with
  | zero =>
    intro n acc hd h0 h1
    refine Ev.step (fun k => spec_SeatsIn.l0.eq_2 ..) ?_
    refine Ev.neg (by omega) (Ev.some_ ?_)
    rw [List.drop_eq_nil_of_le (by omega)]
    simp [seats]
  | succ d ih =>
    intro n acc hd h0 h1
    refine Ev.step (fun k => spec_SeatsIn.l0.eq_2 ..) ?_
    refine Ev.pos (by omega) (Ev.bind (sAreRooms_ev l hl) (Ev.pos ho (Ev.pos (by omega) ?_)))
    have hb := hr l[n] (List.getElem_mem _)
    simp only [w64s (show n < 4611686018427387904 by omega), rdRoom (show n < l.length by omega), w64 (show -9223372036854775808 ≤ acc + l[n].f1 by omega) (show acc + l[n].f1 ≤ 9223372036854775807 by omega)]
    refine Ev.cast (ih (n + 1) _ (by omega) (by omega) (by omega)) ?_
    rw [List.drop_eq_getElem_cons (show n < l.length by omega)]
    simp only [seats]
    omega
theorem iSeatsIn_l0 (l : List S70) (hl : l.length ≤ 1099511627776) (hr : ∀ r ∈ l, 1 ≤ r.f1 ∧ r.f1 ≤ 1000) : ∀ (d n : Nat) (acc : Int), n + d = l.length → 0 ≤ acc → acc + 1000 * d ≤ 4611686018427387904 → Ev (fun k => impl_SeatsIn.l0 k acc l (l.length : Int) (n : Int)) (acc + seats (l.drop n)) := by
  intro d
  induction d with
  | zero =>
    intro n acc hd h0 h1
    refine Ev.step (fun k => impl_SeatsIn.l0.eq_2 ..) ?_
    refine Ev.neg (by omega) (Ev.some_ ?_)
    rw [List.drop_eq_nil_of_le (by omega)]
    simp [seats]
  | succ d ih =>
    intro n acc hd h0 h1
    refine Ev.step (fun k => impl_SeatsIn.l0.eq_2 ..) ?_
    refine Ev.pos (by omega) (Ev.pos (by omega) (Ev.pos (by omega) ?_))
    have hb := hr l[n] (List.getElem_mem _)
    simp only [w64s (show n < 4611686018427387904 by omega), rdRoom (show n < l.length by omega), w64 (show -9223372036854775808 ≤ acc + l[n].f1 by omega) (show acc + l[n].f1 ≤ 9223372036854775807 by omega)]
    refine Ev.cast (ih (n + 1) _ (by omega) (by omega) (by omega)) ?_
    rw [List.drop_eq_getElem_cons (show n < l.length by omega)]
    simp only [seats]
    omega
theorem okRooms_mem {l : List S70} (h : okRooms l = true) : ∀ r ∈ l, 1 ≤ r.f1 ∧ r.f1 ≤ 1000 := by
  simp only [okRooms, Bool.and_eq_true] at h
  intro r hr
  have := roomsF_mem l 0 h.1 r hr
  omega
def seatsIn (l : List S70) : Int := if okRooms l = true then seats l else 0
theorem sSeatsIn_ev (l : List S70) (hl : l.length ≤ 1099511627776) : Ev (fun k => spec_SeatsIn.f k l) (seatsIn l) := by
  unfold spec_SeatsIn.f seatsIn
  by_cases ho : okRooms l = true
  · rw [if_pos ho]
    exact Ev.cast (sSeatsIn_l0 l hl ho (okRooms_mem ho) l.length 0 0 (by omega) (by omega) (by omega)) (by simp)
  · rw [if_neg ho]
    refine Ev.step (fun k => spec_SeatsIn.l0.eq_2 ..) ?_
    refine Ev.ite (fun _ => ?_) (fun _ => Ev.now _)
    exact Ev.bind (sAreRooms_ev l hl) (Ev.neg ho (Ev.now _))
theorem iSeatsIn_ev (l : List S70) (hl : l.length ≤ 1099511627776) : Ev (fun k => impl_SeatsIn.f k l) (seatsIn l) := by
  unfold impl_SeatsIn.f seatsIn
  refine Ev.bind (iAreRooms_ev l hl) ?_
  refine Ev.ite (fun ho => ?_) (fun ho => Ev.some_ ?_)
  · rw [if_pos ho]
    exact Ev.cast (iSeatsIn_l0 l hl (okRooms_mem ho) l.length 0 0 (by omega) (by omega) (by omega)) (by simp)
  · rw [if_neg ho]
end Go.Proofs.Ytdgbchbfcohjcaa.L
