/- The texts that the row FnBallots rests on, put together: LOpen, LBase, LRngS, LRngI, LBallot, LBallot2, LBallot3, LSpliti, A48, LDraw, LXFnBallots. No condition. -/
import Derived.Test.YtadcndmhdbhfkaaWMore
import Derived.Deep.Slices
import Derived.Deep.Fields
import Derived.ChangeSame
import Derived.Lib.SmallJoins
import Derived.Test.YtadcndmhdbhfkaaBFnBallotsx1
import Derived.Test.YtadcndmhdbhfkaaBFnBallotsx0
/- Any argument of whole numbers, structs and slices of these reads as a list or a struct of the kinds' own: no condition but the types' shapes. -/
set_option linter.unusedVariables false
namespace Go.Proofs.Ytadcndmhdbhfkaa.Open
open Go.ChangeShapes Go.WideShapes Go.Deep Go.RowKit Go.Proofs.YtadcndmhdbhfkaaW.PrintWords

def Opn (P : Program) (t : TypeId) {α : Type} (d : Kd α) : Prop :=
  ∀ (H : Type) (enc : TypeId × Value → H) (w : World) (base : Nat) (spare : Nat → Bool) (held : Bool) (fuel : Nat) (cs : List Value) (y : DataW H × List MemPlace),
    DataW.trod enc P w base spare held fuel t cs = some y → ∃ x : α, d.K w x cs

def OpnL (P : Program) (fs : List Field) {α : Type} (d : Kd α) : Prop :=
  ∀ (H : Type) (enc : TypeId × Value → H) (w : World) (base : Nat) (spare : Nat → Bool) (held : Bool) (cs : List Value), cs.length = fs.length →
    (∀ (j : Nat) (f : Field) (c : Value), fs[j]? = some f → cs[j]? = some c → ∃ (n : Nat) (y : DataW H × List MemPlace), DataW.trod enc P w base spare held n f.type [c] = some y) → ∃ x : α, d.K w x cs

theorem opn_int {P : Program} {t : TypeId} {k : IntKind} (ht : P.underlying t = some (.int k)) : Opn P t (Kd.int k) := by
  intro H enc w base spare held fuel cs y h
  obtain ⟨n, rfl, _⟩ := DataW.trod_int ht h
  exact ⟨n, rfl⟩

theorem opnL_one {P : Program} {f : Field} {α : Type} {d : Kd α} (h : Opn P f.type d) : OpnL P [f] d := by
  intro H enc w base spare held cs hl hf
  match cs, hl with
  | [c], _ =>
    obtain ⟨n, y, hy⟩ := hf 0 f c rfl rfl
    exact h H enc w base spare held n [c] y hy

theorem opnL_cons {P : Program} {f : Field} {fs : List Field} {α β : Type} {a : Kd α} {b : Kd β} (h : Opn P f.type a) (hs : OpnL P fs b) : OpnL P (f :: fs) (Kd.pair a b) := by
  intro H enc w base spare held cs hl hf
  match cs, hl with
  | c :: cs, hl =>
    obtain ⟨n, y, hy⟩ := hf 0 f c rfl rfl
    obtain ⟨x, hx⟩ := h H enc w base spare held n [c] y hy
    obtain ⟨z, hz⟩ := hs H enc w base spare held cs (by simpa using hl) (fun j f' c' h1 h2 => hf (j + 1) f' c' (by simpa using h1) (by simpa using h2))
    exact ⟨(x, z), [c], cs, rfl, hx, hz⟩

theorem opn_struct {P : Program} {t : TypeId} {fs : Array Field} (ht : P.underlying t = some (.struct fs)) (hone : oneCellFields P fs = true) (hC : P.cellsOf t = fs.size)
    {α : Type} {d : Kd α} (hL : OpnL P fs.toList d) : Opn P t d := by
  intro H enc w base spare held fuel cs y h
  obtain ⟨xs, n, _, _, hlen, hxl, hf⟩ := DataW.trod_struct ht h
  refine hL H enc w base spare held cs (by rw [hlen, hC, Array.length_toList]) (fun j f c hj hc => ?_)
  have hj' : fs[j]? = some f := by simpa using hj
  obtain ⟨ho, hk⟩ := hone_of hone j f hj'
  have h1 := hf j f hj'
  rw [ho, hk] at h1
  have hjl : j < fs.size := (Array.getElem?_eq_some_iff.1 hj').1
  have hcl : j < cs.length := (List.getElem?_eq_some_iff.1 hc).1
  have e1 : (cs.drop j).take 1 = [c] := by
    rw [List.drop_eq_getElem_cons hcl]
    have : cs[j] = c := (List.getElem?_eq_some_iff.1 hc).2
    rw [this]; rfl
  rw [e1] at h1
  exact ⟨n, xs[j]'(by omega), h1.trans (List.getElem?_eq_getElem (by omega))⟩

theorem opn_iso {P : Program} {t : TypeId} {α β : Type} {d : Kd α} {f : β → α} (h : Opn P t d) (hs : ∀ a, ∃ b, f b = a) : Opn P t (Kd.iso d f) := by
  intro H enc w base spare held fuel cs y hy
  obtain ⟨x, hx⟩ := h H enc w base spare held fuel cs y hy
  obtain ⟨z, rfl⟩ := hs x
  exact ⟨z, hx⟩

theorem list_of {α : Type} {p : Nat → α → Prop} : ∀ n, (∀ i, i < n → ∃ x, p i x) → ∃ l : List α, l.length = n ∧ ∀ i x, l[i]? = some x → p i x
  | 0, _ => ⟨[], rfl, fun i x h => by simp at h⟩
  | n + 1, h => by
    obtain ⟨l, hl, hp⟩ := list_of n (fun i hi => h i (by omega))
    obtain ⟨x, hx⟩ := h n (by omega)
    refine ⟨l ++ [x], by simp [hl], fun i y hy => ?_⟩
    rcases Nat.lt_or_ge i l.length with hi | hi
    · rw [List.getElem?_append_left hi] at hy
      exact hp i y hy
    · have hi' : i = l.length := by
        have := (List.getElem?_eq_some_iff.1 hy).1
        rw [List.length_append, List.length_singleton] at this
        omega
      subst hi'
      have : x = y := by simpa using hy
      subst this
      rw [hl]
      exact hx

theorem opn_slice {P : Program} {t e : TypeId} {α : Type} {d : Kd α} (ht : P.underlying t = some (.slice e)) (hC : P.cellsOf e = d.sz) (he : Opn P e d) : Opn P t (Kd.slice e d) := by
  intro H enc w base spare held fuel cs y h
  rcases open_slice ht h with ⟨rfl, _⟩ | ⟨a, len, cap, m, n, D, Pl, rfl, hb, hl, hm, hmm, hx, hi⟩
  · exact ⟨[], none, 0, rfl, Nat.le_refl _, rfl, by simp, fun h => absurd h (by simp)⟩
  · have hlm : len ≤ m := by rw [hmm]; split <;> omega
    obtain ⟨xs, hxl, hp⟩ := list_of (p := fun i x => ∃ cs', w.cells? base (a.add (i * P.cellsOf e)) (P.cellsOf e) = some cs' ∧ d.K w x cs') len (fun i hil => by
      obtain ⟨cs', h1, h2⟩ := hi i (by omega)
      obtain ⟨x, hx⟩ := he H enc w base spare held n cs' _ h2
      exact ⟨x, cs', h1, hx⟩)
    refine ⟨xs, some a, cap, by rw [hxl], by omega, rfl, by unfold maxLen at hm; omega, fun _ => ⟨a, rfl, fun j p hj => ?_⟩⟩
    obtain ⟨cs', hc, hk⟩ := hp j p hj
    obtain ⟨_, hcl, hat⟩ := World.cells?_some hc
    refine ⟨cs', d.K_len hk, hk, fun i u hu => ?_⟩
    have hil : i < cs'.length := (List.getElem?_eq_some_iff.1 hu).1
    have := hat i (by omega)
    rw [Go.Deep.add_add, hC] at this
    rw [this]
    exact hu

/-- A slice that came in. -/
theorem opened {H : Type} {enc : TypeId × Value → H} {P : Program} {W : World} {base : Nat} {spare : Nat → Bool} {held : Bool} {t e : TypeId} {α : Type} {d : Kd α} (h : Opn P t (Kd.slice e d)) {a : Option Addr} {len cap : Nat} {dd : DataW H} {ps : List MemPlace}
    (ht : DataW.Trod enc P W base spare held t (.slice a len cap) dd ps) : ∃ l : List α, l.length = len ∧ l.length ≤ cap ∧ d.C W a l.length l := by
  obtain ⟨fuel, hf⟩ := ht
  obtain ⟨l, A, c, he, hl, hc⟩ := h H enc W base spare held fuel _ _ hf
  simp [Value.cells] at he
  obtain ⟨rfl, rfl, rfl⟩ := he
  exact ⟨l, rfl, hl, hc⟩
/-- A struct that came in. -/
theorem opened_struct {H : Type} {enc : TypeId × Value → H} {P : Program} {W : World} {base : Nat} {spare : Nat → Bool} {held : Bool} {t : TypeId} {α : Type} {d : Kd α} (h : Opn P t d) {cs : Array Value} {dd : DataW H} {ps : List MemPlace}
    (ht : DataW.Trod enc P W base spare held t (.agg cs) dd ps) : ∃ x : α, d.K W x cs.toList := by
  obtain ⟨fuel, hf⟩ := ht
  exact h H enc W base spare held fuel _ _ hf
theorem C_mem {α : Type} {d : Kd α} {w : World} {A : Option Addr} {n : Nat} {xs : List α} (h : d.C w A n xs) (x : α) (hx : x ∈ xs) : ∃ c, d.K w x c := by
  obtain ⟨j, hj, rfl⟩ := List.mem_iff_getElem.1 hx
  have h0 : 0 < n := by have := h.1; omega
  obtain ⟨ad, _, hc⟩ := h.2.2 h0
  obtain ⟨c, _, hk, _⟩ := hc j _ (List.getElem?_eq_getElem hj)
  exact ⟨c, hk⟩
end Go.Proofs.Ytadcndmhdbhfkaa.Open

/- Plain lemmas: what holds from some number of rounds on, whole numbers that do not wrap, lists: no condition but those that each states. -/
set_option linter.unusedVariables false
set_option linter.unusedSimpArgs false
namespace Go.Proofs.Ytadcndmhdbhfkaa.L
open Go Go.RowKit Go.Proofs.YtadcndmhdbhfkaaW.PrintWords

theorem Ev.pos {α : Type} {c : Prop} [Decidable c] {A B : Nat → Option α} {r : α} (h : c) (k : Ev A r) : Ev (fun k => if c then A k else B k) r := by
  obtain ⟨K, k⟩ := k
  exact ⟨K, fun n hn => by show (if c then A n else B n) = some r; rw [if_pos h]; exact k n hn⟩
theorem Ev.neg {α : Type} {c : Prop} [Decidable c] {A B : Nat → Option α} {r : α} (h : ¬ c) (k : Ev B r) : Ev (fun k => if c then A k else B k) r := by
  obtain ⟨K, k⟩ := k
  exact ⟨K, fun n hn => by show (if c then A n else B n) = some r; rw [if_neg h]; exact k n hn⟩
theorem Ev.ite {α : Type} {c : Prop} [Decidable c] {A B : Nat → Option α} {r : α} (h : c → Ev A r) (k : ¬ c → Ev B r) : Ev (fun k => if c then A k else B k) r := by
  by_cases e : c
  · exact Ev.pos e (h e)
  · exact Ev.neg e (k e)
theorem Ev.cast {α : Type} {g : Nat → Option α} {r r' : α} (h : Ev g r) (e : r = r') : Ev g r' := e ▸ h
theorem Ev.bnd {α β : Type} {o : Option α} {a : α} {f : Nat → α → Option β} {r : β} (h : o = some a) (k : Ev (fun n => f n a) r) : Ev (fun n => o.bind (f n)) r := by
  obtain ⟨K, k⟩ := k
  exact ⟨K, fun n hn => by show o.bind (f n) = some r; rw [h]; exact k n hn⟩
theorem Ev.uniq {α : Type} {g : Nat → Option α} {r r' : α} (h : Ev g r) (k : Ev g r') : r = r' := by
  obtain ⟨K, h⟩ := h
  obtain ⟨K', k⟩ := k
  have h1 := h (max K K') (by omega)
  have h2 := k (max K K') (by omega)
  rw [h1] at h2
  injection h2
theorem Ev.some_ {α : Type} {r r' : α} (h : r = r') : Ev (fun _ => some r) r' := h ▸ Ev.now r

theorem w64 {x : Int} (h0 : -9223372036854775808 ≤ x) (h1 : x ≤ 9223372036854775807) : wrap64 x = x := by
  unfold wrap64
  omega
theorem w64s {n : Nat} (h : n < 4611686018427387904) : wrap64 ((n : Int) + 1) = ((n + 1 : Nat) : Int) := by
  unfold wrap64
  omega
theorem w64p {n : Nat} (h : n < 4611686018427387904) : wrap64 (((n + 1 : Nat) : Int) - 1) = (n : Int) := by
  unfold wrap64
  omega
theorem wrap_range (x : Int) : -9223372036854775808 ≤ wrap64 x ∧ wrap64 x ≤ 9223372036854775807 := by
  unfold wrap64
  omega
theorem rd_at {l : List Int} {n : Nat} (h : n < l.length) : rd l (n : Int) = l[n] := by
  simp [rd, h]
/-- The range test. -/
def inR (a b c : Int) : Bool := decide (b ≤ a ∧ a ≤ c)
theorem inR_iff {a b c : Int} : inR a b c = true ↔ b ≤ a ∧ a ≤ c := by simp [inR]
theorem inR_neg {a b c : Int} : inR a b c = false ↔ ¬ (b ≤ a ∧ a ≤ c) := by simp only [inR, decide_eq_false_iff_not]
/-- Writing at the end of what is done. -/
theorem set_snoc {α : Type} (xs ys : List α) (y z : α) : (xs ++ y :: ys).set xs.length z = (xs ++ [z]) ++ ys := by
  simp
theorem take_snoc {α : Type} (l : List α) (n : Nat) (h : n < l.length) : l.take (n + 1) = l.take n ++ [l[n]] := by
  rw [List.take_succ_eq_append_getElem h]
end Go.Proofs.Ytadcndmhdbhfkaa.L

/- The range test of the reference: for every list of at most 2^40 numbers. -/
set_option linter.unusedVariables false
set_option linter.unusedSimpArgs false
namespace Go.Proofs.Ytadcndmhdbhfkaa.L
open Go Go.RowKit Go.Proofs.Ytadcndmhdbhfkaa.A Go.Proofs.YtadcndmhdbhfkaaW.PrintWords

theorem l1In_eq (a b c : Int) : spec_l1In.f a b c = some (inR a b c) := by
  unfold spec_l1In.f inR
  by_cases h : a ≥ b
  · rw [if_pos h]; congr 1; simp; omega
  · rw [if_neg h]; congr 1; simp; omega
end Go.Proofs.Ytadcndmhdbhfkaa.L

/- The range test of the program: for every list of at most 2^40 numbers. -/
set_option linter.unusedVariables false
set_option linter.unusedSimpArgs false
namespace Go.Proofs.Ytadcndmhdbhfkaa.L
open Go Go.RowKit Go.Proofs.Ytadcndmhdbhfkaa.A Go.Proofs.YtadcndmhdbhfkaaW.PrintWords

theorem InRange_eq (a b c : Int) : impl_InRange.f a b c = some (inR a b c) := by
  unfold impl_InRange.f inR
  by_cases h : b ≤ a
  · rw [if_pos h]; congr 1; simp; omega
  · rw [if_neg h]; congr 1; simp; omega
end Go.Proofs.Ytadcndmhdbhfkaa.L

/- Ballots: what the printed functions come to, for every list of at most 2^40. -/
set_option linter.unusedVariables false
set_option linter.unusedSimpArgs false
namespace Go.Proofs.Ytadcndmhdbhfkaa.L
open Go Go.RowKit Go.Proofs.Ytadcndmhdbhfkaa.A Go.Proofs.YtadcndmhdbhfkaaW.PrintWords
theorem rdBallot {l : List S63} {n : Nat} (h : n < l.length) : rd_T63 l (n : Int) = l[n] := by
  simp [rd_T63, h]

def okB (b : S63) : Bool := inR b.f0 1 99 && inR b.f1 0 100 && inR b.f2 0 100 && (b.f1 != b.f2)
theorem sIsBallot_eq (b : S63) : spec_IsBallot.f b.f0 b.f1 b.f2 = some (okB b) := by
  unfold spec_IsBallot.f okB
  simp only [l1In_eq, Option.bind_some]
  cases inR b.f0 1 99 <;> cases inR b.f1 0 100 <;> cases inR b.f2 0 100 <;> simp
theorem iIsBallot_eq (b : S63) : impl_IsBallot.f b.f0 b.f1 b.f2 = some (okB b) := by
  unfold impl_IsBallot.f okB
  simp only [InRange_eq, Option.bind_some]
  cases inR b.f0 1 99 <;> cases inR b.f1 0 100 <;> cases inR b.f2 0 100 <;> simp
theorem okB_iff {b : S63} : okB b = true ↔ (1 ≤ b.f0 ∧ b.f0 ≤ 99) ∧ (0 ≤ b.f1 ∧ b.f1 ≤ 100) ∧ (0 ≤ b.f2 ∧ b.f2 ≤ 100) ∧ b.f1 ≠ b.f2 := by
  simp only [okB, Bool.and_eq_true, inR_iff, bne_iff_ne]
  constructor
  · rintro ⟨⟨⟨a, b⟩, c⟩, d⟩
    exact ⟨a, b, c, d⟩
  · rintro ⟨a, b, c, d⟩
    exact ⟨⟨⟨a, b⟩, c⟩, d⟩
/-- Ballots from a place on: each is one, and its judge's Id behind the one ahead of it. -/
def ballotsF (p : Int) : List S63 → Bool
  | [] => true
  | b :: l => okB b && decide (p < b.f0) && ballotsF b.f0 l
def okBallots (l : List S63) : Bool := ballotsF 0 l && decide ((l.length : Int) ≤ 9)
theorem sAreBallots_l0 (l : List S63) (hl : l.length ≤ 1099511627776) : ∀ (d n : Nat) (p : Int), n + d = l.length → (n = 0 → p = 0) → (∀ h : 0 < n ∧ n ≤ l.length, p = (l[n - 1]'(by omega)).f0) → Ev (fun k => spec_AreBallots.l0 k l (n : Int)) (ballotsF p (l.drop n) && decide ((l.length : Int) ≤ 9)) := by
  intro d
  induction d with
  | zero =>
    intro n p hd hp0 hp
    refine Ev.step (fun k => spec_AreBallots.l0.eq_2 ..) ?_
    refine Ev.neg (by omega) (Ev.some_ ?_)
    rw [List.drop_eq_nil_of_le (by omega)]
    simp [ballotsF]
  | succ d ih =>
    intro n p hd hp0 hp
    refine Ev.step (fun k => spec_AreBallots.l0.eq_2 ..) ?_
    refine Ev.pos (by omega) (Ev.pos (by omega) ?_)
    simp only [w64s (show n < 4611686018427387904 by omega), rdBallot (show n < l.length by omega), sIsBallot_eq, Option.bind_some]
    have h1 := ih (n + 1) (l[n]).f0 (by omega) (by omega) (fun h => by simp)
    rw [List.drop_eq_getElem_cons (show n < l.length by omega)]
    generalize l.drop (n + 1) = u at h1 ⊢
    refine Ev.ite (fun h => Ev.ite (fun h2 => ?_) (fun h2 => Ev.cast h1 ?_)) (fun h => Ev.some_ ?_)
    · obtain ⟨m, rfl⟩ : ∃ m, n = m + 1 := ⟨n - 1, by omega⟩
      simp only [w64p (show m < 4611686018427387904 by omega), rdBallot (show m < l.length by omega)]
      have hp' : p = l[m].f0 := hp ⟨by omega, by omega⟩
      refine Ev.pos (by omega) (Ev.pos (by omega) (Ev.ite (fun h3 => Ev.some_ ?_) (fun h3 => Ev.cast h1 ?_)))
      · have : ¬ p < l[m + 1].f0 := by omega
        simp [ballotsF, this]
      · have : p < l[m + 1].f0 := by omega
        simp [ballotsF, this, h]
    · have h0 : n = 0 := by omega
      have := (okB_iff.1 h).1
      have : p < l[n].f0 := by rw [hp0 h0]; omega
      simp [ballotsF, h, this]
    · simp [ballotsF, h]
theorem sAreBallots_ev (l : List S63) (hl : l.length ≤ 1099511627776) : Ev (fun k => spec_AreBallots.f k l) (okBallots l) := by
  unfold spec_AreBallots.f
  exact Ev.cast (sAreBallots_l0 l hl l.length 0 0 (by omega) (fun _ => rfl) (fun h => by omega)) (by simp [okBallots])
theorem iAreBallots_l0 (l : List S63) (hl : l.length ≤ 1099511627776) : ∀ (d n : Nat) (p : Int), n + d = l.length → (n = 0 → p = 0) → (∀ h : 0 < n ∧ n ≤ l.length, p = (l[n - 1]'(by omega)).f0) → Ev (fun k => impl_AreBallots.l0 k l l (l.length : Int) (n : Int)) (ballotsF p (l.drop n)) := by
  intro d
  induction d with
  | zero =>
    intro n p hd hp0 hp
    refine Ev.step (fun k => impl_AreBallots.l0.eq_2 ..) ?_
    refine Ev.neg (by omega) (Ev.some_ ?_)
    rw [List.drop_eq_nil_of_le (by omega)]
    simp [ballotsF]
  | succ d ih =>
    intro n p hd hp0 hp
    refine Ev.step (fun k => impl_AreBallots.l0.eq_2 ..) ?_
    refine Ev.pos (by omega) (Ev.pos (by omega) (Ev.pos (by omega) ?_))
    simp only [w64s (show n < 4611686018427387904 by omega), rdBallot (show n < l.length by omega), iIsBallot_eq, Option.bind_some]
    have h1 := ih (n + 1) (l[n]).f0 (by omega) (by omega) (fun h => by simp)
    rw [List.drop_eq_getElem_cons (show n < l.length by omega)]
    generalize l.drop (n + 1) = u at h1 ⊢
    refine Ev.ite (fun h => Ev.ite (fun h2 => ?_) (fun h2 => Ev.cast h1 ?_)) (fun h => Ev.some_ ?_)
    · obtain ⟨m, rfl⟩ : ∃ m, n = m + 1 := ⟨n - 1, by omega⟩
      simp only [w64p (show m < 4611686018427387904 by omega), rdBallot (show m < l.length by omega)]
      have hp' : p = l[m].f0 := hp ⟨by omega, by omega⟩
      refine Ev.pos (by omega) (Ev.pos (by omega) (Ev.ite (fun h3 => Ev.some_ ?_) (fun h3 => Ev.cast h1 ?_)))
      · have : ¬ p < l[m + 1].f0 := by omega
        simp [ballotsF, this]
      · have : p < l[m + 1].f0 := by omega
        simp [ballotsF, this, h]
    · have h0 : n = 0 := by omega
      have := (okB_iff.1 h).1
      have : p < l[n].f0 := by rw [hp0 h0]; omega
      simp [ballotsF, h, this]
    · simp [ballotsF, h]
theorem iAreBallots_ev (l : List S63) (hl : l.length ≤ 1099511627776) : Ev (fun k => impl_AreBallots.f k l) (okBallots l) := by
  unfold impl_AreBallots.f
  refine Ev.ite (fun h => Ev.some_ ?_) (fun h => Ev.cast (iAreBallots_l0 l hl l.length 0 0 (by omega) (fun _ => rfl) (fun h => by omega)) ?_)
  · have : ¬ (l.length : Int) ≤ 9 := by omega
    simp [okBallots, this]
  · have : (l.length : Int) ≤ 9 := by omega
    simp [okBallots, this]
end Go.Proofs.Ytadcndmhdbhfkaa.L

/- Ballots: votes, sums, decisions: what the printed functions come to, for every list of at most 2^40 ballots. -/
set_option linter.unusedVariables false
set_option linter.unusedSimpArgs false
namespace Go.Proofs.Ytadcndmhdbhfkaa.L
open Go Go.RowKit Go.Proofs.Ytadcndmhdbhfkaa.A Go.Proofs.YtadcndmhdbhfkaaW.PrintWords

theorem ballotsF_mem : ∀ (l : List S63) (p : Int), ballotsF p l = true → ∀ b ∈ l, okB b = true
  | [], _, _, b, hb => by cases hb
  | x :: l, p, h, b, hb => by
    simp only [ballotsF, Bool.and_eq_true] at h
    rcases List.mem_cons.1 hb with rfl | hb
    · exact h.1.1
    · exact ballotsF_mem l x.f0 h.2 b hb
theorem okBallots_mem {l : List S63} (h : okBallots l = true) : ∀ b ∈ l, okB b = true := by
  simp only [okBallots, Bool.and_eq_true] at h
  exact ballotsF_mem l 0 h.1
theorem okBallots_len {l : List S63} (h : okBallots l = true) : l.length ≤ 9 := by
  simp only [okBallots, Bool.and_eq_true, decide_eq_true_eq] at h
  omega
/-- Whom a ballot gives more. -/
def teamB (b : S63) : Int := if b.f1 > b.f2 then 1 else 2
theorem l16Of_eq (b : S63) : spec_l16Of.f b.f0 b.f1 b.f2 = some (teamB b) := by
  unfold spec_l16Of.f teamB
  split <;> rfl
theorem teamOf_eq (b : S63) : impl_teamOf.f b.f0 b.f1 b.f2 = some (teamB b) := by
  unfold impl_teamOf.f teamB
  split <;> rfl
def votesB (t : Int) : List S63 → Int
  | [] => 0
  | b :: l => (if teamB b = t then 1 else 0) + votesB t l
def sumB (t : Int) : List S63 → Int
  | [] => 0
  | b :: l => (if t = 1 then b.f1 else if t = 2 then b.f2 else 0) + sumB t l
theorem votesB_le (t : Int) : ∀ l : List S63, 0 ≤ votesB t l ∧ votesB t l ≤ l.length
  | [] => by simp [votesB]
  | b :: l => by
    have := votesB_le t l
    simp only [votesB, List.length_cons]
    split <;> omega
theorem sumB_le (t : Int) : ∀ l : List S63, (∀ b ∈ l, okB b = true) → 0 ≤ sumB t l ∧ sumB t l ≤ 100 * l.length
  | [], _ => by simp [sumB]
  | b :: l, h => by
    have h1 := sumB_le t l (fun x hx => h x (by simp [hx]))
    have h2 := okB_iff.1 (h b (by simp))
    simp only [sumB, List.length_cons]
    split
    · omega
    · split <;> omega
theorem sVotes_l0 (l : List S63) (t : Int) (hl : l.length ≤ 1099511627776) (ho : okBallots l = true) : ∀ (d n : Nat) (acc : Int), n + d = l.length → 0 ≤ acc → acc + d ≤ 4611686018427387904 → Ev (fun k => spec_VotesFor.l0 k l t acc (n : Int)) (acc + votesB t (l.drop n)) := by
  intro d
  induction d with
  | zero =>
    intro n acc hd h0 h1
    refine Ev.step (fun k => spec_VotesFor.l0.eq_2 ..) ?_
    refine Ev.neg (by omega) (Ev.step (fun k => spec_VotesFor.j1.eq_2 ..) (Ev.neg (by simp) (Ev.some_ ?_)))
    rw [List.drop_eq_nil_of_le (by omega)]
    simp [votesB]
  | succ d ih =>
    intro n acc hd h0 h1
    refine Ev.step (fun k => spec_VotesFor.l0.eq_2 ..) ?_
    refine Ev.pos (by omega) (Ev.bind (sAreBallots_ev l hl) ?_)
    refine Ev.step (fun k => spec_VotesFor.j1.eq_2 ..) (Ev.pos ho (Ev.pos (by omega) (Ev.pos (by omega) ?_)))
    simp only [w64s (show n < 4611686018427387904 by omega), rdBallot (show n < l.length by omega), l16Of_eq, Option.bind_some, w64 (show -9223372036854775808 ≤ acc + 1 by omega) (show acc + 1 ≤ 9223372036854775807 by omega)]
    have h1 := fun acc h0 h1 => ih (n + 1) acc (by omega) h0 h1
    rw [List.drop_eq_getElem_cons (show n < l.length by omega)]
    generalize l.drop (n + 1) = u at h1 ⊢
    refine Ev.ite (fun h => Ev.cast (h1 (acc + 1) (by omega) (by omega)) ?_) (fun h => Ev.cast (h1 acc (by omega) (by omega)) ?_)
    · simp [votesB, h]; omega
    · simp [votesB, h]
theorem iVotes_l0 (l : List S63) (t : Int) (hl : l.length ≤ 1099511627776) : ∀ (d n : Nat) (acc : Int), n + d = l.length → 0 ≤ acc → acc + d ≤ 4611686018427387904 → Ev (fun k => impl_VotesFor.l0 k t acc l (l.length : Int) (n : Int)) (acc + votesB t (l.drop n)) := by
  intro d
  induction d with
  | zero =>
    intro n acc hd h0 h1
    refine Ev.step (fun k => impl_VotesFor.l0.eq_2 ..) ?_
    refine Ev.neg (by omega) (Ev.some_ ?_)
    rw [List.drop_eq_nil_of_le (by omega)]
    simp [votesB]
  | succ d ih =>
    intro n acc hd h0 h1
    refine Ev.step (fun k => impl_VotesFor.l0.eq_2 ..) ?_
    refine Ev.pos (by omega) (Ev.pos (by omega) (Ev.pos (by omega) ?_))
    simp only [w64s (show n < 4611686018427387904 by omega), rdBallot (show n < l.length by omega), teamOf_eq, Option.bind_some, w64 (show -9223372036854775808 ≤ acc + 1 by omega) (show acc + 1 ≤ 9223372036854775807 by omega)]
    have h1 := fun acc h0 h1 => ih (n + 1) acc (by omega) h0 h1
    rw [List.drop_eq_getElem_cons (show n < l.length by omega)]
    generalize l.drop (n + 1) = u at h1 ⊢
    refine Ev.ite (fun h => Ev.cast (h1 (acc + 1) (by omega) (by omega)) ?_) (fun h => Ev.cast (h1 acc (by omega) (by omega)) ?_)
    · simp [votesB, h]; omega
    · simp [votesB, h]
def votes (l : List S63) (t : Int) : Int := if okBallots l = true then votesB t l else 0
theorem sVotesFor_ev (l : List S63) (t : Int) (hl : l.length ≤ 1099511627776) : Ev (fun k => spec_VotesFor.f k l t) (votes l t) := by
  unfold spec_VotesFor.f votes
  by_cases ho : okBallots l = true
  · rw [if_pos ho]
    exact Ev.cast (sVotes_l0 l t hl ho l.length 0 0 (by omega) (by omega) (by omega)) (by simp)
  · rw [if_neg ho]
    refine Ev.step (fun k => spec_VotesFor.l0.eq_2 ..) ?_
    refine Ev.ite (fun _ => Ev.bind (sAreBallots_ev l hl) ?_) (fun _ => ?_)
    · exact Ev.step (fun k => spec_VotesFor.j1.eq_2 ..) (Ev.neg ho (Ev.now _))
    · exact Ev.step (fun k => spec_VotesFor.j1.eq_2 ..) (Ev.neg (by simp) (Ev.now _))
theorem iVotesFor_ev (l : List S63) (t : Int) (hl : l.length ≤ 1099511627776) : Ev (fun k => impl_VotesFor.f k l t) (votes l t) := by
  unfold impl_VotesFor.f votes
  refine Ev.bind (iAreBallots_ev l hl) (Ev.ite (fun ho => ?_) (fun ho => Ev.some_ ?_))
  · rw [if_pos ho]
    exact Ev.cast (iVotes_l0 l t hl l.length 0 0 (by omega) (by omega) (by omega)) (by simp)
  · rw [if_neg ho]
theorem sSum_l0 (l : List S63) (t : Int) (hl : l.length ≤ 1099511627776) (ho : okBallots l = true) : ∀ (d n : Nat) (acc : Int), n + d = l.length → 0 ≤ acc → acc + 100 * d ≤ 4611686018427387904 → Ev (fun k => spec_SumFor.l0 k l t acc (n : Int)) (acc + sumB t (l.drop n)) := by
  intro d
  induction d with
  | zero =>
    intro n acc hd h0 h1
    refine Ev.step (fun k => spec_SumFor.l0.eq_2 ..) ?_
    refine Ev.neg (by omega) (Ev.step (fun k => spec_SumFor.j1.eq_2 ..) (Ev.neg (by simp) (Ev.some_ ?_)))
    rw [List.drop_eq_nil_of_le (by omega)]
    simp [sumB]
  | succ d ih =>
    intro n acc hd h0 h1
    have hb := okB_iff.1 (okBallots_mem ho l[n] (List.getElem_mem _))
    refine Ev.step (fun k => spec_SumFor.l0.eq_2 ..) ?_
    refine Ev.pos (by omega) (Ev.bind (sAreBallots_ev l hl) ?_)
    refine Ev.step (fun k => spec_SumFor.j1.eq_2 ..) (Ev.pos ho ?_)
    simp only [w64s (show n < 4611686018427387904 by omega), rdBallot (show n < l.length by omega), w64 (show -9223372036854775808 ≤ acc + l[n].f1 by omega) (show acc + l[n].f1 ≤ 9223372036854775807 by omega), w64 (show -9223372036854775808 ≤ acc + l[n].f2 by omega) (show acc + l[n].f2 ≤ 9223372036854775807 by omega)]
    have h1 := fun acc h0 h1 => ih (n + 1) acc (by omega) h0 h1
    rw [List.drop_eq_getElem_cons (show n < l.length by omega)]
    generalize l.drop (n + 1) = u at h1 ⊢
    refine Ev.ite (fun h => Ev.pos (by omega) (Ev.pos (by omega) (Ev.cast (h1 (acc + l[n].f1) (by omega) (by omega)) ?_))) (fun h => Ev.ite (fun h2 => Ev.pos (by omega) (Ev.pos (by omega) (Ev.cast (h1 (acc + l[n].f2) (by omega) (by omega)) ?_))) (fun h2 => Ev.cast (h1 acc (by omega) (by omega)) ?_))
    · simp [sumB, h]; omega
    · simp [sumB, h2]; omega
    · simp [sumB, h, h2]
theorem iSum_l0 (l : List S63) (t : Int) (hl : l.length ≤ 1099511627776) (ho : okBallots l = true) : ∀ (d n : Nat) (acc : Int), n + d = l.length → 0 ≤ acc → acc + 100 * d ≤ 4611686018427387904 → Ev (fun k => impl_SumFor.l0 k t acc l (l.length : Int) (n : Int)) (acc + sumB t (l.drop n)) := by
  intro d
  induction d with
  | zero =>
    intro n acc hd h0 h1
    refine Ev.step (fun k => impl_SumFor.l0.eq_2 ..) ?_
    refine Ev.neg (by omega) (Ev.some_ ?_)
    rw [List.drop_eq_nil_of_le (by omega)]
    simp [sumB]
  | succ d ih =>
    intro n acc hd h0 h1
    have hb := okB_iff.1 (okBallots_mem ho l[n] (List.getElem_mem _))
    refine Ev.step (fun k => impl_SumFor.l0.eq_2 ..) ?_
    refine Ev.pos (by omega) (Ev.pos (by omega) (Ev.pos (by omega) ?_))
    simp only [w64s (show n < 4611686018427387904 by omega), rdBallot (show n < l.length by omega), w64 (show -9223372036854775808 ≤ acc + l[n].f1 by omega) (show acc + l[n].f1 ≤ 9223372036854775807 by omega), w64 (show -9223372036854775808 ≤ acc + l[n].f2 by omega) (show acc + l[n].f2 ≤ 9223372036854775807 by omega)]
    have h1 := fun acc h0 h1 => ih (n + 1) acc (by omega) h0 h1
    rw [List.drop_eq_getElem_cons (show n < l.length by omega)]
    generalize l.drop (n + 1) = u at h1 ⊢
    refine Ev.ite (fun h => Ev.cast (h1 (acc + l[n].f1) (by omega) (by omega)) ?_) (fun h => Ev.ite (fun h2 => Ev.cast (h1 (acc + l[n].f2) (by omega) (by omega)) ?_) (fun h2 => Ev.cast (h1 acc (by omega) (by omega)) ?_))
    · simp [sumB, h]; omega
    · simp [sumB, h2]; omega
    · simp [sumB, h, h2]
def sumFor (l : List S63) (t : Int) : Int := if okBallots l = true then sumB t l else 0
theorem sSumFor_ev (l : List S63) (t : Int) (hl : l.length ≤ 1099511627776) : Ev (fun k => spec_SumFor.f k l t) (sumFor l t) := by
  unfold spec_SumFor.f sumFor
  by_cases ho : okBallots l = true
  · rw [if_pos ho]
    exact Ev.cast (sSum_l0 l t hl ho l.length 0 0 (by omega) (by omega) (by omega)) (by simp)
  · rw [if_neg ho]
    refine Ev.step (fun k => spec_SumFor.l0.eq_2 ..) ?_
    refine Ev.ite (fun _ => Ev.bind (sAreBallots_ev l hl) ?_) (fun _ => ?_)
    · exact Ev.step (fun k => spec_SumFor.j1.eq_2 ..) (Ev.neg ho (Ev.now _))
    · exact Ev.step (fun k => spec_SumFor.j1.eq_2 ..) (Ev.neg (by simp) (Ev.now _))
theorem iSumFor_ev (l : List S63) (t : Int) (hl : l.length ≤ 1099511627776) : Ev (fun k => impl_SumFor.f k l t) (sumFor l t) := by
  unfold impl_SumFor.f sumFor
  refine Ev.bind (iAreBallots_ev l hl) (Ev.ite (fun ho => ?_) (fun ho => Ev.some_ ?_))
  · rw [if_pos ho]
    exact Ev.cast (iSum_l0 l t hl ho l.length 0 0 (by omega) (by omega) (by omega)) (by simp)
  · rw [if_neg ho]
theorem votes_le (l : List S63) (t : Int) : 0 ≤ votes l t ∧ votes l t ≤ 9 := by
  unfold votes
  split
  · rename_i h
    have h1 := okBallots_len h
    have h2 := votesB_le t l
    omega
  · omega
theorem sumFor_le (l : List S63) (t : Int) : 0 ≤ sumFor l t ∧ sumFor l t ≤ 900 := by
  unfold sumFor
  split
  · rename_i h
    have h1 := okBallots_len h
    have h2 := sumB_le t l (okBallots_mem h)
    omega
  · omega
end Go.Proofs.Ytadcndmhdbhfkaa.L

/- Ballots: decisions and splits: what the printed functions come to, for every list of at most 2^40 ballots. -/
set_option linter.unusedVariables false
set_option linter.unusedSimpArgs false
namespace Go.Proofs.Ytadcndmhdbhfkaa.L
open Go Go.RowKit Go.Proofs.Ytadcndmhdbhfkaa.A Go.Proofs.YtadcndmhdbhfkaaW.PrintWords

def splitB (l : List S63) : Bool := decide (votes l 1 > 0 ∧ votes l 2 > 0)
/-- The decision: by votes, by sums, by the first ballot. -/
def decB (l : List S63) : Int :=
  match l with
  | [] => 0
  | b :: _ => if okBallots l = true then
      (if votes l 1 - votes l 2 > 0 then 1 else if votes l 1 - votes l 2 < 0 then 2 else
        if sumFor l 1 - sumFor l 2 > 0 then 1 else if sumFor l 1 - sumFor l 2 < 0 then 2 else teamB b) else 0
theorem sDecision_ev (l : List S63) (hl : l.length ≤ 1099511627776) : Ev (fun k => spec_Decision.f k l) (decB l) := by
  unfold spec_Decision.f
  cases l with
  | nil =>
    refine Ev.pos rfl (Ev.step (fun k => spec_Decision.j0.eq_2 ..) (Ev.pos rfl (Ev.some_ rfl)))
  | cons b u =>
    refine Ev.neg (by simp only [List.length_cons]; omega) (Ev.bind (sAreBallots_ev _ hl) (Ev.step (fun k => spec_Decision.j0.eq_2 ..) ?_))
    refine Ev.ite (fun h => Ev.some_ ?_) (fun h => ?_)
    · have : okBallots (b :: u) = false := by simpa using h
      simp [decB, this]
    · have ho : okBallots (b :: u) = true := by simpa using h
      have v1 := votes_le (b :: u) 1
      have v2 := votes_le (b :: u) 2
      have s1 := sumFor_le (b :: u) 1
      have s2 := sumFor_le (b :: u) 2
      refine Ev.bind (sVotesFor_ev _ 1 hl) (Ev.bind (sVotesFor_ev _ 2 hl) ?_)
      have j1 : ∀ z : Int, Ev (fun k => spec_Decision.j1 k (b :: u) z) (if z > 0 then 1 else if z < 0 then 2 else teamB b) := by
        intro z
        refine Ev.step (fun k => spec_Decision.j1.eq_2 ..) (Ev.ite (fun h => Ev.some_ ?_) (fun h => Ev.ite (fun h2 => Ev.some_ ?_) (fun h2 => Ev.pos (by simp only [List.length_cons]; omega) ?_)))
        · rw [if_pos h]
        · rw [if_neg h, if_pos h2]
        · have e : rd_T63 (b :: u) 0 = b := rfl
          rw [if_neg h, if_neg h2]
          simp only [e, l16Of_eq, Option.bind_some]
          exact Ev.now _
      rw [w64 (by omega) (by omega)]
      refine Ev.ite (fun h => Ev.bind (sSumFor_ev _ 1 hl) (Ev.bind (sSumFor_ev _ 2 hl) ?_)) (fun h => ?_)
      · rw [w64 (by omega) (by omega)]
        refine Ev.cast (j1 _) ?_
        simp only [decB, ho, if_true]
        rw [if_neg (show ¬ votes (b :: u) 1 - votes (b :: u) 2 > 0 by omega), if_neg (show ¬ votes (b :: u) 1 - votes (b :: u) 2 < 0 by omega)]
      · refine Ev.cast (j1 _) ?_
        simp only [decB, ho, if_true]
        by_cases h1 : votes (b :: u) 1 - votes (b :: u) 2 > 0
        · rw [if_pos h1, if_pos h1]
        · rw [if_neg h1, if_neg h1, if_pos (by omega), if_pos (by omega)]
theorem iDecision_ev (l : List S63) (hl : l.length ≤ 1099511627776) : Ev (fun k => impl_Decision.f k l) (decB l) := by
  unfold impl_Decision.f
  cases l with
  | nil =>
    refine Ev.pos rfl (Ev.step (fun k => impl_Decision.j0.eq_2 ..) (Ev.pos rfl (Ev.some_ rfl)))
  | cons b u =>
    refine Ev.neg (by simp only [List.length_cons]; omega) (Ev.bind (iAreBallots_ev _ hl) (Ev.step (fun k => impl_Decision.j0.eq_2 ..) ?_))
    refine Ev.ite (fun h => Ev.some_ ?_) (fun h => ?_)
    · have : okBallots (b :: u) = false := by simpa using h
      simp [decB, this]
    · have ho : okBallots (b :: u) = true := by simpa using h
      have v1 := votes_le (b :: u) 1
      have v2 := votes_le (b :: u) 2
      have s1 := sumFor_le (b :: u) 1
      have s2 := sumFor_le (b :: u) 2
      refine Ev.bind (iVotesFor_ev _ 1 hl) (Ev.bind (iVotesFor_ev _ 2 hl) (Ev.bind (iSumFor_ev _ 1 hl) (Ev.bind (iSumFor_ev _ 2 hl) ?_)))
      have j1 : ∀ (x y : Int) (t : Bool), Ev (fun k => impl_Decision.j1 k (b :: u) x y t) (if t = true then 1 else if x < 0 then 2 else if y < 0 then 2 else teamB b) := by
        intro x y t
        refine Ev.step (fun k => impl_Decision.j1.eq_2 ..) (Ev.ite (fun h => Ev.some_ ?_) (fun h => Ev.ite (fun h2 => Ev.some_ ?_) (fun h2 => Ev.ite (fun h3 => Ev.some_ ?_) (fun h3 => Ev.pos (by simp only [List.length_cons]; omega) ?_))))
        · rw [if_pos h]
        · rw [if_neg h, if_pos h2]
        · rw [if_neg h, if_neg h2, if_pos h3]
        · have e : rd_T63 (b :: u) 0 = b := rfl
          rw [if_neg h, if_neg h2, if_neg h3]
          simp only [e, teamOf_eq, Option.bind_some]
          exact Ev.now _
      simp only [w64 (show -9223372036854775808 ≤ votes (b :: u) 1 - votes (b :: u) 2 by omega) (by omega), w64 (show -9223372036854775808 ≤ sumFor (b :: u) 1 - sumFor (b :: u) 2 by omega) (by omega)]
      simp only [decB, ho, if_true]
      refine Ev.ite (fun h => Ev.cast (j1 _ _ _) ?_) (fun h => Ev.ite (fun h2 => Ev.cast (j1 _ _ _) ?_) (fun h2 => Ev.cast (j1 _ _ _) ?_))
      · rw [if_pos rfl, if_pos h]
      · rw [if_neg h]
        simp only [h2, decide_eq_true_eq, gt_iff_lt, Int.lt_irrefl, if_false]
      · rw [if_neg (by simp), if_pos (show votes (b :: u) 1 - votes (b :: u) 2 < 0 by omega), if_neg h, if_pos (show votes (b :: u) 1 - votes (b :: u) 2 < 0 by omega)]
end Go.Proofs.Ytadcndmhdbhfkaa.L

/- Ballots: splits, by the program. -/
set_option linter.unusedVariables false
set_option linter.unusedSimpArgs false
namespace Go.Proofs.Ytadcndmhdbhfkaa.L
open Go Go.RowKit Go.Proofs.Ytadcndmhdbhfkaa.A Go.Proofs.YtadcndmhdbhfkaaW.PrintWords

theorem iIsSplit_ev (l : List S63) (hl : l.length ≤ 1099511627776) : Ev (fun k => impl_IsSplit.f k l) (splitB l) := by
  unfold impl_IsSplit.f splitB
  refine Ev.bind (iVotesFor_ev l 1 hl) (Ev.ite (fun h => Ev.bind (iVotesFor_ev l 2 hl) (Ev.some_ ?_)) (fun h => Ev.some_ ?_))
  · simp [h]
  · simp [h]
end Go.Proofs.Ytadcndmhdbhfkaa.L

-- Printed for this claim by a program of the session's (the kit's print, with contracts of our own taken in). Lean checks it.
-- squeezed
namespace Go.Proofs.Ytadcndmhdbhfkaa.A
open Go.RowKit Go.Proofs.YtadcndmhdbhfkaaW.PrintWords Go.Proofs.YtadcndmhdbhfkaaW.PrintLast Go.Proofs.YtadcndmhdbhfkaaW.PrintMore
attribute [local go_sem] max2_int min2_int max_two min_two max_three min_three max_four min_four   -- for this text's walks alone
set_option linter.unusedVariables false
set_option linter.unusedSimpArgs false

/-! ### spec_l1Once: function 78 -/
def spec_l1Once.f (s0_0 : List Int) (s0_1 : Int) (s0_2 : Int) (a1 : Int) : Option (Bool × Int × Int) := (spec_l1Below.f s0_0 s0_1 s0_2 a1).bind fun bt279 => (some ((bt279.1 == 0), bt279.2.1, bt279.2.2))
set_option maxHeartbeats 8000000 in
set_option maxRecDepth 100000 in
theorem spec_l1Once.calls (g : Nat) (s0_0 : List Int) (s0_1 : Int) (s0_2 : Int) (a1 : Int) (r1 : Bool) (r2 : Int) (r3 : Int) (w0 w : World) (hI : IsS105 w0 w g s0_0 s0_1 s0_2) (hB : Below w0.heap.size w0 w) (h : spec_l1Once.f s0_0 s0_1 s0_2 a1 = some (r1, r2, r3)) :
  Calls Try.prog 78 #[.pointer (some ⟨g, 0, none⟩), .int .i64 a1] w fun e w' => e = .returned (.bool r1) ∧ IsS105 w0 w' g s0_0 r2 r3 ∧ Below w0.heap.size w0 w' ∧ KeepBut w w' g none := by
 have HI0 := Aside0.mk hI
 have HK := Aside0.mk (KeepBut.refl w g none)
 have HL := Aside0.mk hB.size
 clear hI
 have HW0 := Aside0.mk hB.size
 have HB := Aside0.mk hB
 clear hB
 have H : ((spec_l1Below.f s0_0 s0_1 s0_2 a1).bind fun bt279 => (some ((bt279.1 == 0), bt279.2.1, bt279.2.2))) = some (r1, r2, r3) := h
 clear h
 replace H := Option.bind_eq_some_iff.mp H
 obtain ⟨⟨t279, t280, t281⟩, A30, H⟩ := H
 replace H : (some ((t279 == 0), t280, t281)) = some (r1, r2, r3) := H
 have A3 := Aside0.mk A30
 clear A30
 simp only [Option.some.injEq, Prod.mk.injEq] at H
 obtain ⟨rfl, rfl, rfl⟩ := H
 go_enter Try.func78, Try.ntmps78
 go_wp2_with (first | ((with_reducible refine gate_callee (f := 79) rfl ?_); refine goesL_ (some 7) rfl rfl Try.func79 (by kernel_rfl) rfl #[.pointer (some ⟨g, 0, none⟩), .int .i64 a1] rfl (by (try simp only [List.map_toArray, List.map_cons, List.map_nil]); first | done | rfl | (simp only [List.length_drop, List.length_take]; rfl)) ?_; (with_reducible refine (spec_l1Below.calls g s0_0 s0_1 s0_2 a1 t279 t280 t281 w0 _ ?side1 ?side2 A3.out).mono ?_); (case side1 => repeat (first | (with_reducible first | exact HI0.out | apply IsS105.alloc | apply IsS105.drewN | apply IsS105.drew | apply IsS105.set_1 | apply IsS105.set_2) | exact HI0.out)); (case side2 => repeat (first | (with_reducible first | exact HB.out | apply below_alloc | apply pw_below_drewN | apply below_drew1 | refine below_set ?_ (IsS105.ge HI0.out)) | exact HB.out)); rintro e w4 ⟨rfl, hi, hb, hk⟩; refine ⟨_, rfl, ?_⟩; have n0_ := Aside0.mk (KeepBut.trans (by repeat (first | (with_reducible first | exact HK.out | apply KeepBut.set_ | apply keep_drewN | apply keep_drew | apply keep_alloc) | exact HK.out)) hk (.inl rfl)); have n1_ := Aside0.mk (hb); have n2_ := Aside0.mk (hi); clear HK; clear HB; clear HI0; have HK := n0_; have HB := n1_; have HI0 := n2_; clear n0_ n1_ n2_; (try clear hb); (try clear hb2); (try clear hk); (try clear hi)))
 go_ret
 exact ⟨by first | rfl | (simp [errW_none, errW_some] <;> rfl) | (simp [*, errW_none, errW_some] <;> rfl), by repeat (first | (with_reducible first | exact HI0.out | apply IsS105.alloc | apply IsS105.drewN | apply IsS105.drew | apply IsS105.set_1 | apply IsS105.set_2) | exact HI0.out), by repeat (first | (with_reducible first | exact HB.out | apply below_alloc | apply pw_below_drewN | apply below_drew1 | refine below_set ?_ (IsS105.ge HI0.out)) | exact HB.out), by repeat (first | (with_reducible first | exact HK.out | apply KeepBut.set_ | apply keep_drewN | apply keep_drew | apply keep_alloc) | exact HK.out)⟩

end Go.Proofs.Ytadcndmhdbhfkaa.A

/- Draws: what the printed readers of draws come to: a number below the bound, the place still inside the code. Every code of at most 2^40 bytes. -/
set_option linter.unusedVariables false
set_option linter.unusedSimpArgs false
namespace Go.Proofs.Ytadcndmhdbhfkaa.L
open Go Go.RowKit Go.Proofs.Ytadcndmhdbhfkaa.A Go.Proofs.YtadcndmhdbhfkaaW.PrintWords

theorem bits255 (x : Int) : 0 ≤ Go.bits .and .i64 x 255 ∧ Go.bits .and .i64 x 255 ≤ 255 := by
  have h : ((BitVec.ofInt 64 x) &&& (BitVec.ofInt 64 255)).toNat ≤ 255 := by
    rw [BitVec.toNat_and]
    exact Nat.le_trans Nat.and_le_right (by decide)
  show 0 ≤ IntKind.i64.wrap (((BitVec.ofInt 64 x) &&& (BitVec.ofInt 64 255)).toNat : Int) ∧ IntKind.i64.wrap (((BitVec.ofInt 64 x) &&& (BitVec.ofInt 64 255)).toNat : Int) ≤ 255
  generalize ((BitVec.ofInt 64 x) &&& (BitVec.ofInt 64 255)).toNat = t at h ⊢
  rw [IntKind.wrap_i64]
  omega
/-- The place of a reader is inside its code. -/
def At (b : List Int) (i : Int) : Prop := b.length ≤ 1099511627776 ∧ 0 ≤ i ∧ i ≤ b.length
theorem Byte_eq (b : List Int) (i h : Int) (ha : At b i) : ∃ r i' h', spec_l1Byte.f b i h = some (r, i', h') ∧ 0 ≤ r ∧ r ≤ 255 ∧ At b i' := by
  unfold spec_l1Byte.f
  obtain ⟨hl, h0, h1⟩ := ha
  by_cases hlt : i < (b.length : Int)
  · rw [if_pos hlt, if_pos h0, w64 (x := i + 1) (by omega) (by omega)]
    refine ⟨_, _, _, rfl, (bits255 _).1, (bits255 _).2, hl, by omega, by omega⟩
  · rw [if_neg hlt]
    exact ⟨_, _, _, rfl, (bits255 _).1, (bits255 _).2, hl, h0, h1⟩
theorem Below_eq (b : List Int) (i h n : Int) (ha : At b i) : ∃ r i' h', spec_l1Below.f b i h n = some (r, i', h') ∧ 0 ≤ r ∧ (0 < n → r < n) ∧ (n ≤ 0 → r = 0) ∧ At b i' := by
  unfold spec_l1Below.f
  by_cases h0 : n ≤ 0
  · rw [if_pos h0]
    exact ⟨_, _, _, rfl, by omega, by omega, fun _ => rfl, ha⟩
  · rw [if_neg h0]
    by_cases h1 : n ≤ 256
    · rw [if_pos h1]
      obtain ⟨r, i1, h2, e, hr0, hr1, ha1⟩ := Byte_eq b i h ha
      rw [e]
      simp only [Option.bind_some]
      rw [if_neg (by omega)]
      refine ⟨_, _, _, rfl, ?_, fun _ => ?_, fun hn => absurd hn h0, ha1⟩
      · exact Int.tmod_nonneg _ hr0
      · exact Int.tmod_lt_of_pos _ (by omega)
    · rw [if_neg h1]
      obtain ⟨r, i1, h2, e, hr0, hr1, ha1⟩ := Byte_eq b i h ha
      rw [e]
      simp only [Option.bind_some]
      obtain ⟨r3, i3, h3, e3, hr30, hr31, ha3⟩ := Byte_eq b i1 h2 ha1
      rw [e3]
      simp only [Option.bind_some]
      obtain ⟨r4, i4, h4, e4, hr40, hr41, ha4⟩ := Byte_eq b i3 h3 ha3
      rw [e4]
      simp only [Option.bind_some]
      rw [if_neg (by omega)]
      refine ⟨_, _, _, rfl, ?_, fun _ => ?_, fun hn => absurd hn h0, ha4⟩
      · refine Int.tmod_nonneg _ ?_
        rw [w64 (x := r * 65536) (by omega) (by omega), w64 (x := r3 * 256) (by omega) (by omega), w64 (x := r * 65536 + r3 * 256) (by omega) (by omega), w64 (by omega) (by omega)]
        omega
      · exact Int.tmod_lt_of_pos _ (by omega)
theorem Once_eq (b : List Int) (i h n : Int) (ha : At b i) : ∃ r i' h', spec_l1Once.f b i h n = some (r, i', h') ∧ At b i' := by
  unfold spec_l1Once.f
  obtain ⟨r, i1, h2, e, _, _, _, ha1⟩ := Below_eq b i h n ha
  rw [e]
  exact ⟨_, _, _, rfl, ha1⟩
theorem DInt_eq (b : List Int) (i h : Int) (l : List Int) (hl : 0 < l.length) (ha : At b i) : ∃ r i' h', spec_l1Int.f b i h l = some (r, i', h') ∧ r ∈ l ∧ At b i' := by
  unfold spec_l1Int.f
  obtain ⟨r, i1, h2, e, h0, h1, _, ha1⟩ := Below_eq b i h l.length ha
  rw [e]
  simp only [Option.bind_some]
  rw [if_pos h0, if_pos (h1 (by omega))]
  refine ⟨_, _, _, rfl, ?_, ha1⟩
  have hr := h1 (by omega)
  obtain ⟨m, rfl⟩ : ∃ m : Nat, r = m := ⟨r.toNat, by omega⟩
  rw [rd_at (show m < l.length by omega)]
  exact List.getElem_mem _
theorem New_l0 (b : List Int) (hl : b.length ≤ 1099511627776) : ∀ (d n : Nat) (h : Int), n + d = b.length → ∃ h', Ev (fun k => spec_l1New.l0 k b h (n : Int)) (b, 0, h') := by
  intro d
  induction d with
  | zero =>
    intro n h hd
    exact ⟨_, Ev.step (fun k => spec_l1New.l0.eq_2 ..) (Ev.neg (by omega) (Ev.now _))⟩
  | succ d ih =>
    intro n h hd
    by_cases h4 : (n : Int) < 4000
    · obtain ⟨h', e⟩ := ih (n + 1) (Go.bits .and .i64 (wrap64 ((wrap64 ((wrap64 (h * 137)) + (wrap64 (rd b n)))) + 11)) 1073741823) (by omega)
      refine ⟨h', Ev.step (fun k => spec_l1New.l0.eq_2 ..) (Ev.pos (by omega) (Ev.pos h4 (Ev.pos (by omega) ?_)))⟩
      simp only [w64s (show n < 4611686018427387904 by omega)]
      exact e
    · exact ⟨_, Ev.step (fun k => spec_l1New.l0.eq_2 ..) (Ev.pos (by omega) (Ev.neg h4 (Ev.now _)))⟩
theorem New_ev (b : List Int) (hl : b.length ≤ 1099511627776) : ∃ h, Ev (fun k => spec_l1New.f k b) (b, 0, h) := by
  unfold spec_l1New.f
  exact New_l0 b hl b.length 0 _ (by omega)
theorem big_eq (b : List Int) : laws_big.f b = some (decide ((b.length : Int) > 1048576)) := rfl
end Go.Proofs.Ytadcndmhdbhfkaa.L

/- FnBallots: the plain statement: whoever has more votes wins, and the other way round both decisions change, for every code. No condition. -/
set_option linter.unusedVariables false
set_option linter.unusedSimpArgs false
namespace Go.Proofs.Ytadcndmhdbhfkaa.L
open Go Go.RowKit Go.Proofs.Ytadcndmhdbhfkaa.A Go.Proofs.YtadcndmhdbhfkaaW.PrintWords

abbrev Bl := S63
theorem rdBl_int {l : List Bl} {i : Int} (h0 : 0 ≤ i) (h1 : i < l.length) : True := trivial
theorem l16Any_l0 (b : List Int) : ∀ (d n : Nat) (xs : List Bl) (i h : Int), At b i → n + d = 6 → 1 ≤ n → xs.length + 1 = n → ∃ l i' h', Ev (fun k => spec_l16Any.l0 k xs (n : Int) b i h) (l, i', h') ∧ l.length ≤ 10 ∧ At b i' := by
  intro d
  induction d with
  | zero =>
    intro n xs i h ha hn h1 hx
    obtain ⟨r, i1, h1, e1, r0, r1, _, a1⟩ := Below_eq b i h 6 ha
    have hr := r1 (by omega)
    have hp : (xs.length : Int) > 0 := by omega
    obtain ⟨r2, i2, h2, e2, r20, r21, _, a2⟩ := Below_eq b i1 h1 xs.length a1
    have hr2 := r21 (by omega)
    obtain ⟨r3, i3, h3, e3, _, _, _, a3⟩ := Below_eq b i2 h2 12 a2
    by_cases c0 : r3 = 0
    · obtain ⟨r4, i4, h4, e4, _, a4⟩ := DInt_eq b i3 h3 [0, 2, 99, 100] (by simp) a3
      exact ⟨_, _, _, Ev.step (fun k => spec_l16Any.l0.eq_2 ..) (Ev.bnd e1 (Ev.neg (by omega) (Ev.pos hp (Ev.bnd e2 (Ev.bnd e3 (Ev.pos c0 (Ev.bnd e4 (Ev.pos r20 (Ev.pos hr2 (Ev.now _)))))))))), by simp; omega, a4⟩
    by_cases c1 : r3 = 1
    · exact ⟨_, _, _, Ev.step (fun k => spec_l16Any.l0.eq_2 ..) (Ev.bnd e1 (Ev.neg (by omega) (Ev.pos hp (Ev.bnd e2 (Ev.bnd e3 (Ev.neg c0 (Ev.pos c1 (Ev.pos r20 (Ev.pos hr2 (Ev.now _)))))))))), by simp; omega, a3⟩
    by_cases c2 : r3 = 2
    · obtain ⟨r4, i4, h4, e4, _, a4⟩ := DInt_eq b i3 h3 [-1, 0, 100, 101] (by simp) a3
      exact ⟨_, _, _, Ev.step (fun k => spec_l16Any.l0.eq_2 ..) (Ev.bnd e1 (Ev.neg (by omega) (Ev.pos hp (Ev.bnd e2 (Ev.bnd e3 (Ev.neg c0 (Ev.neg c1 (Ev.pos c2 (Ev.bnd e4 (Ev.pos r20 (Ev.pos hr2 (Ev.now _)))))))))))), by simp; omega, a4⟩
    · exact ⟨_, _, _, Ev.step (fun k => spec_l16Any.l0.eq_2 ..) (Ev.bnd e1 (Ev.neg (by omega) (Ev.pos hp (Ev.bnd e2 (Ev.bnd e3 (Ev.neg c0 (Ev.neg c1 (Ev.neg c2 (Ev.now _))))))))), by omega, a3⟩
  | succ d ih =>
    intro n xs i h ha hn hn1 hx
    obtain ⟨r, i1, h1, e1, r0, r1, _, a1⟩ := Below_eq b i h 6 ha
    have hr := r1 (by omega)
    by_cases hle : (n : Int) ≤ r
    · obtain ⟨r2, i2, h2, e2, _, _, _, a2⟩ := Below_eq b i1 h1 20 a1
      obtain ⟨r3, i3, h3, e3, _, a3⟩ := DInt_eq b i2 h2 [-3, -1, 1, 2] (by simp) a2
      obtain ⟨l, i4, h4, e4, hl, a4⟩ := ih (n + 1) (xs ++ [⟨wrap64 (2 * n), wrap64 (60 + r2), wrap64 ((wrap64 (60 + r2)) + r3)⟩]) i3 h3 a3 (by omega) (by omega) (by simp; omega)
      refine ⟨l, i4, h4, Ev.step (fun k => spec_l16Any.l0.eq_2 ..) (Ev.bnd e1 (Ev.pos hle (Ev.bnd e2 (Ev.bnd e3 (Ev.pos (by omega) ?_))))), hl, a4⟩
      simp only [w64s (show n < 4611686018427387904 by omega)]
      exact e4
    · by_cases hp : (xs.length : Int) > 0
      · obtain ⟨r2, i2, h2, e2, r20, r21, _, a2⟩ := Below_eq b i1 h1 xs.length a1
        have hr2 := r21 (by omega)
        obtain ⟨r3, i3, h3, e3, _, _, _, a3⟩ := Below_eq b i2 h2 12 a2
        by_cases c0 : r3 = 0
        · obtain ⟨r4, i4, h4, e4, _, a4⟩ := DInt_eq b i3 h3 [0, 2, 99, 100] (by simp) a3
          exact ⟨_, _, _, Ev.step (fun k => spec_l16Any.l0.eq_2 ..) (Ev.bnd e1 (Ev.neg hle (Ev.pos hp (Ev.bnd e2 (Ev.bnd e3 (Ev.pos c0 (Ev.bnd e4 (Ev.pos r20 (Ev.pos hr2 (Ev.now _)))))))))), by simp; omega, a4⟩
        by_cases c1 : r3 = 1
        · exact ⟨_, _, _, Ev.step (fun k => spec_l16Any.l0.eq_2 ..) (Ev.bnd e1 (Ev.neg hle (Ev.pos hp (Ev.bnd e2 (Ev.bnd e3 (Ev.neg c0 (Ev.pos c1 (Ev.pos r20 (Ev.pos hr2 (Ev.now _)))))))))), by simp; omega, a3⟩
        by_cases c2 : r3 = 2
        · obtain ⟨r4, i4, h4, e4, _, a4⟩ := DInt_eq b i3 h3 [-1, 0, 100, 101] (by simp) a3
          exact ⟨_, _, _, Ev.step (fun k => spec_l16Any.l0.eq_2 ..) (Ev.bnd e1 (Ev.neg hle (Ev.pos hp (Ev.bnd e2 (Ev.bnd e3 (Ev.neg c0 (Ev.neg c1 (Ev.pos c2 (Ev.bnd e4 (Ev.pos r20 (Ev.pos hr2 (Ev.now _)))))))))))), by simp; omega, a4⟩
        · exact ⟨_, _, _, Ev.step (fun k => spec_l16Any.l0.eq_2 ..) (Ev.bnd e1 (Ev.neg hle (Ev.pos hp (Ev.bnd e2 (Ev.bnd e3 (Ev.neg c0 (Ev.neg c1 (Ev.neg c2 (Ev.now _))))))))), by omega, a3⟩
      · exact ⟨_, _, _, Ev.step (fun k => spec_l16Any.l0.eq_2 ..) (Ev.bnd e1 (Ev.neg hle (Ev.neg hp (Ev.now _)))), by omega, a1⟩
theorem l16Any_ev (b : List Int) (i h : Int) (ha : At b i) : ∃ l i' h', Ev (fun k => spec_l16Any.f k b i h) (l, i', h') ∧ l.length ≤ 10 ∧ At b i' := by
  unfold spec_l16Any.f
  exact l16Any_l0 b 5 1 [] i h ha rfl (by omega) rfl
theorem DrawDec_ev (b : List Int) (hb : b.length ≤ 1099511627776) : ∃ l, Ev (fun k => spec_DrawDecision.f k b) l ∧ l.length ≤ 10 := by
  obtain ⟨h, e⟩ := New_ev b hb
  obtain ⟨l, i2, h2, e2, hl, _⟩ := l16Any_ev b 0 h ⟨hb, by omega, by omega⟩
  refine ⟨l, ?_, hl⟩
  unfold spec_DrawDecision.f spec_DrawAreBallots.f
  exact Ev.bind (Ev.bind e (Ev.bind e2 (Ev.now _))) (Ev.now _)
theorem DrawSum_ev (b : List Int) (hb : b.length ≤ 1099511627776) : ∃ l t, Ev (fun k => spec_DrawSumFor.f k b) (l, t) ∧ l.length ≤ 10 := by
  obtain ⟨h, e⟩ := New_ev b hb
  obtain ⟨l, i2, h2, e2, hl, a2⟩ := l16Any_ev b 0 h ⟨hb, by omega, by omega⟩
  obtain ⟨r, i3, h3, e3, _, _, _, _⟩ := Below_eq b i2 h2 4 a2
  refine ⟨l, r, ?_, hl⟩
  unfold spec_DrawSumFor.f spec_DrawVotesFor.f
  exact Ev.bind (Ev.bind e (Ev.bind e2 (Ev.bnd e3 (Ev.now _)))) (Ev.now _)
/-- The other way round. -/
def swp (b : Bl) : Bl := ⟨b.f0, b.f2, b.f1⟩
theorem okB_swp (b : Bl) : okB (swp b) = okB b := by
  rw [Bool.eq_iff_iff, okB_iff, okB_iff]
  simp only [swp]
  omega
theorem ballotsF_swp : ∀ (l : List Bl) (p : Int), ballotsF p (l.map swp) = ballotsF p l
  | [], _ => rfl
  | b :: l, p => by
    simp only [List.map_cons, ballotsF, okB_swp, ballotsF_swp l]
    rfl
theorem okBallots_swp (l : List Bl) : okBallots (l.map swp) = okBallots l := by
  simp only [okBallots, ballotsF_swp, List.length_map]
theorem teamB_swp {b : Bl} (h : okB b = true) : teamB (swp b) = 3 - teamB b := by
  have := okB_iff.1 h
  unfold teamB swp
  by_cases h1 : b.f1 > b.f2
  · have h2 : ¬ b.f2 > b.f1 := by omega
    simp [h1, h2]
  · have h2 : b.f2 > b.f1 := by omega
    simp [h1, h2]
theorem teamB_or (b : Bl) : teamB b = 1 ∨ teamB b = 2 := by
  unfold teamB
  split
  · exact .inl rfl
  · exact .inr rfl
theorem votesB_swp : ∀ (l : List Bl), (∀ b ∈ l, okB b = true) → votesB 1 (l.map swp) = votesB 2 l ∧ votesB 2 (l.map swp) = votesB 1 l ∧ votesB 1 l + votesB 2 l = l.length ∧ sumB 1 (l.map swp) = sumB 2 l ∧ sumB 2 (l.map swp) = sumB 1 l
  | [], _ => by simp [votesB, sumB]
  | b :: l, h => by
    obtain ⟨h1, h2, h3, h4, h5⟩ := votesB_swp l (fun x hx => h x (by simp [hx]))
    have hb := teamB_swp (h b (by simp))
    have ho := teamB_or b
    simp only [List.map_cons, votesB, sumB, List.length_cons, h1, h2, h4, h5, hb]
    rcases ho with ho | ho <;> simp [ho, swp] <;> omega
theorem decB_range (l : List Bl) : 0 ≤ decB l ∧ decB l ≤ 2 := by
  unfold decB
  split
  · omega
  · rename_i b u
    have := teamB_or b
    split
    · repeat (first | split | omega)
    · omega
theorem decB_zero (l : List Bl) : (decB l ≠ 0) ↔ (l ≠ [] ∧ okBallots l = true) := by
  cases l with
  | nil => simp [decB]
  | cons b u =>
    have ho := teamB_or b
    by_cases h : okBallots (b :: u) = true
    · simp only [decB, h, if_true, ne_eq, reduceCtorEq, not_false_eq_true, and_self, iff_true]
      intro hz
      revert hz
      repeat (first | split | omega)
    · simp [decB, h]
theorem decB_swp (l : List Bl) (h : decB l ≠ 0) : decB (l.map swp) = 3 - decB l := by
  obtain ⟨h0, ho⟩ := (decB_zero l).1 h
  have hm := okBallots_mem ho
  obtain ⟨v1, v2, _, s1, s2⟩ := votesB_swp l hm
  cases l with
  | nil => exact absurd rfl h0
  | cons b u =>
    have ho2 : okBallots ((b :: u).map swp) = true := by rw [okBallots_swp, ho]
    have hb := teamB_swp (hm b (by simp))
    have hor := teamB_or b
    simp only [List.map_cons] at ho2 v1 v2 s1 s2
    simp only [List.map_cons, decB, votes, sumFor, ho, ho2, if_true, v1, v2, s1, s2, hb]
    repeat (first | split | omega)
theorem FnBallots_pure (l0 : List Int) (b0 : l0.length ≤ 9223372036854775807) : ∃ k, laws_FnBallots.f k l0 = some true := by
  refine Ev.rounds (g := fun k => laws_FnBallots.f k l0) ?_
  unfold laws_FnBallots.f
  simp only [big_eq, Option.bind_some]
  refine Ev.ite (fun _ => Ev.now _) (fun hs => ?_)
  have hb : l0.length ≤ 1099511627776 := by
    have : ¬ (l0.length : Int) > 1048576 := by simpa using hs
    omega
  obtain ⟨l, hl, hn⟩ := DrawDec_ev l0 hb
  obtain ⟨x, t, hx, hxn⟩ := DrawSum_ev l0 hb
  have hL : l.length ≤ 1099511627776 := by omega
  have hX : x.length ≤ 1099511627776 := by omega
  have hr := decB_range l
  have v1 := votes_le l 1
  have v2 := votes_le l 2
  refine Ev.bind hl (Ev.bind (iDecision_ev l hL) (Ev.bind (sDecision_ev l hL) (Ev.pos rfl ?_)))
  -- the last part
  have j3 : Ev (fun k => laws_FnBallots.j3 k l0 l (votes l 1) (votes l 2) false) true := by
    refine Ev.step (fun k => laws_FnBallots.j3.eq_2 ..) (Ev.neg (by simp) (Ev.bind hx (Ev.bind (iSumFor_ev x t hX) (Ev.pos (by have := sumFor_le x t; omega) (Ev.bind (iIsSplit_ev l hL) (Ev.ite (fun h => Ev.some_ ?_) (fun h => Ev.some_ ?_)))))))
    · simp [splitB, h]
    · simp [splitB, h]
  have j2 : Ev (fun k => laws_FnBallots.j2 k l0 l (decB l) false) true := by
    refine Ev.step (fun k => laws_FnBallots.j2.eq_2 ..) (Ev.neg (by simp) (Ev.bind (iVotesFor_ev l 1 hL) (Ev.bind (iVotesFor_ev l 2 hL) (Ev.ite (fun _ => j3) (fun hd => ?_)))))
    obtain ⟨h0, ho⟩ := (decB_zero l).1 hd
    obtain ⟨_, _, hsum, _, _⟩ := votesB_swp l (okBallots_mem ho)
    have e1 : votes l 1 = votesB 1 l := by simp [votes, ho]
    have e2 : votes l 2 = votesB 2 l := by simp [votes, ho]
    rw [w64 (x := votes l 1 + votes l 2) (by omega) (by omega)]
    refine Ev.pos (by omega) ?_
    cases l with
    | nil => exact absurd rfl h0
    | cons b u =>
      refine Ev.ite (fun h => Ev.pos ?_ (Ev.neg (by omega) j3)) (fun h => Ev.ite (fun h2 => ?_) (fun h2 => j3))
      · simp only [decB, ho, if_true]
        rw [if_pos (by omega)]
      · have : decB (b :: u) = 2 := by
          simp only [decB, ho, if_true]
          rw [if_neg (by omega), if_pos (by omega)]
        simp only [this, bne_self_eq_false]
        exact j3
  have l0' : ∀ (d n : Nat), n + d = l.length → Ev (fun k => laws_FnBallots.l0 k l0 l (decB l) ((l.take n).map swp) (n : Int)) true := by
    intro d
    induction d with
    | zero =>
      intro n hd
      have e : (l.take n).map swp = l.map swp := by rw [List.take_of_length_le (by omega)]
      rw [e]
      refine Ev.step (fun k => laws_FnBallots.l0.eq_2 ..) (Ev.neg (by omega) (Ev.ite (fun _ => j2) (fun hd => Ev.bind (iDecision_ev (l.map swp) (by simp; omega)) ?_)))
      rw [w64 (x := 3 - decB l) (by omega) (by omega), decB_swp l hd]
      simp only [bne_self_eq_false]
      exact j2
    | succ d ih =>
      intro n hd
      refine Ev.step (fun k => laws_FnBallots.l0.eq_2 ..) (Ev.pos (by omega) (Ev.pos (by omega) (Ev.pos (by simp; omega) ?_)))
      simp only [w64s (show n < 4611686018427387904 by omega), rdBallot (show n < l.length by omega)]
      have h1 := ih (n + 1) (by omega)
      rw [take_snoc l n (by omega), List.map_append] at h1
      exact h1
  have j0 : Ev (fun k => laws_FnBallots.j0 k l0 l (decB l) false) true := Ev.step (fun k => laws_FnBallots.j0.eq_2 ..) (Ev.neg (by simp) (l0' l.length 0 (by omega)))
  have hz := decB_zero l
  refine Ev.ite (fun h => Ev.bind (iAreBallots_ev l hL) ?_) (fun h => ?_)
  · have hne : l ≠ [] := by
      rintro rfl
      simp at h
    have e : ((decB l != 0) != okBallots l) = false := by
      cases ho : okBallots l with
      | true =>
        have : decB l ≠ 0 := hz.2 ⟨hne, ho⟩
        simp [this]
      | false =>
        have : decB l = 0 := by
          by_cases c : decB l = 0
          · exact c
          · have := (hz.1 c).2
            rw [ho] at this
            cases this
        simp [this]
    rw [e]
    exact j0
  · have hl0 : l = [] := by
      cases l with
      | nil => rfl
      | cons b u => simp only [List.length_cons] at h; omega
    have e : ((decB l != 0) != false) = false := by
      rw [hl0]
      rfl
    rw [e]
    exact j0
end Go.Proofs.Ytadcndmhdbhfkaa.L
