/- The law FnSpansCut over numbers and lists, as the program's text computes it: it answers true. Conditions: the arguments are of their kinds, lengths fit. -/
import Derived.Test.YtmplfidfckkmhaaQZx28
import Derived.OpenShut
import Derived.Laws.Strings
namespace Go.Proofs.Ytmplfidfckkmhaa.Pure
open Go.RowKit Go.Proofs.Ytmplfidfckkmhaa.QZ Go.Proofs.YtmplfidfckkmhaaW.PrintWords Go.Proofs.YtmplfidfckkmhaaW.PrintLast
set_option linter.unusedVariables false
set_option linter.unusedSimpArgs false

/-! Words for the pure side: strings as lists of bytes, counters as natural numbers, what is answered from some round on. -/
def B (s : ByteArray) : List UInt8 := s.data.toList
theorem B_size (s : ByteArray) : s.size = (B s).length := (Array.length_toList).symm
theorem B_toList (s : ByteArray) : s.toList = B s := Go.ByteArray.toList_eq s
theorem B_inj {s t : ByteArray} (h : B s = B t) : s = t := by
  cases s; cases t
  simp only [B] at h
  congr 1
  exact Array.ext' h
theorem B_app (s t : ByteArray) : B (s ++ t) = B s ++ B t := by simp [B, ByteArray.data_append]
theorem app_size (s t : ByteArray) : (s ++ t).size = s.size + t.size := by rw [B_size, B_app, List.length_append, ← B_size, ← B_size]
theorem B_ext (s : ByteArray) (i j : Nat) : B (s.extract i j) = ((B s).take j).drop i := by
  simp [B, ByteArray.data_extract, List.extract_eq_take_drop, List.drop_take]
theorem B_nil : B (⟨#[]⟩ : ByteArray) = [] := rfl
theorem bt_B (s : ByteArray) (i : Nat) (h : i < (B s).length) : bt s (i : Int) = (((B s)[i]'h).toNat : Int) := by
  have h' : (i : Int).toNat < s.size := by rw [B_size]; simpa using h
  unfold bt
  rw [dif_pos h']
  rfl
theorem wsucc (i : Nat) (h : i < 4611686018427387904) : wrap64 ((i : Int) + 1) = ((i + 1 : Nat) : Int) := by unfold wrap64; omega
theorem wpred (i : Nat) (h : i < 4611686018427387904) (h0 : 0 < i) : wrap64 ((i : Int) - 1) = ((i - 1 : Nat) : Int) := by unfold wrap64; omega
theorem wid {x : Int} (h0 : -9223372036854775808 ≤ x) (h1 : x ≤ 9223372036854775807) : wrap64 x = x := by unfold wrap64; omega
theorem Ev.cut {α : Type} {g f : Nat → Option α} {r : α} (k : Ev f r) (h : ∀ k, g (k + 1) = f k) : Ev g r := Ev.step h k
theorem Ev.end_ {α : Type} {g : Nat → Option α} {r : α} (h : ∀ k, g (k + 1) = some r) : Ev g r := Ev.step h (Ev.now r)
theorem Ev.all {α : Type} {g : Nat → Option α} {r : α} (h : ∀ k, g k = some r) : Ev g r := ⟨0, fun k _ => h k⟩
theorem Ev.uniq {α : Type} {g : Nat → Option α} {r q : α} (h : Ev g r) (h' : Ev g q) : r = q := by
  obtain ⟨K, h⟩ := h
  obtain ⟨K', h'⟩ := h'
  have h1 := h (max K K') (by omega)
  rw [h' (max K K') (by omega)] at h1
  exact (Option.some.inj h1).symm
theorem dec_eq {p q : Prop} [Decidable p] [Decidable q] (h : p ↔ q) : (some (decide p) : Option Bool) = some (decide q) := by rw [decide_eq_decide.2 h]
theorem dec_false {q : Prop} [Decidable q] (h : ¬ q) : (some false : Option Bool) = some (decide q) := by rw [decide_eq_false h]
theorem dec_true {q : Prop} [Decidable q] (h : q) : (some true : Option Bool) = some (decide q) := by rw [decide_eq_true h]

/-! Ranges, valid. -/
def spOk (a b : Int) : Bool := decide (0 ≤ a ∧ a < b ∧ b ≤ 48)
theorem spec_SpanOk_is (a b : Int) : spec_SpanOk.f a b = some (spOk a b) := by
  unfold spec_SpanOk.f spOk
  repeat' split
  all_goals first | exact dec_eq (by omega) | exact dec_false (by omega)
theorem impl_SpanOk_is (a b : Int) : impl_SpanOk.f a b = some (spOk a b) := by
  unfold impl_SpanOk.f spOk
  repeat' split
  all_goals first | exact dec_eq (by omega) | exact dec_false (by omega)

/-! Lists of ranges, valid. -/
theorem rdSpan_nat (L : List S29) (i : Nat) : rd_T29 L (i : Int) = L.getD i z29 := rfl
def SpsGood (L : List S29) (i : Nat) : Prop := spOk (L.getD i z29).f0 (L.getD i z29).f1 = true ∧ (0 < i → (L.getD (i - 1) z29).f1 < (L.getD i z29).f0)
def SpsOk (L : List S29) : Prop := (∀ j, j < L.length → SpsGood L j) ∧ L.length ≤ 12
theorem good_iff {L : List S29} {i : Nat} (h : SpsGood L i) : (∀ j, i ≤ j → j < L.length → SpsGood L j) ↔ (∀ j, i + 1 ≤ j → j < L.length → SpsGood L j) :=
  ⟨fun g j h1 h2 => g j (by omega) h2, fun g j h1 h2 => if e : j = i then e ▸ h else g j (by omega) h2⟩
theorem spec_SpansOk_l (L : List S29) (hL : L.length < 4611686018427387904) : ∀ (d i : Nat), i + d = L.length →
    ∃ b, Ev (fun k => spec_SpansOk.l0 k L (i : Int)) b ∧ (b = true ↔ (∀ j, i ≤ j → j < L.length → SpsGood L j) ∧ L.length ≤ 12) := by
  intro d
  induction d with
  | zero =>
    intro i hi
    refine ⟨decide ((L.length : Int) ≤ 12), Ev.end_ (fun k => ?_), ?_⟩
    · simp only [spec_SpansOk.l0]
      rw [if_neg (by omega)]
    · rw [decide_eq_true_iff]
      exact ⟨fun h => ⟨fun j h1 h2 => by omega, by omega⟩, fun h => by omega⟩
  | succ d ih =>
    intro i hi
    by_cases hg : SpsGood L i
    · obtain ⟨b, hb, hiff⟩ := ih (i + 1) (by omega)
      refine ⟨b, Ev.cut (f := fun k => spec_SpansOk.l0 k L ((i + 1 : Nat) : Int)) hb (fun k => ?_), by rw [hiff, good_iff hg]⟩
      simp only [spec_SpansOk.l0]
      rw [if_pos (by omega), if_pos (by omega), rdSpan_nat, spec_SpanOk_is, hg.1]
      simp only [Option.bind_some, if_true]
      rw [wsucc i (by omega)]
      by_cases hi0 : 0 < i
      · have := hg.2 hi0
        rw [if_pos (by omega), wpred i (by omega) hi0, if_pos (by omega), if_pos (by omega), rdSpan_nat, if_neg (by omega)]
      · rw [if_neg (by omega)]
    · refine ⟨false, Ev.end_ (fun k => ?_), ⟨nofun, fun h => absurd (h.1 i (Nat.le_refl _) (by omega)) hg⟩⟩
      simp only [spec_SpansOk.l0]
      rw [if_pos (by omega), if_pos (by omega), rdSpan_nat, spec_SpanOk_is]
      cases hs : spOk (L.getD i z29).f0 (L.getD i z29).f1 with
      | false => simp
      | true =>
        simp only [Option.bind_some, if_true]
        by_cases hi0 : 0 < i
        · rw [if_pos (by omega), wpred i (by omega) hi0, if_pos (by omega), if_pos (by omega), rdSpan_nat, if_pos]
          have : ¬ (L.getD (i - 1) z29).f1 < (L.getD i z29).f0 := fun h => hg ⟨hs, fun _ => h⟩
          omega
        · exact absurd ⟨hs, fun h => absurd h hi0⟩ hg
theorem spec_SpansOk_is (L : List S29) (hL : L.length < 4611686018427387904) : ∃ b, Ev (fun k => spec_SpansOk.f k L) b ∧ (b = true ↔ SpsOk L) := by
  obtain ⟨b, hb, hi⟩ := spec_SpansOk_l L hL L.length 0 (by omega)
  exact ⟨b, hb, by rw [hi]; exact ⟨fun h => ⟨fun j => h.1 j (by omega), h.2⟩, fun h => ⟨fun j _ => h.1 j, h.2⟩⟩⟩
theorem impl_SpansOk_l (L : List S29) (hL : L.length < 4611686018427387904) : ∀ (d i : Nat), i + d = L.length →
    ∃ b, Ev (fun k => impl_SpansOk.l0 k L L (L.length : Int) (i : Int)) b ∧ (b = true ↔ (∀ j, i ≤ j → j < L.length → SpsGood L j) ∧ L.length ≤ 12) := by
  intro d
  induction d with
  | zero =>
    intro i hi
    refine ⟨decide ((L.length : Int) ≤ 12), Ev.end_ (fun k => ?_), ?_⟩
    · simp only [impl_SpansOk.l0]
      rw [if_neg (by omega)]
    · rw [decide_eq_true_iff]
      exact ⟨fun h => ⟨fun j h1 h2 => by omega, by omega⟩, fun h => by omega⟩
  | succ d ih =>
    intro i hi
    by_cases hg : SpsGood L i
    · obtain ⟨b, hb, hiff⟩ := ih (i + 1) (by omega)
      refine ⟨b, Ev.cut (f := fun k => impl_SpansOk.l0 k L L (L.length : Int) ((i + 1 : Nat) : Int)) hb (fun k => ?_), by rw [hiff, good_iff hg]⟩
      simp only [impl_SpansOk.l0]
      rw [if_pos (by omega), if_pos (by omega), if_pos (by omega), rdSpan_nat, impl_SpanOk_is, hg.1]
      simp only [Option.bind_some, if_true]
      rw [wsucc i (by omega)]
      by_cases hi0 : 0 < i
      · have := hg.2 hi0
        rw [if_pos (by omega), wpred i (by omega) hi0, if_pos (by omega), if_pos (by omega), rdSpan_nat, if_neg (by omega)]
      · rw [if_neg (by omega)]
    · refine ⟨false, Ev.end_ (fun k => ?_), ⟨nofun, fun h => absurd (h.1 i (Nat.le_refl _) (by omega)) hg⟩⟩
      simp only [impl_SpansOk.l0]
      rw [if_pos (by omega), if_pos (by omega), if_pos (by omega), rdSpan_nat, impl_SpanOk_is]
      cases hs : spOk (L.getD i z29).f0 (L.getD i z29).f1 with
      | false => simp
      | true =>
        simp only [Option.bind_some, if_true]
        by_cases hi0 : 0 < i
        · rw [if_pos (by omega), wpred i (by omega) hi0, if_pos (by omega), if_pos (by omega), rdSpan_nat, if_pos]
          have : ¬ (L.getD (i - 1) z29).f1 < (L.getD i z29).f0 := fun h => hg ⟨hs, fun _ => h⟩
          omega
        · exact absurd ⟨hs, fun h => absurd h hi0⟩ hg
theorem impl_SpansOk_is (L : List S29) (hL : L.length < 4611686018427387904) : ∃ b, Ev (fun k => impl_SpansOk.f k L) b ∧ (b = true ↔ SpsOk L) := by
  obtain ⟨b, hb, hi⟩ := impl_SpansOk_l L hL L.length 0 (by omega)
  exact ⟨b, hb, by rw [hi]; exact ⟨fun h => ⟨fun j => h.1 j (by omega), h.2⟩, fun h => ⟨fun j _ => h.1 j, h.2⟩⟩⟩

/-! Sets of places as lists of 48 truth values, and the ranges of one. -/
theorem getD_set' (z : List Bool) (i p : Nat) (b : Bool) : (z.set i b).getD p false = if p = i ∧ i < z.length then b else z.getD p false := by
  rw [List.getD_eq_getElem?_getD, List.getD_eq_getElem?_getD, List.getElem?_set]
  by_cases h : i = p
  · subst h
    by_cases hl : i < z.length
    · simp [hl]
    · simp [hl]
  · rw [if_neg h, if_neg (fun hh => h hh.1.symm)]
def chB (P : Nat → Bool) : List Bool := (List.range 48).map P
theorem chB_len (P : Nat → Bool) : (chB P).length = 48 := by simp [chB]
theorem chB_get (P : Nat → Bool) (i : Nat) (h : i < 48) : (chB P).getD i false = P i := by
  rw [List.getD_eq_getElem?_getD]
  simp [chB, h]
theorem ext48 {x y : List Bool} (hx : x.length = 48) (hy : y.length = 48) (h : ∀ p, p < 48 → x.getD p false = y.getD p false) : x = y := by
  apply List.ext_getElem (by omega)
  intro i h1 h2
  have := h i (by omega)
  simpa [h1, h2] using this
def inL (L : List S29) (p : Nat) : Bool := L.any fun s => decide (s.f0 ≤ (p : Int)) && decide ((p : Int) < s.f1)
theorem inL_cons (s : S29) (L : List S29) (p : Nat) : inL (s :: L) p = (decide (s.f0 ≤ (p : Int)) && decide ((p : Int) < s.f1) || inL L p) := by simp [inL]
theorem inL_app (L M : List S29) (p : Nat) : inL (L ++ M) p = (inL L p || inL M p) := by simp [inL]
theorem inL_nil (p : Nat) : inL ([] : List S29) p = false := rfl
theorem inL_iff (L : List S29) (p : Nat) : inL L p = true ↔ ∃ s ∈ L, s.f0 ≤ (p : Int) ∧ (p : Int) < s.f1 := by simp [inL]
/-! Ranges in their order, each behind a gap. -/
def GL : Int → List S29 → Prop
  | _, [] => True
  | b, s :: l => b ≤ s.f0 ∧ s.f0 < s.f1 ∧ s.f1 ≤ 48 ∧ GL (s.f1 + 1) l
theorem GL_mono : ∀ {L : List S29} {b c : Int}, GL b L → c ≤ b → GL c L
  | [], _, _, _, _ => trivial
  | _ :: _, _, _, h, hc => ⟨by have := h.1; omega, h.2⟩
theorem GL_low : ∀ {L : List S29} {b : Int}, GL b L → ∀ s ∈ L, b ≤ s.f0 ∧ s.f0 < s.f1 ∧ s.f1 ≤ 48
  | [], _, _, _, hs => by simp at hs
  | t :: l, b, h, s, hs => by
    rcases List.mem_cons.1 hs with rfl | hs
    · exact ⟨h.1, h.2.1, h.2.2.1⟩
    · have := GL_low h.2.2.2 s hs
      have := h.1; have := h.2.1
      exact ⟨by omega, by omega, by omega⟩
theorem GL_in {L : List S29} {b : Int} (h : GL b L) {p : Nat} (hp : inL L p = true) : b ≤ (p : Int) ∧ p < 48 := by
  obtain ⟨s, hs, h0, h1⟩ := (inL_iff L p).1 hp
  have := GL_low h s hs
  omega
theorem GL_out {L : List S29} {b : Int} (h : GL b L) {p : Nat} (hp : (p : Int) < b ∨ 48 ≤ p) : inL L p = false := by
  cases hq : inL L p with
  | false => rfl
  | true => have := GL_in h hq; omega
/-- What tells the places tells the ranges. -/
theorem GL_uniq : ∀ {L M : List S29} {b c : Int}, 0 ≤ b → 0 ≤ c → GL b L → GL c M → (∀ p, p < 48 → inL L p = inL M p) → L = M
  | [], [], _, _, _, _, _, _, _ => rfl
  | [], t :: m, b, c, h0, h0', h, h', e => by
    have := h'.1; have := h'.2.1; have := h'.2.2.1
    have ep := e t.f0.toNat (by omega)
    rw [inL_nil, inL_cons, decide_eq_true (show t.f0 ≤ (t.f0.toNat : Int) by omega), decide_eq_true (show (t.f0.toNat : Int) < t.f1 by omega)] at ep
    simp at ep
  | s :: l, [], b, c, h0, h0', h, h', e => by
    have := h.1; have := h.2.1; have := h.2.2.1
    have ep := e s.f0.toNat (by omega)
    rw [inL_nil, inL_cons, decide_eq_true (show s.f0 ≤ (s.f0.toNat : Int) by omega), decide_eq_true (show (s.f0.toNat : Int) < s.f1 by omega)] at ep
    simp at ep
  | s :: l, t :: m, b, c, h0, h0', h, h', e => by
    obtain ⟨a1, a2, a3, a4⟩ := h
    obtain ⟨b1, b2, b3, b4⟩ := h'
    have key : ∀ (p : Nat), p < 48 → ((s.f0 ≤ (p : Int) ∧ (p : Int) < s.f1) ∨ inL l p = true ↔ (t.f0 ≤ (p : Int) ∧ (p : Int) < t.f1) ∨ inL m p = true) := by
      intro p hp
      have ep := e p hp
      rw [inL_cons, inL_cons] at ep
      have := Bool.eq_iff_iff.1 ep
      simpa using this
    have hl : ∀ (p : Nat), (p : Int) < s.f1 + 1 → ¬ inL l p = true := fun p hp hq => by have := GL_in a4 hq; omega
    have hm : ∀ (p : Nat), (p : Int) < t.f1 + 1 → ¬ inL m p = true := fun p hp hq => by have := GL_in b4 hq; omega
    have e0 : s.f0 = t.f0 := by
      by_cases h1 : s.f0 < t.f0
      · have := (key s.f0.toNat (by omega)).1 (.inl (by omega))
        rcases this with h | h
        · omega
        · exact absurd h (hm _ (by omega))
      · by_cases h2 : t.f0 < s.f0
        · have := (key t.f0.toNat (by omega)).2 (.inl (by omega))
          rcases this with h | h
          · omega
          · exact absurd h (hl _ (by omega))
        · omega
    have e1 : s.f1 = t.f1 := by
      by_cases h1 : s.f1 < t.f1
      · have := (key s.f1.toNat (by omega)).2 (.inl (by omega))
        rcases this with h | h
        · omega
        · exact absurd h (hl _ (by omega))
      · by_cases h2 : t.f1 < s.f1
        · have := (key t.f1.toNat (by omega)).1 (.inl (by omega))
          rcases this with h | h
          · omega
          · exact absurd h (hm _ (by omega))
        · omega
    have est : s = t := by
      cases s; cases t
      simp only at e0 e1
      subst e0; subst e1
      rfl
    subst est
    have el : l = m := GL_uniq (by omega) (by omega) a4 b4 (by
      intro p hp
      by_cases hps : (p : Int) < s.f1 + 1
      · rw [GL_out a4 (.inl hps), GL_out b4 (.inl hps)]
      · have := key p hp
        rw [Bool.eq_iff_iff]
        constructor
        · intro h
          rcases this.1 (.inr h) with h | h
          · omega
          · exact h
        · intro h
          rcases this.2 (.inr h) with h | h
          · omega
          · exact h)
    rw [el]
/-! The list at the places' end: one more, or the last one longer. -/
theorem GL_snoc : ∀ {L : List S29} {b : Int} {t : S29}, GL b (L ++ [t]) ↔ GL b L ∧ (∀ s ∈ L, s.f1 < t.f0) ∧ b ≤ t.f0 ∧ t.f0 < t.f1 ∧ t.f1 ≤ 48
  | [], b, t => by simp [GL]
  | s :: l, b, t => by
    simp only [List.cons_append, GL]
    rw [GL_snoc (L := l)]
    constructor
    · rintro ⟨h1, h2, h3, h4, h5, h6, h7, h8⟩
      refine ⟨⟨h1, h2, h3, h4⟩, ?_, by omega, h7, h8⟩
      intro x hx
      rcases List.mem_cons.1 hx with rfl | hx
      · omega
      · exact h5 x hx
    · rintro ⟨⟨h1, h2, h3, h4⟩, h5, h6, h7, h8⟩
      exact ⟨h1, h2, h3, h4, fun x hx => h5 x (List.mem_cons_of_mem _ hx), by have := h5 s (by simp); omega, h7, h8⟩
theorem GL_iff : ∀ {L : List S29} {b : Int}, 0 ≤ b → (GL b L ↔ (∀ j, j < L.length → SpsGood L j) ∧ ∀ s, L[0]? = some s → b ≤ s.f0)
  | [], b, _ => by simp [GL]
  | s :: l, b, hb => by
    simp only [GL]
    constructor
    · rintro ⟨h1, h2, h3, h4⟩
      have ih := (GL_iff (L := l) (b := s.f1 + 1) (by omega)).1 h4
      refine ⟨fun j hj => ?_, fun t ht => by simp at ht; subst ht; exact h1⟩
      cases j with
      | zero => exact ⟨decide_eq_true ⟨by show 0 ≤ s.f0; omega, h2, h3⟩, fun h => absurd h (by omega)⟩
      | succ j =>
        have hjl : j < l.length := by simpa using hj
        have g := ih.1 j hjl
        refine ⟨g.1, fun _ => ?_⟩
        cases j with
        | zero =>
          have := ih.2 (l.getD 0 z29) (by rw [List.getD_eq_getElem?_getD, List.getElem?_eq_getElem hjl]; rfl)
          show s.f1 < (l.getD 0 z29).f0
          omega
        | succ i => exact g.2 (by omega)
    · rintro ⟨h1, h2⟩
      have g0 : 0 ≤ s.f0 ∧ s.f0 < s.f1 ∧ s.f1 ≤ 48 := of_decide_eq_true (h1 0 (by simp)).1
      have e0 : b ≤ s.f0 := h2 s rfl
      refine ⟨e0, g0.2.1, g0.2.2, (GL_iff (L := l) (b := s.f1 + 1) (by omega)).2 ⟨fun j hj => ?_, fun t ht => ?_⟩⟩
      · have g := h1 (j + 1) (by simp; omega)
        refine ⟨g.1, fun hj0 => ?_⟩
        have g2 := g.2 (by omega)
        cases j with
        | zero => omega
        | succ i => exact g2
      · have hl : 0 < l.length := by
          cases l with
          | nil => simp at ht
          | cons x l => simp
        have g2 := (h1 1 (by simp; omega)).2 (by omega)
        have et : l.getD 0 z29 = t := by rw [List.getD_eq_getElem?_getD, ht]; rfl
        have g3 : s.f1 < (l.getD 0 z29).f0 := g2
        rw [et] at g3
        omega
theorem SpsOk_iff (L : List S29) : SpsOk L ↔ GL 0 L ∧ L.length ≤ 12 := by
  unfold SpsOk
  rw [GL_iff (by omega)]
  constructor
  · rintro ⟨h1, h2⟩
    refine ⟨⟨h1, fun s hs => ?_⟩, h2⟩
    have hl : 0 < L.length := by
      cases L with
      | nil => simp at hs
      | cons x l => simp
    have g := of_decide_eq_true (h1 0 hl).1
    have e : L.getD 0 z29 = s := by rw [List.getD_eq_getElem?_getD, hs]; rfl
    rw [e] at g
    exact g.1
  · rintro ⟨⟨h1, _⟩, h2⟩
    exact ⟨h1, h2⟩

/-! The program's own loops over places. -/
theorem putR_get (y : List Bool) (b : Bool) (p : Nat) (hp : p < 48) : ∀ (d i : Nat) (z : List Bool), z.length = 48 → i + d = 48 → (putR y b d z i).getD p false = if i ≤ p ∧ y.getD p false = true then b else z.getD p false
  | 0, i, z, hz, hi => by
    rw [putR, if_neg (by omega)]
  | d + 1, i, z, hz, hi => by
    rw [putR, putR_get y b p hp d (i + 1) _ (by split <;> simp [hz]) (by omega)]
    by_cases hy : y.getD i false = true
    · rw [if_pos hy, getD_set']
      by_cases hpi : p = i
      · subst hpi
        rw [if_neg (by omega), if_pos ⟨rfl, by omega⟩, if_pos ⟨Nat.le_refl _, hy⟩]
      · rw [if_neg (show ¬ (p = i ∧ i < z.length) from fun h => hpi h.1)]
        by_cases hle : i ≤ p ∧ y.getD p false = true
        · rw [if_pos hle, if_pos ⟨by omega, hle.2⟩]
        · rw [if_neg hle, if_neg (fun h => hle ⟨by omega, h.2⟩)]
    · rw [if_neg hy]
      by_cases hle : i ≤ p ∧ y.getD p false = true
      · have : p ≠ i := fun e => hy (e ▸ hle.2)
        rw [if_pos hle, if_pos ⟨by omega, hle.2⟩]
      · rw [if_neg hle, if_neg (fun h => hle ⟨by omega, h.2⟩)]
theorem meetR_get (y : List Bool) (p : Nat) (hp : p < 48) : ∀ (d i : Nat) (z : List Bool), z.length = 48 → i + d = 48 → (meetR y d z i).getD p false = if i ≤ p then z.getD p false && y.getD p false else z.getD p false
  | 0, i, z, hz, hi => by
    rw [meetR, if_neg (by omega)]
  | d + 1, i, z, hz, hi => by
    rw [meetR, meetR_get y p hp d (i + 1) _ (by simp [hz]) (by omega), getD_set']
    by_cases hpi : p = i
    · subst hpi
      rw [if_neg (by omega), if_pos ⟨rfl, by omega⟩, if_pos (Nat.le_refl _)]
    · rw [if_neg (show ¬ (p = i ∧ i < z.length) from fun h => hpi h.1)]
      by_cases hle : i ≤ p
      · rw [if_pos hle, if_pos (by omega)]
      · rw [if_neg hle, if_neg (by omega)]
theorem fillR_get (p : Nat) : ∀ (d i : Nat) (z : List Bool), z.length = 48 → i + d ≤ 48 → (fillR d z i).getD p false = (decide (i ≤ p ∧ p < i + d) || z.getD p false)
  | 0, i, z, hz, hi => by
    rw [fillR, decide_eq_false (by omega)]
    rfl
  | d + 1, i, z, hz, hi => by
    rw [fillR, fillR_get p d (i + 1) _ (by simp [hz]) (by omega), getD_set']
    by_cases hpi : p = i
    · subst hpi
      rw [if_pos ⟨rfl, by omega⟩, decide_eq_true (show p ≤ p ∧ p < p + (d + 1) by omega)]
      simp
    · rw [if_neg (show ¬ (p = i ∧ i < z.length) from fun h => hpi h.1)]
      congr 1
      exact decide_eq_decide.2 (by omega)
theorem ofR_get (p : Nat) : ∀ (L : List S29) (z : List Bool), z.length = 48 → (∀ s ∈ L, 0 ≤ s.f0 ∧ s.f1 ≤ 48) → (ofR L z).getD p false = (z.getD p false || inL L p)
  | [], z, hz, _ => by simp [ofR, inL]
  | s :: l, z, hz, h => by
    have hs := h s (by simp)
    rw [ofR]
    by_cases hlt : s.f0 < s.f1
    · rw [ofR_get p l _ (by rw [fillR_len]; exact hz) (fun t ht => h t (by simp [ht])), fillR_get p _ _ _ hz (by omega), inL_cons]
      have e : decide (s.f0.toNat ≤ p ∧ p < s.f0.toNat + (s.f1 - s.f0).toNat) = (decide (s.f0 ≤ (p : Int)) && decide ((p : Int) < s.f1)) := by
        rw [Bool.eq_iff_iff]
        simp only [decide_eq_true_iff, Bool.and_eq_true]
        omega
      rw [e]
      cases z.getD p false <;> cases inL l p <;> simp
    · have e0 : (s.f1 - s.f0).toNat = 0 := by omega
      rw [e0]
      show (ofR l z).getD p false = _
      rw [ofR_get p l _ hz (fun t ht => h t (by simp [ht])), inL_cons]
      have e : (decide (s.f0 ≤ (p : Int)) && decide ((p : Int) < s.f1)) = false := by
        rw [Bool.eq_false_iff]
        simp only [ne_eq, Bool.and_eq_true, decide_eq_true_iff]
        omega
      rw [e]
      simp
/-! The ranges of a list of places. -/
theorem runR_spec (x : List Bool) : ∀ (d i : Nat), 48 < i + d → i ≤ 48 → i ≤ runR x d i ∧ runR x d i ≤ 48 ∧ (∀ p, i ≤ p → p < runR x d i → x.getD p false = true) ∧ (runR x d i < 48 → x.getD (runR x d i) false = false)
  | 0, i, h, hi => by omega
  | d + 1, i, h, hi => by
    by_cases h48 : i < 48
    · cases hx : x.getD i false with
      | true =>
        have e : runR x (d + 1) i = runR x d (i + 1) := by rw [runR, if_pos h48, if_pos hx]
        rw [e]
        obtain ⟨h1, h2, h3, h4⟩ := runR_spec x d (i + 1) (by omega) (by omega)
        refine ⟨by omega, h2, fun p hp hq => ?_, h4⟩
        by_cases e : p = i
        · rw [e]; exact hx
        · exact h3 p (by omega) hq
      | false =>
        have e : runR x (d + 1) i = i := by rw [runR, if_pos h48, hx]; rfl
        rw [e]
        exact ⟨by omega, by omega, fun p hp hq => by omega, fun _ => hx⟩
    · have e : runR x (d + 1) i = i := by rw [runR, if_neg h48]
      rw [e]
      exact ⟨by omega, by omega, fun p hp hq => by omega, fun _ => by omega⟩
theorem spansR_spec (x : List Bool) : ∀ (d i : Nat) (out : List S29), 48 < i + d → ∃ R, spansR x d i out = out ++ R ∧ GL (i : Int) R ∧ ∀ p, p < 48 → inL R p = (decide (i ≤ p) && x.getD p false)
  | 0, i, out, h => ⟨[], by simp [spansR], trivial, fun p hp => by rw [decide_eq_false (by omega)]; rfl⟩
  | d + 1, i, out, h => by
    by_cases h48 : i < 48
    · cases hx : x.getD i false with
      | true =>
        obtain ⟨h1, h2, h3, h4⟩ := runR_spec x 49 i (by omega) (by omega)
        have hgt : i < runR x 49 i := by
          rcases Nat.lt_or_eq_of_le h1 with hh | hh
          · exact hh
          · have := h4 (by omega)
            rw [← hh, hx] at this
            cases this
        have e : spansR x (d + 1) i out = spansR x d (runR x 49 i + 1) (out ++ [⟨(i : Int), (runR x 49 i : Int)⟩]) := by rw [spansR, if_pos h48, if_pos hx]
        generalize runR x 49 i = e1 at h1 h2 h3 h4 hgt e
        obtain ⟨R, hR1, hR2, hR3⟩ := spansR_spec x d (e1 + 1) (out ++ [⟨(i : Int), (e1 : Int)⟩]) (by omega)
        refine ⟨⟨(i : Int), (e1 : Int)⟩ :: R, by rw [e, hR1]; simp, ⟨by show (i : Int) ≤ (i : Int); omega, by show (i : Int) < (e1 : Int); omega, by show (e1 : Int) ≤ 48; omega, by simpa using hR2⟩, fun p hp => ?_⟩
        rw [inL_cons, hR3 p hp, Bool.eq_iff_iff]
        simp only [Bool.or_eq_true, Bool.and_eq_true, decide_eq_true_iff]
        constructor
        · rintro (⟨q1, q2⟩ | ⟨q1, q2⟩)
          · exact ⟨by omega, h3 p (by omega) (by omega)⟩
          · exact ⟨by omega, q2⟩
        · rintro ⟨q1, q2⟩
          by_cases hpe : p < e1
          · exact .inl ⟨by omega, by omega⟩
          · refine .inr ⟨?_, q2⟩
            by_cases hpe2 : p = e1
            · have := h4 (by omega)
              rw [← hpe2, q2] at this
              cases this
            · omega
      | false =>
        have e : spansR x (d + 1) i out = spansR x d (i + 1) out := by rw [spansR, if_pos h48, hx]; rfl
        obtain ⟨R, hR1, hR2, hR3⟩ := spansR_spec x d (i + 1) out (by omega)
        refine ⟨R, by rw [e, hR1], GL_mono hR2 (by omega), fun p hp => ?_⟩
        rw [hR3 p hp, Bool.eq_iff_iff]
        simp only [Bool.and_eq_true, decide_eq_true_iff]
        constructor
        · rintro ⟨q1, q2⟩
          exact ⟨by omega, q2⟩
        · rintro ⟨q1, q2⟩
          refine ⟨?_, q2⟩
          by_cases hpi : p = i
          · rw [hpi, hx] at q2
            cases q2
          · omega
    · exact ⟨[], by rw [spansR, if_neg h48]; simp, trivial, fun p hp => by rw [decide_eq_false (by omega)]; rfl⟩
def runs (x : List Bool) : List S29 := spansR x 49 0 []
theorem runs_GL (x : List Bool) : GL 0 (runs x) := by
  obtain ⟨R, h1, h2, _⟩ := spansR_spec x 49 0 [] (by omega)
  unfold runs
  rw [h1]
  simpa using h2
theorem runs_in (x : List Bool) (p : Nat) (hp : p < 48) : inL (runs x) p = x.getD p false := by
  obtain ⟨R, h1, _, h3⟩ := spansR_spec x 49 0 [] (by omega)
  unfold runs
  rw [h1, List.nil_append, h3 p hp]
  simp
theorem runs_eq {x : List Bool} {L : List S29} (h : GL 0 L) (hx : ∀ p, p < 48 → inL L p = x.getD p false) : runs x = L :=
  GL_uniq (by omega) (by omega) (runs_GL x) h (fun p hp => by rw [runs_in x p hp, hx p hp])
theorem runs_congr {x y : List Bool} (h : ∀ p, p < 48 → x.getD p false = y.getD p false) : runs x = runs y :=
  runs_eq (runs_GL y) (fun p hp => by rw [runs_in y p hp, h p hp])

/-! What the program's functions on lists of ranges come to. -/
def inS (x y : Int) (p : Nat) : Bool := decide (x ≤ (p : Int)) && decide ((p : Int) < y)
theorem inS_iff (x y : Int) (p : Nat) : inS x y p = true ↔ x ≤ (p : Int) ∧ (p : Int) < y := by simp [inS]
theorem inL_one (x y : Int) (p : Nat) : inL ([⟨x, y⟩] : List S29) p = inS x y p := by simp [inL, inS]
def setL (P : Nat → Bool) : List S29 := runs (chB P)
theorem setL_GL (P : Nat → Bool) : GL 0 (setL P) := runs_GL _
theorem setL_in (P : Nat → Bool) (p : Nat) (hp : p < 48) : inL (setL P) p = P p := by unfold setL; rw [runs_in _ _ hp, chB_get P p hp]
theorem setL_eq {P : Nat → Bool} {L : List S29} (h : GL 0 L) (hx : ∀ p, p < 48 → inL L p = P p) : setL P = L := runs_eq h (fun p hp => by rw [hx p hp, chB_get P p hp])
theorem setL_congr {P Q : Nat → Bool} (h : ∀ p, p < 48 → P p = Q p) : setL P = setL Q := setL_eq (setL_GL Q) (fun p hp => by rw [setL_in Q p hp, h p hp])
theorem setL_self {L : List S29} (h : GL 0 L) : setL (inL L) = L := setL_eq h (fun _ _ => rfl)
def fewL (L : List S29) : List S29 := if L.length ≤ 12 then L else []
theorem fewL_ok {L : List S29} (h : GL 0 L) : SpsOk (fewL L) := by
  unfold fewL
  split
  · rename_i hl
    exact (SpsOk_iff L).2 ⟨h, hl⟩
  · exact (SpsOk_iff []).2 ⟨trivial, by simp⟩
theorem SpsOk.gl {L : List S29} (h : SpsOk L) : GL 0 L := ((SpsOk_iff L).1 h).1
theorem SpsOk.len {L : List S29} (h : SpsOk L) : L.length ≤ 12 := h.2
theorem SpsOk.nil : SpsOk ([] : List S29) := (SpsOk_iff []).2 ⟨trivial, by simp⟩
theorem SpsOk.one {x y : Int} (h : spOk x y = true) : SpsOk ([⟨x, y⟩] : List S29) := by
  have := of_decide_eq_true h
  exact (SpsOk_iff _).2 ⟨⟨this.1, this.2.1, this.2.2, trivial⟩, by simp⟩
open Classical in
noncomputable def addL (L : List S29) (x y : Int) : List S29 := if SpsOk L ∧ spOk x y = true then fewL (setL fun p => inL L p || inS x y p) else []
open Classical in
noncomputable def cutL (L : List S29) (x y : Int) : List S29 := if SpsOk L ∧ spOk x y = true then fewL (setL fun p => inL L p && !inS x y p) else []
open Classical in
noncomputable def metL (L : List S29) (x y : Int) : List S29 := if SpsOk L ∧ spOk x y = true then fewL (setL fun p => inL L p && inS x y p) else []
open Classical in
noncomputable def haveL (L : List S29) (x y : Int) : Bool := if SpsOk L ∧ spOk x y = true then (List.range 48).all fun p => !inS x y p || inL L p else false
theorem impl_of_is (L : List S29) (hl : L.length < 4611686018427387904) (hb : ∀ s ∈ L, 0 ≤ s.f0 ∧ s.f1 ≤ 48) : ∃ q, impl_of.f L = some q ∧ ∀ p, p < 48 → q.1.getD p false = inL L p := by
  unfold impl_of.f
  rw [if_pos (by omega), if_pos hb]
  refine ⟨_, rfl, fun p hp => ?_⟩
  show (ofR L (List.replicate 48 false)).getD p false = _
  rw [ofR_get p L _ (by simp) hb, List.getD_eq_getElem?_getD, List.getElem?_replicate, if_pos hp]
  rfl
theorem put_is (a b : Arr.Pl) (c : Bool) : ∃ q, impl_places_put.f a b c = some q ∧ ∀ p, p < 48 → q.1.getD p false = if b.1.getD p false = true then c else a.1.getD p false := by
  unfold impl_places_put.f
  refine ⟨_, rfl, fun p hp => ?_⟩
  have h := putR_get b.1 c p hp 48 0 a.1 a.2 (by omega)
  simpa only [Nat.zero_le, true_and] using h
theorem meet_is (a b : Arr.Pl) : ∃ q, impl_places_meet.f a b = some q ∧ ∀ p, p < 48 → q.1.getD p false = (a.1.getD p false && b.1.getD p false) := by
  unfold impl_places_meet.f
  refine ⟨_, rfl, fun p hp => ?_⟩
  have h := meetR_get b.1 p hp 48 0 a.1 a.2 (by omega)
  simpa only [Nat.zero_le, if_true] using h
theorem few_is (q : Arr.Pl) : impl_few.f q = some (fewL (runs q.1)) := rfl
theorem of_ok {L : List S29} (h : SpsOk L) : ∃ q, impl_of.f L = some q ∧ ∀ p, p < 48 → q.1.getD p false = inL L p :=
  impl_of_is L (by have := h.len; omega) (fun s hs => by have := GL_low h.gl s hs; omega)
theorem SpsOk_b {L : List S29} {b : Bool} (h : b = true ↔ SpsOk L) (ho : SpsOk L) : b = true := h.2 ho
theorem SpsOk_nb {L : List S29} {b : Bool} (h : b = true ↔ SpsOk L) (ho : ¬ SpsOk L) : b = false := by
  cases b with
  | false => rfl
  | true => exact absurd (h.1 rfl) ho
theorem impl_SpansCut_is (L : List S29) (x y : Int) (hL : L.length < 4611686018427387904) : Ev (fun k => impl_SpansCut.f k L x y) (cutL L x y) := by
  unfold impl_SpansCut.f
  obtain ⟨b, hb, hi⟩ := impl_SpansOk_is L hL
  refine Ev.bind hb ?_
  simp only [impl_SpanOk_is, Option.bind_some]
  have hbad : ∀ k, impl_SpansCut.j0 (k + 1) L true x y = some [] := fun k => by simp only [impl_SpansCut.j0]; rfl
  by_cases ho : SpsOk L
  · rw [SpsOk_b hi ho]
    simp only [if_true]
    cases hs : spOk x y with
    | false =>
      unfold cutL
      rw [if_neg (by rw [hs]; simp)]
      exact Ev.end_ (fun k => hbad k)
    | true =>
      unfold cutL
      rw [if_pos ⟨ho, hs⟩]
      obtain ⟨q1, e1, g1⟩ := of_ok ho
      obtain ⟨q2, e2, g2⟩ := of_ok (SpsOk.one hs)
      refine Ev.end_ (fun k => ?_)
      obtain ⟨q3, e3, g3⟩ := put_is q1 q2 false
      simp only [impl_SpansCut.j0, Bool.not_true, Bool.false_eq_true, if_false, e1, e2, e3, Option.bind_some, few_is]
      congr 2
      refine runs_congr fun p hp => ?_
      rw [g3 p hp, chB_get _ p hp, g1 p hp, g2 p hp, inL_one]
      cases inS x y p <;> simp
  · rw [SpsOk_nb hi ho]
    simp only [Bool.false_eq_true, if_false]
    unfold cutL
    rw [if_neg (fun h => ho h.1)]
    exact Ev.end_ (fun k => hbad k)
theorem impl_SpansMeet_is (L : List S29) (x y : Int) (hL : L.length < 4611686018427387904) : Ev (fun k => impl_SpansMeet.f k L x y) (metL L x y) := by
  unfold impl_SpansMeet.f
  obtain ⟨b, hb, hi⟩ := impl_SpansOk_is L hL
  refine Ev.bind hb ?_
  simp only [impl_SpanOk_is, Option.bind_some]
  have hbad : ∀ k, impl_SpansMeet.j0 (k + 1) L true x y = some [] := fun k => by simp only [impl_SpansMeet.j0]; rfl
  by_cases ho : SpsOk L
  · rw [SpsOk_b hi ho]
    simp only [if_true]
    cases hs : spOk x y with
    | false =>
      unfold metL
      rw [if_neg (by rw [hs]; simp)]
      exact Ev.end_ (fun k => hbad k)
    | true =>
      unfold metL
      rw [if_pos ⟨ho, hs⟩]
      obtain ⟨q1, e1, g1⟩ := of_ok ho
      obtain ⟨q2, e2, g2⟩ := of_ok (SpsOk.one hs)
      refine Ev.end_ (fun k => ?_)
      obtain ⟨q3, e3, g3⟩ := meet_is q1 q2
      simp only [impl_SpansMeet.j0, Bool.not_true, Bool.false_eq_true, if_false, e1, e2, e3, Option.bind_some, few_is]
      congr 2
      refine runs_congr fun p hp => ?_
      rw [g3 p hp, chB_get _ p hp, g1 p hp, g2 p hp, inL_one]
  · rw [SpsOk_nb hi ho]
    simp only [Bool.false_eq_true, if_false]
    unfold metL
    rw [if_neg (fun h => ho h.1)]
    exact Ev.end_ (fun k => hbad k)
/-! The reference's functions on lists of ranges. -/
theorem GL_length : ∀ {L : List S29} {b : Int}, GL b L → (L.length : Int) ≤ max 0 (49 - b)
  | [], b, _ => by simp; omega
  | s :: l, b, h => by
    have h1 := GL_length h.2.2.2
    have := h.1; have := h.2.1; have := h.2.2.1
    simp only [List.length_cons]
    omega
theorem spec_l1In_l (L : List S29) (hL : L.length < 4611686018427387904) (p : Nat) : ∀ (d i : Nat), i + d = L.length → Ev (fun k => spec_l1In.l0 k L (p : Int) (i : Int)) (inL (L.drop i) p) := by
  intro d
  induction d with
  | zero =>
    intro i hi
    refine Ev.end_ (fun k => ?_)
    simp only [spec_l1In.l0]
    rw [if_neg (by omega), List.drop_of_length_le (by omega)]
    rfl
  | succ d ih =>
    intro i hi
    have hlt : i < L.length := by omega
    have e : L.getD i z29 = L[i] := by rw [List.getD_eq_getElem?_getD, List.getElem?_eq_getElem hlt]; rfl
    rw [List.drop_eq_getElem_cons hlt, inL_cons, ← e]
    by_cases h0 : (L.getD i z29).f0 ≤ (p : Int)
    · by_cases h1 : (p : Int) < (L.getD i z29).f1
      · refine Ev.end_ (fun k => ?_)
        simp only [spec_l1In.l0]
        rw [if_pos (by omega), if_pos (by omega), rdSpan_nat, if_pos (by omega), if_pos h1, decide_eq_true h0, decide_eq_true h1]
        rfl
      · rw [decide_eq_false h1, Bool.and_false, Bool.false_or]
        refine Ev.cut (f := fun k => spec_l1In.l0 k L (p : Int) ((i + 1 : Nat) : Int)) (ih (i + 1) (by omega)) (fun k => ?_)
        simp only [spec_l1In.l0]
        rw [if_pos (by omega), if_pos (by omega), rdSpan_nat, if_pos (by omega), if_neg h1, wsucc i (by omega)]
    · rw [decide_eq_false h0, Bool.false_and, Bool.false_or]
      refine Ev.cut (f := fun k => spec_l1In.l0 k L (p : Int) ((i + 1 : Nat) : Int)) (ih (i + 1) (by omega)) (fun k => ?_)
      simp only [spec_l1In.l0]
      rw [if_pos (by omega), if_pos (by omega), rdSpan_nat, if_neg (by omega), wsucc i (by omega)]
theorem spec_l1In_is (L : List S29) (hL : L.length < 4611686018427387904) (p : Nat) : Ev (fun k => spec_l1In.f k L (p : Int)) (inL L p) := by
  have h := spec_l1In_l L hL p L.length 0 (by omega)
  simpa [spec_l1In.f] using h
theorem spec_l1Places_l (L : List S29) (hL : L.length < 4611686018427387904) : ∀ (d i : Nat), i + d = 48 → Ev (fun k => spec_l1Places.l0 k L ((List.range i).map (inL L)) (i : Int)) (chB (inL L)) := by
  intro d
  induction d with
  | zero =>
    intro i hi
    obtain rfl : i = 48 := by omega
    refine Ev.end_ (fun k => ?_)
    simp only [spec_l1Places.l0]
    rw [if_neg (by omega)]
    rfl
  | succ d ih =>
    intro i hi
    have h := ih (i + 1) (by omega)
    rw [List.range_succ, List.map_append] at h
    refine Ev.cut (f := fun k => (spec_l1In.f k L (i : Int)).bind fun t => if ((List.range i).map (inL L)).length < 140737488355328 then spec_l1Places.l0 k L ((List.range i).map (inL L) ++ [t]) ((i + 1 : Nat) : Int) else none) (Ev.bind (spec_l1In_is L hL i) ?_) (fun k => ?_)
    · simp only [if_pos (show ((List.range i).map (inL L)).length < 140737488355328 by simp; omega)]
      exact h
    · simp only [spec_l1Places.l0]
      rw [if_pos (by omega), wsucc i (by omega)]
theorem spec_l1Places_is (L : List S29) (hL : L.length < 4611686018427387904) : Ev (fun k => spec_l1Places.f k L) (chB (inL L)) := by
  have h := spec_l1Places_l L hL 48 0 (by omega)
  simpa [spec_l1Places.f] using h
theorem spec_l1Of_l (x : List Bool) (hx : x.length ≤ 48) : ∀ (d i : Nat) (out : List S29), i + d = x.length → GL 0 out → (∀ s ∈ out, s.f1 ≤ (i : Int)) → (∀ p, p < 48 → inL out p = (decide (p < i) && x.getD p false)) →
    Ev (fun k => spec_l1Of.l0 k x out (i : Int)) (runs x) := by
  intro d
  induction d with
  | zero =>
    intro i out hi hg hb hc
    refine Ev.end_ (fun k => ?_)
    simp only [spec_l1Of.l0]
    rw [if_neg (by omega)]
    congr 1
    refine (runs_eq hg (fun p hp => ?_)).symm
    rw [hc p hp]
    by_cases h : p < i
    · rw [decide_eq_true h, Bool.true_and]
    · rw [decide_eq_false h, Bool.false_and, List.getD_eq_getElem?_getD, List.getElem?_eq_none (by omega)]
      rfl
  | succ d ih =>
    intro i out hi hg hb hc
    have hrd : rdOf false x (i : Int) = x.getD i false := rfl
    cases hxi : x.getD i false with
    | false =>
      refine Ev.cut (f := fun k => spec_l1Of.l0 k x out ((i + 1 : Nat) : Int)) (ih (i + 1) out (by omega) hg (fun s hs => by have := hb s hs; omega) (fun p hp => ?_)) (fun k => ?_)
      · rw [hc p hp]
        by_cases e : p = i
        · subst e
          rw [hxi]
          simp
        · congr 1
          exact decide_eq_decide.2 (by omega)
      · simp only [spec_l1Of.l0]
        rw [if_pos (by omega), if_pos (by omega), hrd, hxi, if_neg (by decide), wsucc i (by omega)]
    | true =>
      have hnew : ∀ M : List S29, (∀ p, p < 48 → inL M p = (inL out p || decide (p = i))) → ∀ p, p < 48 → inL M p = (decide (p < i + 1) && x.getD p false) := by
        intro M hM p hp
        rw [hM p hp, hc p hp]
        by_cases e : p = i
        · subst e
          rw [hxi]
          simp
        · rw [decide_eq_false e, Bool.or_false]
          congr 1
          exact decide_eq_decide.2 (by omega)
      have happ : (∀ s ∈ out, s.f1 < (i : Int)) → Ev (fun k => spec_l1Of.l0 k x (out ++ [⟨(i : Int), ((i + 1 : Nat) : Int)⟩]) ((i + 1 : Nat) : Int)) (runs x) := by
        intro hlt
        refine ih (i + 1) _ (by omega) (GL_snoc.2 ⟨hg, hlt, by show (0 : Int) ≤ (i : Int); omega, by show (i : Int) < ((i + 1 : Nat) : Int); omega, by show ((i + 1 : Nat) : Int) ≤ 48; omega⟩) (fun s hs => ?_) (hnew _ (fun p hp => ?_))
        · rcases List.mem_append.1 hs with hs | hs
          · have := hb s hs; omega
          · simp at hs; subst hs; show ((i + 1 : Nat) : Int) ≤ ((i + 1 : Nat) : Int); omega
        · rw [inL_app, inL_one]
          congr 1
          rw [Bool.eq_iff_iff, inS_iff, decide_eq_true_iff]
          omega
      have hol : (out.length : Int) ≤ 49 := by have := GL_length hg; omega
      rcases List.eq_nil_or_concat out with e | ⟨L0, t, e⟩
      · subst e
        refine Ev.cut (happ (fun s hs => by simp at hs)) (fun k => ?_)
        simp only [spec_l1Of.l0]
        rw [if_pos (by omega), if_pos (by omega), hrd, hxi, if_pos rfl, if_neg (by simp), if_pos (by simp), wsucc i (by omega)]
      · rw [List.concat_eq_append] at e
        have hlen : out.length = L0.length + 1 := by rw [e]; simp
        have hlast : rd_T29 out (wrap64 ((out.length : Int) - 1)) = t := by
          rw [wpred _ (by omega) (by omega), rdSpan_nat, e, List.getD_eq_getElem?_getD]
          simp
        have hgs := GL_snoc.1 (e ▸ hg)
        have hbt := hb t (by rw [e]; simp)
        by_cases ht : t.f1 = (i : Int)
        · have hset : out.set (wrap64 ((out.length : Int) - 1)).toNat (⟨t.f0, ((i + 1 : Nat) : Int)⟩ : S29) = L0 ++ [⟨t.f0, ((i + 1 : Nat) : Int)⟩] := by
            rw [wpred _ (by omega) (by omega), Int.toNat_natCast, e]
            simp
          refine Ev.cut (f := fun k => spec_l1Of.l0 k x (L0 ++ [⟨t.f0, ((i + 1 : Nat) : Int)⟩]) ((i + 1 : Nat) : Int)) (ih (i + 1) _ (by omega) ((GL_snoc (t := ⟨t.f0, ((i + 1 : Nat) : Int)⟩)).2 ⟨hgs.1, hgs.2.1, hgs.2.2.1, by have := hgs.2.2.2.1; show t.f0 < ((i + 1 : Nat) : Int); omega, by show ((i + 1 : Nat) : Int) ≤ 48; omega⟩) (fun s hs => ?_) (hnew _ (fun p hp => ?_))) (fun k => ?_)
          · rcases List.mem_append.1 hs with hs | hs
            · have := hb s (by rw [e]; simp [hs]); omega
            · simp at hs; subst hs; show ((i + 1 : Nat) : Int) ≤ ((i + 1 : Nat) : Int); omega
          · rw [e, inL_app, inL_app, inL_one]
            have : inL [t] p = inS t.f0 t.f1 p := by cases t; exact inL_one _ _ p
            rw [this, Bool.or_assoc]
            congr 1
            have := hgs.2.2.2.1
            rw [Bool.eq_iff_iff, Bool.or_eq_true, inS_iff, inS_iff, decide_eq_true_iff]
            omega
          · simp only [spec_l1Of.l0]
            rw [if_pos (by omega), if_pos (by omega), hrd, hxi, if_pos rfl, if_pos (by omega), hlast, wsucc i (by omega), hset, if_pos ht]
            rw [wpred _ (by omega) (by omega), if_pos (by omega), if_pos (by omega)]
        · refine Ev.cut (happ (fun s hs => ?_)) (fun k => ?_)
          · rw [e] at hs
            rcases List.mem_append.1 hs with hs | hs
            · have := hgs.2.1 s hs
              have := hgs.2.2.2.1
              omega
            · simp at hs
              subst hs
              omega
          · simp only [spec_l1Of.l0]
            rw [if_pos (by omega), if_pos (by omega), hrd, hxi, if_pos rfl, if_pos (by omega), hlast, if_neg ht, wsucc i (by omega), if_pos (show out.length < 8796093022208 by omega)]
            rw [wpred _ (by omega) (by omega), if_pos (by omega), if_pos (by omega)]
theorem spec_l1Of_is (x : List Bool) (hx : x.length ≤ 48) : Ev (fun k => spec_l1Of.f k x) (runs x) :=
  spec_l1Of_l x hx x.length 0 [] (by omega) trivial (fun s hs => by simp at hs) (fun p hp => by rw [decide_eq_false (by omega)]; rfl)
theorem spec_l1Add_l (P : Nat → Bool) (x y : Int) (hx : 0 ≤ x) (hy : y ≤ 48) : ∀ (d : Nat) (j : Int) (z : List Bool), (y - j).toNat = d → x ≤ j → z.length = 48 → (∀ p, p < 48 → z.getD p false = (P p || inS x j p)) → j ≤ y →
    Ev (fun k => spec_l1Add.l0 k z j x y) (setL fun p => P p || inS x y p) := by
  intro d
  induction d with
  | zero =>
    intro j z hd hj hz hc hjy
    have h := spec_l1Of_is z (by omega)
    have e : runs z = setL fun p => P p || inS x y p := by
      refine runs_congr fun p hp => ?_
      rw [hc p hp, chB_get _ p hp]
      have : inS x j p = inS x y p := by
        rw [Bool.eq_iff_iff, inS_iff, inS_iff]
        omega
      rw [this]
    rw [e] at h
    refine Ev.cut (f := fun k => (spec_l1Of.f k z).bind fun t => some t) (Ev.bind h (Ev.now _)) (fun k => ?_)
    simp only [spec_l1Add.l0]
    rw [if_neg (by omega)]
  | succ d ih =>
    intro j z hd hj hz hc hjy
    refine Ev.cut (f := fun k => spec_l1Add.l0 k (z.set j.toNat true) (j + 1) x y) (ih (j + 1) _ (by omega) (by omega) (by simpa using hz) ?_ (by omega)) (fun k => ?_)
    · intro p hp
      rw [getD_set', hc p hp]
      by_cases e : p = j.toNat
      · rw [if_pos ⟨e, by omega⟩]
        have : inS x (j + 1) p = true := (inS_iff _ _ _).2 (by omega)
        rw [this]
        cases P p <;> rfl
      · rw [if_neg (fun h => e h.1)]
        have : inS x (j + 1) p = inS x j p := by
          rw [Bool.eq_iff_iff, inS_iff, inS_iff]
          omega
        rw [this]
    · simp only [spec_l1Add.l0]
      rw [if_pos (by omega), if_pos (by omega), if_pos (by omega), wid (x := j + 1) (by omega) (by omega)]
theorem spec_l1Add_is (L : List S29) (x y : Int) (hL : L.length < 4611686018427387904) (hx : 0 ≤ x) (hxy : x < y) (hy : y ≤ 48) : Ev (fun k => spec_l1Add.f k L x y) (setL fun p => inL L p || inS x y p) := by
  unfold spec_l1Add.f
  refine Ev.bind (spec_l1Places_is L hL) (spec_l1Add_l (inL L) x y hx hy (y - x).toNat x _ rfl (by omega) (chB_len _) (fun p hp => ?_) (by omega))
  rw [chB_get _ p hp]
  have : inS x x p = false := by
    rw [Bool.eq_false_iff]
    intro h
    have := (inS_iff _ _ _).1 h
    omega
  rw [this]
  cases inL L p <;> rfl
theorem spec_l1Cut_l (P : Nat → Bool) (x y : Int) (hx : 0 ≤ x) (hy : y ≤ 48) : ∀ (d : Nat) (j : Int) (z : List Bool), (y - j).toNat = d → x ≤ j → z.length = 48 → (∀ p, p < 48 → z.getD p false = (P p && !inS x j p)) → j ≤ y →
    Ev (fun k => spec_l1Cut.l0 k z j x y) (setL fun p => P p && !inS x y p) := by
  intro d
  induction d with
  | zero =>
    intro j z hd hj hz hc hjy
    have h := spec_l1Of_is z (by omega)
    have e : runs z = setL fun p => P p && !inS x y p := by
      refine runs_congr fun p hp => ?_
      rw [hc p hp, chB_get _ p hp]
      have : inS x j p = inS x y p := by
        rw [Bool.eq_iff_iff, inS_iff, inS_iff]
        omega
      rw [this]
    rw [e] at h
    refine Ev.cut (f := fun k => (spec_l1Of.f k z).bind fun t => some t) (Ev.bind h (Ev.now _)) (fun k => ?_)
    simp only [spec_l1Cut.l0]
    rw [if_neg (by omega)]
  | succ d ih =>
    intro j z hd hj hz hc hjy
    refine Ev.cut (f := fun k => spec_l1Cut.l0 k (z.set j.toNat false) (j + 1) x y) (ih (j + 1) _ (by omega) (by omega) (by simpa using hz) ?_ (by omega)) (fun k => ?_)
    · intro p hp
      rw [getD_set', hc p hp]
      by_cases e : p = j.toNat
      · rw [if_pos ⟨e, by omega⟩]
        have : inS x (j + 1) p = true := (inS_iff _ _ _).2 (by omega)
        rw [this]
        cases P p <;> rfl
      · rw [if_neg (fun h => e h.1)]
        have : inS x (j + 1) p = inS x j p := by
          rw [Bool.eq_iff_iff, inS_iff, inS_iff]
          omega
        rw [this]
    · simp only [spec_l1Cut.l0]
      rw [if_pos (by omega), if_pos (by omega), if_pos (by omega), wid (x := j + 1) (by omega) (by omega)]
theorem spec_l1Cut_is (L : List S29) (x y : Int) (hL : L.length < 4611686018427387904) (hx : 0 ≤ x) (hxy : x < y) (hy : y ≤ 48) : Ev (fun k => spec_l1Cut.f k L x y) (setL fun p => inL L p && !inS x y p) := by
  unfold spec_l1Cut.f
  refine Ev.bind (spec_l1Places_is L hL) (spec_l1Cut_l (inL L) x y hx hy (y - x).toNat x _ rfl (by omega) (chB_len _) (fun p hp => ?_) (by omega))
  rw [chB_get _ p hp]
  have : inS x x p = false := by
    rw [Bool.eq_false_iff]
    intro h
    have := (inS_iff _ _ _).1 h
    omega
  rw [this]
  cases inL L p <;> rfl
theorem spec_SpansCut_is (L : List S29) (x y : Int) (hL : L.length < 4611686018427387904) : Ev (fun k => spec_SpansCut.f k L x y) (cutL L x y) := by
  unfold spec_SpansCut.f
  obtain ⟨b, hb, hi⟩ := spec_SpansOk_is L hL
  refine Ev.bind hb ?_
  simp only [spec_SpanOk_is, Option.bind_some]
  have hbad : ∀ k, spec_SpansCut.j0 (k + 1) L true x y = some [] := fun k => by simp only [spec_SpansCut.j0]; rfl
  by_cases ho : SpsOk L
  · rw [SpsOk_b hi ho]
    simp only [if_true]
    cases hs : spOk x y with
    | false =>
      unfold cutL
      rw [if_neg (by rw [hs]; simp)]
      exact Ev.end_ (fun k => hbad k)
    | true =>
      unfold cutL
      rw [if_pos ⟨ho, hs⟩]
      have hs' := of_decide_eq_true hs
      have h1 := spec_l1Cut_is L x y hL hs'.1 hs'.2.1 hs'.2.2
      have hg := setL_GL fun p => inL L p && !inS x y p
      generalize (setL fun p => inL L p && !inS x y p) = M at h1 hg
      have hM : M.length < 4611686018427387904 := by have := GL_length hg; omega
      obtain ⟨c, hc, hci⟩ := spec_SpansOk_is M hM
      refine Ev.cut (f := fun k => (spec_l1Cut.f k L x y).bind fun t => (spec_SpansOk.f k t).bind fun u => if u = true then some t else some []) (Ev.bind h1 (Ev.bind hc (Ev.all fun k => ?_))) (fun k => ?_)
      · by_cases hm : M.length ≤ 12
        · rw [hci.2 ((SpsOk_iff M).2 ⟨hg, hm⟩)]
          unfold fewL
          rw [if_pos rfl, if_pos hm]
        · rw [SpsOk_nb hci (fun h => hm h.len)]
          unfold fewL
          rw [if_neg (by decide), if_neg hm]
      · simp only [spec_SpansCut.j0, Bool.not_true, Bool.false_eq_true, if_false]
  · rw [SpsOk_nb hi ho]
    simp only [Bool.false_eq_true, if_false]
    unfold cutL
    rw [if_neg (fun h => ho h.1)]
    exact Ev.end_ (fun k => hbad k)

theorem laws_wpIn_l (L : List S29) (hL : L.length < 4611686018427387904) (p : Nat) : ∀ (d i : Nat), i + d = L.length → Ev (fun k => laws_wpIn.l0 k L (p : Int) (i : Int)) (inL (L.drop i) p) := by
  intro d
  induction d with
  | zero =>
    intro i hi
    refine Ev.end_ (fun k => ?_)
    simp only [laws_wpIn.l0]
    rw [if_neg (by omega), List.drop_of_length_le (by omega)]
    rfl
  | succ d ih =>
    intro i hi
    have hlt : i < L.length := by omega
    have e : L.getD i z29 = L[i] := by rw [List.getD_eq_getElem?_getD, List.getElem?_eq_getElem hlt]; rfl
    rw [List.drop_eq_getElem_cons hlt, inL_cons, ← e]
    by_cases h0 : (L.getD i z29).f0 ≤ (p : Int)
    · by_cases h1 : (p : Int) < (L.getD i z29).f1
      · refine Ev.end_ (fun k => ?_)
        simp only [laws_wpIn.l0]
        rw [if_pos (by omega), if_pos (by omega), rdSpan_nat, if_pos (by omega), if_pos h1, decide_eq_true h0, decide_eq_true h1]
        rfl
      · rw [decide_eq_false h1, Bool.and_false, Bool.false_or]
        refine Ev.cut (f := fun k => laws_wpIn.l0 k L (p : Int) ((i + 1 : Nat) : Int)) (ih (i + 1) (by omega)) (fun k => ?_)
        simp only [laws_wpIn.l0]
        rw [if_pos (by omega), if_pos (by omega), rdSpan_nat, if_pos (by omega), if_neg h1, wsucc i (by omega)]
    · rw [decide_eq_false h0, Bool.false_and, Bool.false_or]
      refine Ev.cut (f := fun k => laws_wpIn.l0 k L (p : Int) ((i + 1 : Nat) : Int)) (ih (i + 1) (by omega)) (fun k => ?_)
      simp only [laws_wpIn.l0]
      rw [if_pos (by omega), if_pos (by omega), rdSpan_nat, if_neg (by omega), wsucc i (by omega)]
theorem laws_wpIn_is (L : List S29) (hL : L.length < 4611686018427387904) (p : Nat) : Ev (fun k => laws_wpIn.f k L (p : Int)) (inL L p) := by
  have h := laws_wpIn_l L hL p L.length 0 (by omega)
  simpa [laws_wpIn.f] using h

theorem l1Max_is (a b : Int) : spec_l1Max.f a b = some (mx a b) := by
  unfold spec_l1Max.f mx
  split <;> split <;> first | rfl | (congr 1; omega)

theorem l1Min_is (a b : Int) : spec_l1Min.f a b = some (mn a b) := by
  unfold spec_l1Min.f mn
  split <;> split <;> first | rfl | (congr 1; omega)

theorem GL_take : ∀ {L : List S29} {b : Int} (n : Nat), GL b L → GL b (L.take n)
  | [], _, _, _ => by simp [GL]
  | s :: l, b, 0, _ => trivial
  | s :: l, b, n + 1, h => ⟨h.1, h.2.1, h.2.2.1, GL_take n h.2.2.2⟩
theorem GL_drop : ∀ {L : List S29} {b : Int} (n : Nat), 0 ≤ b → GL b L → GL b (L.drop n)
  | [], _, _, _, _ => by simp [GL]
  | s :: l, b, 0, _, h => h
  | s :: l, b, n + 1, hb, h => GL_drop n hb (GL_mono h.2.2.2 (by have := h.1; have := h.2.1; omega))
theorem take_snoc (L : List S29) (i : Nat) (h : i < L.length) : L.take (i + 1) = L.take i ++ [L.getD i z29] := by
  rw [List.take_succ_eq_append_getElem h, List.getD_eq_getElem?_getD, List.getElem?_eq_getElem h]
  rfl
theorem GL_at {L : List S29} {b : Int} (h : GL b L) (i : Nat) (hi : i < L.length) : (∀ s ∈ L.take i, s.f1 < (L.getD i z29).f0) ∧ b ≤ (L.getD i z29).f0 ∧ (L.getD i z29).f0 < (L.getD i z29).f1 ∧ (L.getD i z29).f1 ≤ 48 := by
  have h1 := GL_take (i + 1) h
  rw [take_snoc L i hi] at h1
  exact (GL_snoc.1 h1).2
theorem inS_meet (a b x y : Int) (p : Nat) : (inS a b p && inS x y p) = inS (mx a x) (mn b y) p := by
  rw [Bool.eq_iff_iff, Bool.and_eq_true, inS_iff, inS_iff, inS_iff]
  unfold mx mn
  split <;> split <;> omega
theorem addL_ok (L : List S29) (x y : Int) : SpsOk (addL L x y) := by
  unfold addL
  split
  · exact fewL_ok (setL_GL _)
  · exact SpsOk.nil
theorem cutL_ok (L : List S29) (x y : Int) : SpsOk (cutL L x y) := by
  unfold cutL
  split
  · exact fewL_ok (setL_GL _)
  · exact SpsOk.nil
theorem metL_ok (L : List S29) (x y : Int) : SpsOk (metL L x y) := by
  unfold metL
  split
  · exact fewL_ok (setL_GL _)
  · exact SpsOk.nil

theorem wpSpans_l (L : List S29) (hL : L.length < 4611686018427387904) : ∀ (d i : Nat), i + d = L.length → Ev (fun k => laws_wpSpans.l0 k L L (i : Int)) true := by
  intro d
  induction d with
  | zero =>
    intro i hi
    refine Ev.end_ (fun k => ?_)
    simp only [laws_wpSpans.l0]
    rw [if_neg (by omega)]
  | succ d ih =>
    intro i hi
    refine Ev.cut (f := fun k => laws_wpSpans.l0 k L L ((i + 1 : Nat) : Int)) (ih (i + 1) (by omega)) (fun k => ?_)
    simp only [laws_wpSpans.l0]
    rw [if_pos (by omega), if_pos (by omega), if_pos (by omega), if_neg (by simp), wsucc i (by omega)]
theorem wpSpans_refl (L : List S29) (hL : L.length < 4611686018427387904) : Ev (fun k => laws_wpSpans.f k L L) true := by
  unfold laws_wpSpans.f
  simp only [if_true]
  exact wpSpans_l L hL L.length 0 (by omega)

/-! How many places. -/
def sumL (L : List S29) : Int := (L.map fun s => s.f1 - s.f0).sum
theorem sumL_cons (s : S29) (L : List S29) : sumL (s :: L) = s.f1 - s.f0 + sumL L := by simp [sumL]
theorem sumL_drop (L : List S29) (i : Nat) (h : i < L.length) : sumL (L.drop i) = (L.getD i z29).f1 - (L.getD i z29).f0 + sumL (L.drop (i + 1)) := by
  rw [List.drop_eq_getElem_cons h, sumL_cons, List.getD_eq_getElem?_getD, List.getElem?_eq_getElem h]
  rfl
open Classical in
noncomputable def manyL (L : List S29) : Int := if SpsOk L then sumL L else 0
theorem impl_SpansMany_l (L : List S29) (ho : SpsOk L) : ∀ (d i : Nat) (acc : Int), i + d = L.length → 0 ≤ acc → acc ≤ 48 * (i : Int) → Ev (fun k => impl_SpansMany.l0 k acc L (L.length : Int) (i : Int)) (acc + sumL (L.drop i)) := by
  have hL := ho.2
  intro d
  induction d with
  | zero =>
    intro i acc hi h0 h1
    refine Ev.end_ (fun k => ?_)
    simp only [impl_SpansMany.l0]
    rw [if_neg (by omega), List.drop_of_length_le (by omega)]
    simp [sumL]
  | succ d ih =>
    intro i acc hi h0 h1
    have hg := of_decide_eq_true (ho.1 i (by omega)).1
    have h := ih (i + 1) (acc + ((L.getD i z29).f1 - (L.getD i z29).f0)) (by omega) (by omega) (by omega)
    rw [sumL_drop L i (by omega)]
    rw [Int.add_assoc] at h
    refine Ev.cut (f := fun k => impl_SpansMany.l0 k (acc + ((L.getD i z29).f1 - (L.getD i z29).f0)) L (L.length : Int) ((i + 1 : Nat) : Int)) h (fun k => ?_)
    simp only [impl_SpansMany.l0]
    rw [if_pos (by omega), if_pos (by omega), if_pos (by omega), rdSpan_nat, wsucc i (by omega), wid (x := (L.getD i z29).f1 - (L.getD i z29).f0) (by omega) (by omega), wid (by omega) (by omega)]
theorem impl_SpansMany_is (L : List S29) (hL : L.length < 4611686018427387904) : Ev (fun k => impl_SpansMany.f k L) (manyL L) := by
  unfold impl_SpansMany.f
  obtain ⟨b, hb, hbi⟩ := impl_SpansOk_is L hL
  refine Ev.bind hb ?_
  unfold manyL
  by_cases ho : SpsOk L
  · obtain rfl : b = true := hbi.2 ho
    rw [if_pos ho]
    have h := impl_SpansMany_l L ho L.length 0 0 (by omega) (by omega) (by omega)
    simpa using h
  · rw [if_neg ho]
    have hb' : b = false := by
      cases b with
      | false => rfl
      | true => exact absurd (hbi.1 rfl) ho
    subst hb'
    exact Ev.all fun k => by simp

/-! How many places, how many ranges. -/
def cnt (P : Nat → Bool) : Nat := (List.range 48).countP P
theorem succ_if {a n : Nat} (e : ¬ n = a) : (if a < n + 1 then 1 else 0 : Nat) = (if a < n then 1 else 0) := by
  by_cases h : a < n
  · rw [if_pos h, if_pos (by omega)]
  · rw [if_neg h, if_neg (by omega)]
theorem countP_or_one (q : Nat → Bool) (a : Nat) (hq : q a = false) : ∀ n, (List.range n).countP (fun p => decide (p = a) || q p) = (List.range n).countP q + (if a < n then 1 else 0) := by
  intro n
  induction n with
  | zero => simp
  | succ n ih =>
    rw [List.range_succ, List.countP_append, List.countP_append, ih, List.countP_singleton, List.countP_singleton]
    by_cases e : n = a
    · subst e
      rw [hq]
      simp
    · rw [decide_eq_false e, Bool.false_or, succ_if e]
      omega
theorem countP_or_span (q : Nat → Bool) (x y : Nat) (hxy : x ≤ y) (hq : ∀ p, x ≤ p → p < y → q p = false) : ∀ n, (List.range n).countP (fun p => decide (x ≤ p ∧ p < y) || q p) = (List.range n).countP q + (min y n - min x n) := by
  intro n
  induction n with
  | zero => simp
  | succ n ih =>
    rw [List.range_succ, List.countP_append, List.countP_append, ih, List.countP_singleton, List.countP_singleton]
    by_cases h : x ≤ n ∧ n < y
    · rw [decide_eq_true h, hq n h.1 h.2]
      simp
      omega
    · rw [decide_eq_false h, Bool.false_or]
      omega
theorem countP_le_one (P Q : Nat → Bool) (a : Nat) : ∀ n, (∀ p, p < n → P p = true → Q p = true ∨ p = a) → (List.range n).countP P ≤ (List.range n).countP Q + (if a < n then 1 else 0) := by
  intro n
  induction n with
  | zero => intro _; simp
  | succ n ih =>
    intro h
    have h1 := ih (fun p hp => h p (by omega))
    have h2 := h n (by omega)
    rw [List.range_succ, List.countP_append, List.countP_append, List.countP_singleton, List.countP_singleton]
    by_cases e : n = a
    · subst e
      have e1 : (if n < n then 1 else 0 : Nat) = 0 := if_neg (by omega)
      have e2 : (if n < n + 1 then 1 else 0 : Nat) = 1 := if_pos (by omega)
      have e3 : (if P n = true then 1 else 0 : Nat) ≤ 1 := by split <;> omega
      rw [e1] at h1
      rw [e2]
      omega
    · have h3 : P n = true → Q n = true := fun hp => (h2 hp).resolve_right e
      have e3 : (if P n = true then 1 else 0 : Nat) ≤ (if Q n = true then 1 else 0) := by
        by_cases hp : P n = true
        · rw [if_pos hp, if_pos (h3 hp)]; omega
        · rw [if_neg hp]; omega
      rw [succ_if e]
      omega
theorem countP_split (P Q : Nat → Bool) : ∀ n, (List.range n).countP P = (List.range n).countP (fun p => P p && !Q p) + (List.range n).countP (fun p => P p && Q p) := by
  intro n
  induction n with
  | zero => simp
  | succ n ih =>
    rw [List.range_succ, List.countP_append, List.countP_append, List.countP_append, ih, List.countP_singleton, List.countP_singleton, List.countP_singleton]
    cases P n <;> cases Q n <;> simp <;> omega
theorem cnt_congr {P Q : Nat → Bool} (h : ∀ p, p < 48 → P p = Q p) : cnt P = cnt Q := by
  unfold cnt
  exact List.countP_congr (fun p hp => by rw [h p (List.mem_range.1 hp)])
theorem cnt_mono {P Q : Nat → Bool} (h : ∀ p, p < 48 → P p = true → Q p = true) : cnt P ≤ cnt Q := by
  unfold cnt
  exact List.countP_mono_left (fun p hp => h p (List.mem_range.1 hp))
theorem sumL_cnt : ∀ {L : List S29} {b : Int}, 0 ≤ b → GL b L → sumL L = (cnt (inL L) : Int)
  | [], _, _, _ => by
    have : cnt (inL ([] : List S29)) = 0 := by unfold cnt; rw [List.countP_eq_zero]; intro p _; simp [inL]
    rw [this]
    simp [sumL]
  | s :: l, b, hb, h => by
    obtain ⟨h1, h2, h3, h4⟩ := h
    have ih := sumL_cnt (L := l) (b := s.f1 + 1) (by omega) h4
    have e := countP_or_span (inL l) s.f0.toNat s.f1.toNat (by omega) (fun p hp hq => GL_out h4 (.inl (by omega))) 48
    have e2 : cnt (inL (s :: l)) = (List.range 48).countP (fun p => decide (s.f0.toNat ≤ p ∧ p < s.f1.toNat) || inL l p) := by
      unfold cnt
      refine List.countP_congr (fun p hp => ?_)
      rw [inL_cons]
      have : (decide (s.f0 ≤ (p : Int)) && decide ((p : Int) < s.f1)) = decide (s.f0.toNat ≤ p ∧ p < s.f1.toNat) := by
        rw [Bool.eq_iff_iff]
        simp only [Bool.and_eq_true, decide_eq_true_iff]
        omega
      rw [this]
    rw [sumL_cons, ih, e2, e]
    unfold cnt
    omega
theorem manyL_cnt {L : List S29} (ho : SpsOk L) : manyL L = (cnt (inL L) : Int) := by
  unfold manyL
  rw [if_pos ho]
  exact sumL_cnt (by omega) ho.gl
/-- Where a range begins. -/
def stL (L : List S29) (p : Nat) : Bool := inL L p && !(decide (0 < p) && inL L (p - 1))
theorem len_cnt : ∀ {L : List S29} {b : Int}, 0 ≤ b → GL b L → L.length = cnt (stL L)
  | [], _, _, _ => by
    have : cnt (stL ([] : List S29)) = 0 := by unfold cnt; rw [List.countP_eq_zero]; intro p _; simp [stL, inL]
    rw [this]
    rfl
  | s :: l, b, hb, h => by
    obtain ⟨h1, h2, h3, h4⟩ := h
    have ih := len_cnt (L := l) (b := s.f1 + 1) (by omega) h4
    have hout : ∀ p : Nat, (p : Int) < s.f1 + 1 → inL l p = false := fun p hp => GL_out h4 (.inl hp)
    have e := countP_or_one (stL l) s.f0.toNat (by unfold stL; rw [hout _ (by omega)]; rfl) 48
    rw [if_pos (by omega)] at e
    have e2 : cnt (stL (s :: l)) = (List.range 48).countP (fun p => decide (p = s.f0.toNat) || stL l p) := by
      unfold cnt
      refine List.countP_congr (fun p hp => ?_)
      have hi : ∀ q : Nat, inL (s :: l) q = (inS s.f0 s.f1 q || inL l q) := fun q => inL_cons s l q
      unfold stL
      rw [hi, hi]
      by_cases c1 : p = s.f0.toNat
      · have a1 : inS s.f0 s.f1 p = true := (inS_iff _ _ _).2 (by omega)
        have a2 : (decide (0 < p) && (inS s.f0 s.f1 (p - 1) || inL l (p - 1))) = false := by
          by_cases hp0 : 0 < p
          · have b1 : inS s.f0 s.f1 (p - 1) = false := by
              rw [Bool.eq_false_iff]; intro h; have := (inS_iff _ _ _).1 h; omega
            rw [b1, hout (p - 1) (by omega)]
            simp
          · rw [decide_eq_false hp0]; rfl
        rw [a1, a2, decide_eq_true c1]
        simp
      · rw [decide_eq_false c1]
        by_cases c2 : (p : Int) < s.f0
        · have a1 : inS s.f0 s.f1 p = false := by rw [Bool.eq_false_iff]; intro h; have := (inS_iff _ _ _).1 h; omega
          rw [a1, hout p (by omega)]
          simp
        · by_cases c3 : (p : Int) < s.f1
          · have a1 : inS s.f0 s.f1 p = true := (inS_iff _ _ _).2 (by omega)
            have a2 : inS s.f0 s.f1 (p - 1) = true := (inS_iff _ _ _).2 (by omega)
            rw [a1, a2, hout p (by omega), decide_eq_true (show 0 < p by omega)]
            simp
          · have a1 : inS s.f0 s.f1 p = false := by rw [Bool.eq_false_iff]; intro h; have := (inS_iff _ _ _).1 h; omega
            by_cases c4 : (p : Int) = s.f1
            · rw [a1, hout p (by omega)]
              simp
            · have a2 : inS s.f0 s.f1 (p - 1) = false := by rw [Bool.eq_false_iff]; intro h; have := (inS_iff _ _ _).1 h; omega
              rw [a1, a2]
              simp
    rw [e2, e, List.length_cons, ih]
    rfl
/-- With one range more, or less, there is at most one more. -/
theorem len_of {L M : List S29} (hL : GL 0 L) (hM : GL 0 M) (a : Nat) (h : ∀ p, p < 48 → stL M p = true → stL L p = true ∨ p = a) : M.length ≤ L.length + 1 := by
  rw [len_cnt (by omega) hL, len_cnt (by omega) hM]
  have := countP_le_one (stL M) (stL L) a 48 h
  unfold cnt
  split at this <;> omega
theorem st_iff (L : List S29) (p : Nat) : stL L p = true ↔ inL L p = true ∧ (p = 0 ∨ inL L (p - 1) = false) := by
  unfold stL
  rw [Bool.and_eq_true, Bool.not_eq_true', Bool.and_eq_false_iff]
  constructor
  · rintro ⟨h1, h2⟩
    refine ⟨h1, ?_⟩
    rcases h2 with h2 | h2
    · left; have := of_decide_eq_false h2; omega
    · right; exact h2
  · rintro ⟨h1, h2⟩
    refine ⟨h1, ?_⟩
    rcases h2 with h2 | h2
    · left; exact decide_eq_false (by omega)
    · right; exact h2
theorem add_len {L : List S29} (hL : GL 0 L) (x y : Int) : (setL fun p => inL L p || inS x y p).length ≤ L.length + 1 := by
  refine len_of hL (setL_GL _) x.toNat (fun p hp h => ?_)
  rw [st_iff, setL_in _ p hp] at h
  rw [st_iff]
  rcases (Bool.or_eq_true_iff).1 h.1 with h1 | h1
  · left
    refine ⟨h1, ?_⟩
    rcases h.2 with h2 | h2
    · exact .inl h2
    · rw [setL_in _ (p - 1) (by omega)] at h2
      exact .inr (by simp at h2; exact h2.1)
  · have h1' := (inS_iff _ _ _).1 h1
    by_cases e : p = x.toNat
    · exact .inr e
    · exfalso
      rcases h.2 with h2 | h2
      · omega
      · rw [setL_in _ (p - 1) (by omega), (inS_iff x y (p - 1)).2 (by omega)] at h2
        simp at h2
theorem cut_st {L : List S29} (x y : Int) (p : Nat) (hp : p < 48) (h : stL (setL fun p => inL L p && !inS x y p) p = true) : (stL L p && !inS x y p) = true ∨ p = y.toNat := by
  rw [st_iff, setL_in _ p hp, Bool.and_eq_true] at h
  by_cases e : p = y.toNat
  · exact .inr e
  · left
    rw [Bool.and_eq_true, st_iff]
    refine ⟨⟨h.1.1, ?_⟩, h.1.2⟩
    rcases h.2 with h2 | h2
    · exact .inl h2
    · right
      rw [setL_in _ (p - 1) (by omega)] at h2
      cases hq : inL L (p - 1) with
      | false => rfl
      | true =>
        rw [hq, Bool.true_and, Bool.not_eq_false'] at h2
        have h3 := (inS_iff _ _ _).1 h2
        have h4 : ¬ inS x y p = true := by have := h.1.2; intro h5; rw [h5] at this; cases this
        exact absurd ((inS_iff _ _ _).2 (by omega)) h4
theorem met_st {L : List S29} (x y : Int) (p : Nat) (hp : p < 48) (h : stL (setL fun p => inL L p && inS x y p) p = true) : (stL L p && inS x y p) = true ∨ p = x.toNat := by
  rw [st_iff, setL_in _ p hp, Bool.and_eq_true] at h
  by_cases e : p = x.toNat
  · exact .inr e
  · left
    rw [Bool.and_eq_true, st_iff]
    refine ⟨⟨h.1.1, ?_⟩, h.1.2⟩
    rcases h.2 with h2 | h2
    · exact .inl h2
    · right
      rw [setL_in _ (p - 1) (by omega)] at h2
      have h3 := (inS_iff _ _ _).1 h.1.2
      have h4 : inS x y (p - 1) = true := by
        by_cases hp0 : p = 0
        · subst hp0; exact h.1.2
        · exact (inS_iff _ _ _).2 (by omega)
      rw [h4, Bool.and_true] at h2
      exact h2
theorem cut_len {L : List S29} (hL : GL 0 L) (x y : Int) : (setL fun p => inL L p && !inS x y p).length ≤ L.length + 1 :=
  len_of hL (setL_GL _) y.toNat (fun p hp h => (cut_st x y p hp h).imp (fun h => (Bool.and_eq_true_iff.1 h).1) id)
theorem met_len {L : List S29} (hL : GL 0 L) (x y : Int) : (setL fun p => inL L p && inS x y p).length ≤ L.length + 1 :=
  len_of hL (setL_GL _) x.toNat (fun p hp h => (met_st x y p hp h).imp (fun h => (Bool.and_eq_true_iff.1 h).1) id)
theorem cut_met_len {L : List S29} (hL : GL 0 L) (x y : Int) : (setL fun p => inL L p && !inS x y p).length + (setL fun p => inL L p && inS x y p).length ≤ L.length + 2 := by
  rw [len_cnt (by omega) hL, len_cnt (by omega) (setL_GL _), len_cnt (by omega) (setL_GL fun p => inL L p && inS x y p)]
  have h1 := countP_le_one _ (fun p => stL L p && !inS x y p) y.toNat 48 (fun p hp h => cut_st x y p hp h)
  have h2 := countP_le_one _ (fun p => stL L p && inS x y p) x.toNat 48 (fun p hp h => met_st x y p hp h)
  have h3 := countP_split (stL L) (inS x y) 48
  unfold cnt
  split at h1 <;> split at h2 <;> omega

/-! What the laws need of sums, cuts and meets. -/
theorem fewL_id {M : List S29} (h : M.length ≤ 12) : fewL M = M := if_pos h
theorem fewL_big {M : List S29} (h : ¬ M.length ≤ 12) : fewL M = [] := if_neg h
theorem fewL_ne {M : List S29} (h : (fewL M).length ≠ 0) : fewL M = M := by
  unfold fewL at *
  split
  · rfl
  · rename_i hh
    rw [if_neg hh] at h
    exact absurd rfl h
theorem addL_on {L : List S29} {x y : Int} (ho : SpsOk L) (hs : spOk x y = true) : addL L x y = fewL (setL fun p => inL L p || inS x y p) := if_pos ⟨ho, hs⟩
theorem cutL_on {L : List S29} {x y : Int} (ho : SpsOk L) (hs : spOk x y = true) : cutL L x y = fewL (setL fun p => inL L p && !inS x y p) := if_pos ⟨ho, hs⟩
theorem metL_on {L : List S29} {x y : Int} (ho : SpsOk L) (hs : spOk x y = true) : metL L x y = fewL (setL fun p => inL L p && inS x y p) := if_pos ⟨ho, hs⟩
theorem haveL_on {L : List S29} {x y : Int} (ho : SpsOk L) (hs : spOk x y = true) : haveL L x y = (List.range 48).all fun p => !inS x y p || inL L p := if_pos ⟨ho, hs⟩
theorem addL_off {L : List S29} {x y : Int} (h : ¬ (SpsOk L ∧ spOk x y = true)) : addL L x y = [] := if_neg h
theorem cutL_off {L : List S29} {x y : Int} (h : ¬ (SpsOk L ∧ spOk x y = true)) : cutL L x y = [] := if_neg h
theorem metL_off {L : List S29} {x y : Int} (h : ¬ (SpsOk L ∧ spOk x y = true)) : metL L x y = [] := if_neg h
theorem haveL_off {L : List S29} {x y : Int} (h : ¬ (SpsOk L ∧ spOk x y = true)) : haveL L x y = false := if_neg h
theorem met_list (x y : Int) : ∀ {L : List S29} {b : Int}, GL b L → ∃ out : List S29, GL b out ∧ out.length ≤ L.length ∧ ∀ p, inL out p = (inL L p && inS x y p)
  | [], b, _ => ⟨[], trivial, Nat.le_refl _, fun p => rfl⟩
  | s :: l, b, h => by
    obtain ⟨h1, h2, h3, h4⟩ := h
    obtain ⟨out, g1, g2, g3⟩ := met_list x y h4
    have hin : ∀ p, inL (s :: l) p = (inS s.f0 s.f1 p || inL l p) := fun p => inL_cons s l p
    have hmx : s.f0 ≤ mx s.f0 x := by unfold mx; split <;> omega
    have hmn : mn s.f1 y ≤ s.f1 := by unfold mn; split <;> omega
    by_cases hm : mx s.f0 x < mn s.f1 y
    · refine ⟨⟨mx s.f0 x, mn s.f1 y⟩ :: out, ⟨by show b ≤ mx s.f0 x; omega, hm, by show mn s.f1 y ≤ 48; omega, GL_mono g1 (by show mn s.f1 y + 1 ≤ s.f1 + 1; omega)⟩, by simp; omega, fun p => ?_⟩
      rw [hin, Bool.and_or_distrib_right, inS_meet, ← g3]
      exact inL_cons _ _ p
    · refine ⟨out, GL_mono g1 (by omega), by simp; omega, fun p => ?_⟩
      rw [hin, Bool.and_or_distrib_right, inS_meet, g3]
      have : inS (mx s.f0 x) (mn s.f1 y) p = false := by
        rw [Bool.eq_false_iff]
        intro h
        have := (inS_iff _ _ _).1 h
        omega
      rw [this, Bool.false_or]
theorem met_len2 {L : List S29} (hL : GL 0 L) (x y : Int) : (setL fun p => inL L p && inS x y p).length ≤ L.length := by
  obtain ⟨out, h1, h2, h3⟩ := met_list x y hL
  rw [setL_eq h1 (fun p _ => h3 p)]
  exact h2
theorem metL_set {L : List S29} {x y : Int} (ho : SpsOk L) (hs : spOk x y = true) : metL L x y = setL fun p => inL L p && inS x y p := by
  rw [metL_on ho hs, fewL_id (by have := met_len2 ho.gl x y; have := ho.len; omega)]
theorem addL_set {L : List S29} {x y : Int} (ho : SpsOk L) (hs : spOk x y = true) (hl : L.length ≤ 11) : addL L x y = setL fun p => inL L p || inS x y p := by
  rw [addL_on ho hs, fewL_id (by have := add_len ho.gl x y; omega)]
theorem cutL_set {L : List S29} {x y : Int} (ho : SpsOk L) (hs : spOk x y = true) (hl : L.length ≤ 11) : cutL L x y = setL fun p => inL L p && !inS x y p := by
  rw [cutL_on ho hs, fewL_id (by have := cut_len ho.gl x y; omega)]
theorem cnt_le (P : Nat → Bool) : cnt P ≤ 48 := by
  unfold cnt
  have := List.countP_le_length (p := P) (l := List.range 48)
  simpa using this
theorem cnt_split (P Q : Nat → Bool) : cnt P = cnt (fun p => P p && !Q p) + cnt (fun p => P p && Q p) := countP_split P Q 48
theorem cnt_set (P : Nat → Bool) : cnt (inL (setL P)) = cnt P := cnt_congr (fun p hp => setL_in P p hp)
theorem cnt_nil : cnt (inL ([] : List S29)) = 0 := by unfold cnt; rw [List.countP_eq_zero]; intro p _; simp [inL]
theorem cnt_span {x y : Int} (hs : spOk x y = true) : (cnt (inS x y) : Int) = y - x := by
  have h := sumL_cnt (by omega) (SpsOk.one hs).gl
  rw [sumL_cons] at h
  have e : cnt (inL ([⟨x, y⟩] : List S29)) = cnt (inS x y) := cnt_congr (fun p _ => inL_one x y p)
  rw [e] at h
  rw [← h]
  simp [sumL]

/-! The reader of draws. -/
def RB (b : List Int) : Prop := b.length ≤ 2000 ∧ ∀ x ∈ b, 0 ≤ x ∧ x ≤ 255
theorem rd_byte {b : List Int} (hb : RB b) (i : Int) : 0 ≤ rd b i ∧ rd b i ≤ 255 := by
  unfold rd
  rw [List.getD_eq_getElem?_getD]
  cases e : b[i.toNat]? with
  | none => simp
  | some x => exact hb.2 x (List.mem_of_getElem? e)
theorem open_is (l : List Int) (hw : ∀ x ∈ l, (Lit.int .u8 x).wf = true) : ∃ b, spec_l10Open.f l = some (b, 0) ∧ RB b := by
  have h : ∀ x ∈ l, 0 ≤ x ∧ x ≤ 255 := fun x hx => bounds_u8 (hw x hx)
  unfold spec_l10Open.f
  by_cases hl : (l.length : Int) > 2000
  · rw [if_pos hl, if_pos (by omega)]
    exact ⟨_, rfl, by rw [List.length_take]; omega, fun x hx => h x (List.mem_of_mem_take hx)⟩
  · rw [if_neg hl]
    exact ⟨_, rfl, by omega, h⟩
theorem xor_nonneg (a b : Int) (ha0 : 0 ≤ a) (ha : a < 1152921504606846976) (hb0 : 0 ≤ b) (hb : b < 1152921504606846976) : 0 ≤ Go.bits .xor .i64 a b := by
  obtain ⟨m, rfl⟩ := Int.eq_ofNat_of_zero_le ha0
  obtain ⟨n, rfl⟩ := Int.eq_ofNat_of_zero_le hb0
  have hm : m < 2 ^ 60 := by omega
  have hn : n < 2 ^ 60 := by omega
  have hx : m ^^^ n < 2 ^ 60 := Nat.xor_lt_two_pow hm hn
  have hm' : m % 2 ^ IntKind.i64.bits = m := Nat.mod_eq_of_lt (show m < 2 ^ 64 by omega)
  have hn' : n % 2 ^ IntKind.i64.bits = n := Nat.mod_eq_of_lt (show n < 2 ^ 64 by omega)
  have e : Go.bits .xor .i64 (m : Int) (n : Int) = IntKind.i64.wrap ((m ^^^ n : Nat) : Int) := by
    simp only [bits, BitVec.ofInt_natCast, BitVec.toNat_xor, BitVec.toNat_ofNat, hm', hn']
  rw [e, IntKind.wrap_i64]
  omega
theorem pick_is {b : List Int} (hb : RB b) (p n : Int) (h0 : 0 ≤ p) (h1 : p ≤ 1099511627776) (hn1 : 1 ≤ n) : ∃ v, Ev (fun k => spec_l10Rd_pick.f k b p n) (v, p + 1) ∧ 0 ≤ v ∧ v < n := by
  have e1 : wrap64 (p + 1) = p + 1 := wid (by omega) (by omega)
  have e2 : wrap64 (p + 1 - 1) = p := by rw [show p + 1 - 1 = p by omega]; exact wid (by omega) (by omega)
  have hl := hb.1
  by_cases hz : (b.length : Int) = 0
  · refine ⟨0, Ev.end_ (fun k => ?_), by omega, by omega⟩
    unfold spec_l10Rd_pick.f
    rw [if_neg (by omega), e1]
    simp only [spec_l10Rd_pick.j0]
    rw [if_pos (by simpa using hz)]
  · by_cases hlt : p < (b.length : Int)
    · have hr := rd_byte hb p
      refine ⟨Int.tmod (rd b p) n, Ev.end_ (fun k => ?_), ?_, ?_⟩
      · unfold spec_l10Rd_pick.f
        rw [if_neg (by omega), e1]
        simp only [spec_l10Rd_pick.j0]
        rw [if_neg (by simpa using hz), e2, if_pos hlt, if_pos h0, if_neg (by omega), wid (by omega) (by omega)]
      · rw [Int.tmod_eq_emod_of_nonneg hr.1]; exact Int.emod_nonneg _ (by omega)
      · rw [Int.tmod_eq_emod_of_nonneg hr.1]; exact Int.emod_lt_of_pos _ (by omega)
    · have e3 : wrap64 (p * 7) = p * 7 := wid (by omega) (by omega)
      have e4 : wrap64 (p * 7 + 3) = p * 7 + 3 := wid (by omega) (by omega)
      have q0 : 0 ≤ p % (b.length : Int) := Int.emod_nonneg _ hz
      have q1 : p % (b.length : Int) < (b.length : Int) := Int.emod_lt_of_pos _ (by omega)
      have q2 : 0 ≤ (p * 7 + 3) % (b.length : Int) := Int.emod_nonneg _ hz
      have q3 : (p * 7 + 3) % (b.length : Int) < (b.length : Int) := Int.emod_lt_of_pos _ (by omega)
      have q4 : 0 ≤ p / (b.length : Int) := Int.ediv_nonneg h0 (by omega)
      have q5 : p / (b.length : Int) ≤ p := Int.ediv_le_self _ h0
      have r1 := rd_byte hb (p % (b.length : Int))
      have r2 := rd_byte hb ((p * 7 + 3) % (b.length : Int))
      obtain ⟨X, hX⟩ : ∃ X, X = rd b (p % (b.length : Int)) * 131 + rd b ((p * 7 + 3) % (b.length : Int)) * 1117 + p * 29 + p / (b.length : Int) * 53 := ⟨_, rfl⟩
      have x0 : 0 ≤ X := by omega
      have x1 : X < 1152921504606846976 := by omega
      have y := xor_nonneg X (X / 64) x0 x1 (by omega) (by omega)
      refine ⟨Int.tmod (Go.bits .xor .i64 X (X / 64)) n, Ev.end_ (fun k => ?_), ?_, ?_⟩
      · unfold spec_l10Rd_pick.f
        rw [if_neg (by omega), e1]
        simp only [spec_l10Rd_pick.j0]
        rw [if_neg (by simpa using hz), e2, if_neg hlt, if_neg hz, Int.tmod_eq_emod_of_nonneg h0, if_pos q0, if_pos q1, e3, e4, Int.tmod_eq_emod_of_nonneg (show 0 ≤ p * 7 + 3 by omega), if_pos q2, if_pos q3, if_neg (by omega), Int.tdiv_eq_ediv_of_nonneg h0,
          wid (x := rd b (p % (b.length : Int))) (by omega) (by omega), wid (x := rd b ((p * 7 + 3) % (b.length : Int))) (by omega) (by omega), wid (x := rd b (p % (b.length : Int)) * 131) (by omega) (by omega), wid (x := rd b ((p * 7 + 3) % (b.length : Int)) * 1117) (by omega) (by omega),
          wid (x := rd b (p % (b.length : Int)) * 131 + rd b ((p * 7 + 3) % (b.length : Int)) * 1117) (by omega) (by omega), wid (x := p * 29) (by omega) (by omega), wid (x := rd b (p % (b.length : Int)) * 131 + rd b ((p * 7 + 3) % (b.length : Int)) * 1117 + p * 29) (by omega) (by omega),
          wid (x := p / (b.length : Int)) (by omega) (by omega), wid (x := p / (b.length : Int) * 53) (by omega) (by omega), ← hX, wid (x := X) (by omega) (by omega), Int.tdiv_eq_ediv_of_nonneg x0, wid (x := X / 64) (by omega) (by omega)]
      · rw [Int.tmod_eq_emod_of_nonneg y]; exact Int.emod_nonneg _ (by omega)
      · rw [Int.tmod_eq_emod_of_nonneg y]; exact Int.emod_lt_of_pos _ (by omega)

/-! One of a list of numbers. -/
theorem rd_mem (l : List Int) (i : Int) (h0 : 0 ≤ i) (h1 : i < (l.length : Int)) : rd l i ∈ l := by
  unfold rd
  rw [List.getD_eq_getElem?_getD, List.getElem?_eq_getElem (by omega)]
  exact List.getElem_mem _
theorem num_is {b : List Int} (hb : RB b) (p : Int) (l : List Int) (h0 : 0 ≤ p) (h1 : p ≤ 1099511627776) (hn1 : 1 ≤ (l.length : Int)) : ∃ v, Ev (fun k => spec_l10Rd_num.f k b p l) (v, p + 1) ∧ v ∈ l := by
  obtain ⟨i, hi, i0, i1⟩ := pick_is hb p (l.length : Int) h0 h1 hn1
  refine ⟨rd l i, Ev.bind hi (Ev.all fun k => ?_), rd_mem l i i0 i1⟩
  rw [if_pos i0, if_pos i1]

/-! A range, drawn. -/
theorem l1Span_is {b : List Int} (hb : RB b) (p : Int) (h0 : 0 ≤ p) (h1 : p ≤ 1000000000000) : ∃ x y, Ev (fun k => spec_l1Span.f k b p) (x, y, p + 1 + 1) ∧ 0 ≤ x ∧ x < y ∧ y ≤ 48 := by
  obtain ⟨x, hx, x0, x1⟩ := pick_is hb p 47 h0 (by omega) (by omega)
  obtain ⟨v, hv, vm⟩ := num_is hb (p + 1) [0, 1, 3, 5, 9, 20, 47] (by omega) (by omega) (by simp)
  have hv2 : 0 ≤ v ∧ v ≤ 47 := by simp at vm; omega
  refine ⟨x, mn 48 (x + 1 + v), Ev.bind hx (Ev.bind hv (Ev.all fun k => ?_)), x0, ?_, ?_⟩
  · rw [wid (x := x + 1) (by omega) (by omega), wid (x := x + 1 + v) (by omega) (by omega), l1Min_is]
    rfl
  · unfold mn; split <;> omega
  · unfold mn; split <;> omega
theorem l1Some_is {b : List Int} (hb : RB b) (p : Int) (h0 : 0 ≤ p) (h1 : p ≤ 1000000000000) : ∃ x y, Ev (fun k => spec_l1Some.f k b p) (x, y, p + 1 + 1 + 1) := by
  obtain ⟨x, y, hx, _⟩ := l1Span_is hb p h0 h1
  obtain ⟨v, hv, v0, v1⟩ := pick_is hb (p + 1 + 1) 48 (by omega) (by omega) (by omega)
  by_cases c0 : v = 0
  · exact ⟨_, _, Ev.bind hx (Ev.bind hv (Ev.all fun k => by rw [if_pos c0]))⟩
  by_cases c1 : v = 1
  · exact ⟨_, _, Ev.bind hx (Ev.bind hv (Ev.all fun k => by rw [if_neg c0, if_pos c1]))⟩
  by_cases c2 : v = 2
  · exact ⟨_, _, Ev.bind hx (Ev.bind hv (Ev.all fun k => by rw [if_neg c0, if_neg c1, if_pos c2]))⟩
  by_cases c3 : v = 3
  · exact ⟨_, _, Ev.bind hx (Ev.bind hv (Ev.all fun k => by rw [if_neg c0, if_neg c1, if_neg c2, if_pos c3]))⟩
  · exact ⟨_, _, Ev.bind hx (Ev.bind hv (Ev.all fun k => by rw [if_neg c0, if_neg c1, if_neg c2, if_neg c3]))⟩

/-! Lists of ranges, drawn. -/
theorem l1List_l1 {b : List Int} (hb : RB b) : ∀ (d i : Nat) (M : List S29) (p : Int), i + d = 12 → M.length = i → 0 ≤ p → p + d + 100 ≤ 1000000 → ∃ L q, Ev (fun k => spec_l1List.l1 k M (i : Int) b p) (L, q) ∧ L.length ≤ 12 ∧ p ≤ q ∧ q ≤ p + d + 1 := by
  intro d
  induction d with
  | zero =>
    intro i M p hi hM h0 h1
    obtain ⟨v, hv, v0, v1⟩ := pick_is hb p 2 h0 (by omega) (by omega)
    refine ⟨M, p + 1, Ev.cut (f := fun k => (spec_l10Rd_pick.f k b p 2).bind fun t => if (i : Int) < wrap64 (12 - t.1) then (if M.length < 8796093022208 then spec_l1List.l1 k (M ++ [⟨wrap64 (3 * (i : Int)), wrap64 (wrap64 (3 * (i : Int)) + 1)⟩]) (wrap64 ((i : Int) + 1)) b t.2 else none) else some (M, t.2)) (Ev.bind hv (Ev.all fun k => ?_)) (fun k => by simp only [spec_l1List.l1]), by omega, by omega, by omega⟩
    rw [wid (x := 12 - v) (by omega) (by omega), if_neg (by omega)]
  | succ d ih =>
    intro i M p hi hM h0 h1
    obtain ⟨v, hv, v0, v1⟩ := pick_is hb p 2 h0 (by omega) (by omega)
    by_cases hlt : (i : Int) < 12 - v
    · obtain ⟨L, q, hL, h2, h3, h4⟩ := ih (i + 1) (M ++ [⟨wrap64 (3 * (i : Int)), wrap64 (wrap64 (3 * (i : Int)) + 1)⟩]) (p + 1) (by omega) (by simp [hM]) (by omega) (by omega)
      refine ⟨L, q, Ev.cut (f := fun k => (spec_l10Rd_pick.f k b p 2).bind fun t => if (i : Int) < wrap64 (12 - t.1) then (if M.length < 8796093022208 then spec_l1List.l1 k (M ++ [⟨wrap64 (3 * (i : Int)), wrap64 (wrap64 (3 * (i : Int)) + 1)⟩]) (wrap64 ((i : Int) + 1)) b t.2 else none) else some (M, t.2)) (Ev.bind hv ?_) (fun k => by simp only [spec_l1List.l1]), h2, by omega, by omega⟩
      simp only [wid (x := 12 - v) (by omega) (by omega), if_pos hlt, if_pos (show M.length < 8796093022208 by omega), wsucc i (by omega)]
      exact hL
    · refine ⟨M, p + 1, Ev.cut (f := fun k => (spec_l10Rd_pick.f k b p 2).bind fun t => if (i : Int) < wrap64 (12 - t.1) then (if M.length < 8796093022208 then spec_l1List.l1 k (M ++ [⟨wrap64 (3 * (i : Int)), wrap64 (wrap64 (3 * (i : Int)) + 1)⟩]) (wrap64 ((i : Int) + 1)) b t.2 else none) else some (M, t.2)) (Ev.bind hv (Ev.all fun k => ?_)) (fun k => by simp only [spec_l1List.l1]), by omega, by omega, by omega⟩
      rw [wid (x := 12 - v) (by omega) (by omega), if_neg hlt]
theorem l1List_l0 {b : List Int} (hb : RB b) : ∀ (d : Nat) (M : List S29) (p : Int), M.length ≤ 12 → 0 ≤ p → p + 5 * d + 200 ≤ 1000000 → ∃ L q, Ev (fun k => spec_l1List.l0 k M (d : Int) b p) (L, q) ∧ L.length ≤ 12 ∧ p ≤ q ∧ q ≤ p + 5 * d + 20 := by
  intro d
  induction d with
  | zero =>
    intro M p hM h0 h1
    obtain ⟨v, hv, v0, v1⟩ := pick_is hb p 10 h0 (by omega) (by omega)
    by_cases hz : v = 0
    · obtain ⟨L, q, hL, h2, h3, h4⟩ := l1List_l1 hb 12 0 [] (p + 1) (by omega) rfl (by omega) (by omega)
      refine ⟨L, q, Ev.cut (f := fun k => (spec_l10Rd_pick.f k b p 10).bind fun t => if t.1 = 0 then spec_l1List.l1 k [] 0 b t.2 else some (M, t.2)) (Ev.bind hv ?_) (fun k => ?_), h2, by omega, by omega⟩
      · simp only [if_pos hz]
        exact hL
      · simp only [spec_l1List.l0]
        rw [if_neg (by omega)]
    · refine ⟨M, p + 1, Ev.cut (f := fun k => (spec_l10Rd_pick.f k b p 10).bind fun t => if t.1 = 0 then spec_l1List.l1 k [] 0 b t.2 else some (M, t.2)) (Ev.bind hv (Ev.all fun k => ?_)) (fun k => ?_), hM, by omega, by omega⟩
      · rw [if_neg hz]
      · simp only [spec_l1List.l0]
        rw [if_neg (by omega)]
  | succ d ih =>
    intro M p hM h0 h1
    obtain ⟨x, y, hs, x0, xy, y1⟩ := l1Span_is hb p h0 (by omega)
    have ha := spec_l1Add_is M x y (by omega) x0 xy y1
    have hgl := GL_length (setL_GL fun p => inL M p || inS x y p)
    generalize (setL fun p => inL M p || inS x y p) = M1 at ha hgl
    obtain ⟨v, hv, v0, v1⟩ := pick_is hb (p + 1 + 1) 3 (by omega) (by omega) (by omega)
    have hw : wrap64 (((d + 1 : Nat) : Int) - 1) = (d : Int) := by rw [wid (by omega) (by omega)]; omega
    have hcut : ∀ {L q}, Ev (fun k => (spec_l1Span.f k b p).bind fun t => (spec_l1Add.f k M t.1 t.2.1).bind fun u => (spec_l10Rd_pick.f k b t.2.2 3).bind fun w => if w.1 = 0 then ((spec_l1Span.f k b w.2).bind fun z => (spec_l1Cut.f k u z.1 z.2.1).bind fun c => (spec_SpansOk.f k c).bind fun o => if o = true then spec_l1List.l0 k c (d : Int) b z.2.2 else spec_l1List.l0 k M (d : Int) b z.2.2) else ((spec_SpansOk.f k u).bind fun o => if o = true then spec_l1List.l0 k u (d : Int) b w.2 else spec_l1List.l0 k M (d : Int) b w.2)) (L, q) → Ev (fun k => spec_l1List.l0 k M ((d + 1 : Nat) : Int) b p) (L, q) := fun h => Ev.cut h (fun k => by
      simp only [spec_l1List.l0, hw]
      rw [if_pos (by omega)])
    by_cases hz : v = 0
    · obtain ⟨x', y', hs', x0', xy', y1'⟩ := l1Span_is hb (p + 1 + 1 + 1) (by omega) (by omega)
      have hc := spec_l1Cut_is M1 x' y' (by omega) x0' xy' y1'
      have hgl2 := GL_length (setL_GL fun p => inL M1 p && !inS x' y' p)
      generalize (setL fun p => inL M1 p && !inS x' y' p) = M2 at hc hgl2
      obtain ⟨o, ho, hoi⟩ := spec_SpansOk_is M2 (by omega)
      cases o with
      | true =>
        obtain ⟨L, q, hL, h2, h3, h4⟩ := ih M2 (p + 1 + 1 + 1 + 1 + 1) (hoi.1 rfl).len (by omega) (by omega)
        refine ⟨L, q, hcut (Ev.bind hs (Ev.bind ha (Ev.bind hv ?_))), h2, by omega, by omega⟩
        simp only [if_pos hz]
        exact Ev.bind hs' (Ev.bind hc (Ev.bind ho hL))
      | false =>
        obtain ⟨L, q, hL, h2, h3, h4⟩ := ih M (p + 1 + 1 + 1 + 1 + 1) hM (by omega) (by omega)
        refine ⟨L, q, hcut (Ev.bind hs (Ev.bind ha (Ev.bind hv ?_))), h2, by omega, by omega⟩
        simp only [if_pos hz]
        exact Ev.bind hs' (Ev.bind hc (Ev.bind ho (by simpa using hL)))
    · obtain ⟨o, ho, hoi⟩ := spec_SpansOk_is M1 (by omega)
      cases o with
      | true =>
        obtain ⟨L, q, hL, h2, h3, h4⟩ := ih M1 (p + 1 + 1 + 1) (hoi.1 rfl).len (by omega) (by omega)
        refine ⟨L, q, hcut (Ev.bind hs (Ev.bind ha (Ev.bind hv ?_))), h2, by omega, by omega⟩
        simp only [if_neg hz]
        exact Ev.bind ho hL
      | false =>
        obtain ⟨L, q, hL, h2, h3, h4⟩ := ih M (p + 1 + 1 + 1) hM (by omega) (by omega)
        refine ⟨L, q, hcut (Ev.bind hs (Ev.bind ha (Ev.bind hv ?_))), h2, by omega, by omega⟩
        simp only [if_neg hz]
        exact Ev.bind ho (by simpa using hL)
theorem l1List_is {b : List Int} (hb : RB b) (p : Int) (h0 : 0 ≤ p) (h1 : p ≤ 100000) : ∃ L q, Ev (fun k => spec_l1List.f k b p) (L, q) ∧ L.length ≤ 12 ∧ p ≤ q ∧ q ≤ p + 100 := by
  obtain ⟨v, hv, vm⟩ := num_is hb p [1, 2, 3, 5, 0, 9] h0 (by omega) (by simp)
  have hv2 : 0 ≤ v ∧ v ≤ 9 := by simp at vm; omega
  obtain ⟨L, q, hL, h2, h3, h4⟩ := l1List_l0 hb v.toNat [] (p + 1) (by simp) (by omega) (by omega)
  rw [Int.toNat_of_nonneg hv2.1] at hL
  exact ⟨L, q, Ev.bind hv hL, h2, by omega, by omega⟩
theorem l1Lists_l0 {b : List Int} (n : Int) (p : Int) (hn : 1 ≤ n) (hn2 : n ≤ 12) : ∀ (d : Nat) (M : List S29), M.length + d = 13 → n ≤ (M.length : Int) → ∃ L, Ev (fun k => spec_l1Lists.l0 k M n b p) (L, p) ∧ L.length ≤ 13 := by
  intro d
  induction d with
  | zero =>
    intro M hM hnM
    refine ⟨M, Ev.end_ (fun k => ?_), by omega⟩
    simp only [spec_l1Lists.l0]
    rw [if_neg (by omega)]
  | succ d ih =>
    intro M hM hnM
    obtain ⟨L, hL, h2⟩ := ih (M ++ [⟨(rd_T29 M (n - 1)).f0, (rd_T29 M (n - 1)).f1⟩]) (by simp; omega) (by simp; omega)
    refine ⟨L, Ev.cut hL (fun k => ?_), h2⟩
    simp only [spec_l1Lists.l0]
    rw [if_pos (by omega), wid (x := n - 1) (by omega) (by omega), if_pos (by omega), if_pos (by omega), if_pos (by omega)]
theorem l1Lists_is {b : List Int} (hb : RB b) (p : Int) (h0 : 0 ≤ p) (h1 : p ≤ 100000) : ∃ L q, Ev (fun k => spec_l1Lists.f k b p) (L, q) ∧ L.length ≤ 13 ∧ p ≤ q ∧ q ≤ p + 200 := by
  obtain ⟨M, q, hM, h2, h3, h4⟩ := l1List_is hb p h0 h1
  unfold spec_l1Lists.f
  by_cases hz : (M.length : Int) = 0
  · refine ⟨M, q, Ev.bind hM ?_, by omega, by omega, by omega⟩
    simp only [if_pos hz]
    exact Ev.end_ (fun k => by simp only [spec_l1Lists.j0, if_true])
  · obtain ⟨v, hv, v0, v1⟩ := pick_is hb q 8 (by omega) (by omega) (by omega)
    by_cases hv0 : v > 0
    · refine ⟨M, q + 1, Ev.bind hM ?_, by omega, by omega, by omega⟩
      simp only [if_neg hz]
      refine Ev.bind hv ?_
      simp only [decide_eq_true hv0]
      exact Ev.end_ (fun k => by simp only [spec_l1Lists.j0, if_true])
    · obtain ⟨j, hj, j0, j1⟩ := pick_is hb (q + 1) (M.length : Int) (by omega) (by omega) (by omega)
      obtain ⟨c, hc, c0, c1⟩ := pick_is hb (q + 1 + 1) 4 (by omega) (by omega) (by omega)
      obtain ⟨x, y, hxy⟩ := l1Some_is hb (q + 1 + 1 + 1) (by omega) (by omega)
      obtain ⟨L, hL, hL2⟩ := l1Lists_l0 (b := b) (M.length : Int) (q + 1 + 1 + 1) (by omega) (by omega) (13 - M.length) M (by omega) (by omega)
      have hgo : ∀ {R}, Ev (fun k => (spec_l10Rd_pick.f k b (q + 1) (M.length : Int)).bind fun bt465 => ((spec_l10Rd_pick.f k b bt465.2 4).bind fun bt467 => (if bt467.1 = 0 then ((spec_l1Some.f k b bt467.2).bind fun bt469 => (if 0 ≤ bt465.1 then (if bt465.1 < (M.length : Int) then (some ((M.set (bt465.1 : Int).toNat (⟨bt469.1, bt469.2.1⟩ : S29)), bt469.2.2)) else (none)) else (none))) else (if bt467.1 = 1 then (if 0 ≤ bt465.1 then (if bt465.1 < (M.length : Int) then (if M.length < 8796093022208 then (some ((M ++ [(⟨(rd_T29 M bt465.1).f0, (rd_T29 M bt465.1).f1⟩ : S29)]), bt467.2)) else (none)) else (none)) else (none)) else (if bt467.1 = 2 then (if 0 ≤ bt465.1 then (if bt465.1 < (M.length : Int) then (some ((M.set (bt465.1 : Int).toNat (⟨(rd_T29 M bt465.1).f0, wrap64 (((rd_T29 M bt465.1).f1) + 1)⟩ : S29)), bt467.2)) else (none)) else (none)) else (spec_l1Lists.l0 k M (M.length : Int) b bt467.2)))))) R → Ev (fun k => (spec_l1List.f k b p).bind fun bt459 => (if (bt459.1.length : Int) = 0 then (spec_l1Lists.j0 k bt459.1 (bt459.1.length : Int) true b bt459.2) else ((spec_l10Rd_pick.f k b bt459.2 8).bind fun bt463 => (spec_l1Lists.j0 k bt459.1 (bt459.1.length : Int) (decide (bt463.1 > 0)) b bt463.2)))) R := fun h => by
        refine Ev.bind hM ?_
        simp only [if_neg hz]
        refine Ev.bind hv ?_
        simp only [decide_eq_false hv0]
        exact Ev.cut h (fun k => by simp only [spec_l1Lists.j0, Bool.false_eq_true, if_false])
      by_cases e0 : c = 0
      · refine ⟨M.set j.toNat ⟨x, y⟩, q + 1 + 1 + 1 + 1 + 1 + 1, hgo (Ev.bind hj (Ev.bind hc ?_)), ?_⟩
        · simp only [if_pos e0]
          exact Ev.bind hxy (Ev.all fun k => by rw [if_pos j0, if_pos j1])
        · exact ⟨by simp; omega, by show p ≤ q + 1 + 1 + 1 + 1 + 1 + 1; omega, by show q + 1 + 1 + 1 + 1 + 1 + 1 ≤ _; omega⟩
      by_cases e1 : c = 1
      · refine ⟨M ++ [⟨(rd_T29 M j).f0, (rd_T29 M j).f1⟩], q + 1 + 1 + 1, hgo (Ev.bind hj (Ev.bind hc (Ev.all fun k => by rw [if_neg e0, if_pos e1, if_pos j0, if_pos j1, if_pos (by omega)]))), ?_⟩
        exact ⟨by simp; omega, by show p ≤ q + 1 + 1 + 1; omega, by show q + 1 + 1 + 1 ≤ _; omega⟩
      by_cases e2 : c = 2
      · refine ⟨M.set j.toNat ⟨(rd_T29 M j).f0, wrap64 ((rd_T29 M j).f1 + 1)⟩, q + 1 + 1 + 1, hgo (Ev.bind hj (Ev.bind hc (Ev.all fun k => by rw [if_neg e0, if_neg e1, if_pos e2, if_pos j0, if_pos j1]))), ?_⟩
        exact ⟨by simp; omega, by show p ≤ q + 1 + 1 + 1; omega, by show q + 1 + 1 + 1 ≤ _; omega⟩
      · refine ⟨L, q + 1 + 1 + 1, hgo (Ev.bind hj (Ev.bind hc ?_)), hL2, by omega, by omega⟩
        simp only [if_neg e0, if_neg e1, if_neg e2]
        exact hL
theorem l1Both_is (l : List Int) (hw : ∀ x ∈ l, (Lit.int .u8 x).wf = true) : ∃ L x y, Ev (fun k => spec_l1Both.f k l) (L, x, y) ∧ L.length ≤ 13 := by
  obtain ⟨b, hbe, hb⟩ := open_is l hw
  obtain ⟨L, q, hL, h2, h3, h4⟩ := l1Lists_is hb 0 (by omega) (by omega)
  obtain ⟨x, y, hxy⟩ := l1Some_is hb q (by omega) (by omega)
  refine ⟨L, x, y, ?_, h2⟩
  unfold spec_l1Both.f
  simp only [hbe, Option.bind_some]
  exact Ev.bind hL (Ev.bind hxy (Ev.now _))

theorem cut_loop (L X : List S29) (x y : Int) (hL : L.length < 100) (hX : X.length < 100) (hin : X.length ≠ 0 → ∀ p, p < 48 → inL X p = (inL L p && !inS x y p))
    (hend : Ev (fun k => (impl_SpansMeet.f k X x y).bind fun t735 => (if (t735.length : Int) = 0 then ((impl_SpansMany.f k X).bind fun t738 => ((impl_SpansMany.f k L).bind fun t739 => (some (decide (t738 ≤ t739))))) else (some false))) true) :
    ∀ (d i : Nat), i + d = 48 → Ev (fun k => laws_FnSpansCut.l0 k L X (i : Int) x y) true := by
  intro d
  induction d with
  | zero =>
    intro i hi
    refine Ev.cut hend (fun k => ?_)
    simp only [laws_FnSpansCut.l0]
    rw [if_neg (by omega)]
  | succ d ih =>
    intro i hi
    have h := ih (i + 1) (by omega)
    by_cases h0 : (X.length : Int) > 0
    · have h1 := laws_wpIn_is X (by omega) i
      have h2 := laws_wpIn_is L (by omega) i
      have e := hin (by omega) i (by omega)
      refine Ev.cut (f := fun k => (laws_wpIn.f k X (i : Int)).bind fun t740 => ((laws_wpIn.f k L (i : Int)).bind fun t741 => (if t741 = true then (if (i : Int) < x then (if (t740 != true) = true then (some false) else (laws_FnSpansCut.l0 k L X ((i + 1 : Nat) : Int) x y)) else (if (t740 != (decide ((i : Int) ≥ y))) = true then (some false) else (laws_FnSpansCut.l0 k L X ((i + 1 : Nat) : Int) x y))) else (if (t740 != false) = true then (some false) else (laws_FnSpansCut.l0 k L X ((i + 1 : Nat) : Int) x y))))) (Ev.bind h1 (Ev.bind h2 ?_)) (fun k => ?_)
      · cases hq : inL L i with
        | false =>
          rw [hq, Bool.false_and] at e
          simp only [e, Bool.false_eq_true, if_false, bne_self_eq_false]
          exact h
        | true =>
          rw [hq, Bool.true_and] at e
          simp only [if_true]
          by_cases hx : (i : Int) < x
          · have e2 : inL X i = true := by rw [e]; unfold inS; rw [decide_eq_false (by omega)]; rfl
            simp only [if_pos hx, e2, bne_self_eq_false, Bool.false_eq_true, if_false]
            exact h
          · have e2 : inL X i = decide ((i : Int) ≥ y) := by
              rw [e]
              unfold inS
              rw [decide_eq_true (show x ≤ (i : Int) by omega), Bool.true_and, ← decide_not]
              exact decide_eq_decide.2 (by omega)
            simp only [if_neg hx, e2, bne_self_eq_false, Bool.false_eq_true, if_false]
            exact h
      · simp only [laws_FnSpansCut.l0]
        rw [if_pos (by omega), if_pos h0, wsucc i (by omega)]
    · refine Ev.cut h (fun k => ?_)
      simp only [laws_FnSpansCut.l0]
      rw [if_pos (by omega), if_neg h0, wsucc i (by omega)]
theorem cutL_in {L : List S29} {x y : Int} (ho : SpsOk L) (hs : spOk x y = true) (p : Nat) (hp : p < 48) : inL (cutL L x y) p = true → (inL L p && !inS x y p) = true := by
  rw [cutL_on ho hs]
  unfold fewL
  split
  · rw [setL_in _ p hp]; exact id
  · intro h; simp [inL] at h
theorem cut_end (L : List S29) (x y : Int) (ho : SpsOk L) (hs : spOk x y = true) : Ev (fun k => (impl_SpansMeet.f k (cutL L x y) x y).bind fun t735 => (if (t735.length : Int) = 0 then ((impl_SpansMany.f k (cutL L x y)).bind fun t738 => ((impl_SpansMany.f k L).bind fun t739 => (some (decide (t738 ≤ t739))))) else (some false))) true := by
  have hXo := cutL_ok L x y
  have hl := ho.len
  have hXl := hXo.len
  have h1 := impl_SpansMeet_is (cutL L x y) x y (by omega)
  have e : metL (cutL L x y) x y = [] := by
    rw [metL_set hXo hs]
    refine setL_eq trivial (fun p hp => ?_)
    rw [inL_nil]
    cases hq : inL (cutL L x y) p with
    | false => rfl
    | true =>
      have := cutL_in ho hs p hp hq
      rw [Bool.and_eq_true, Bool.not_eq_true'] at this
      rw [this.2]
      rfl
  rw [e] at h1
  refine Ev.bind h1 ?_
  simp only [List.length_nil, if_pos (show ((0 : Nat) : Int) = 0 from rfl)]
  refine Ev.bind (impl_SpansMany_is _ (by omega)) (Ev.bind (impl_SpansMany_is L (by omega)) (Ev.all fun k => ?_))
  rw [manyL_cnt ho, manyL_cnt hXo]
  have := cnt_mono (P := inL (cutL L x y)) (Q := inL L) (fun p hp h => by
    have := cutL_in ho hs p hp h
    rw [Bool.and_eq_true] at this
    exact this.1)
  rw [decide_eq_true (by omega)]

theorem FnSpansCut (l0 : List Int) (hm0 : l0.length ≤ maxLen) (hw0 : ∀ x ∈ l0, (Lit.int .u8 x).wf = true) : ∃ k, laws_FnSpansCut.f k l0 = some true := by
  have hw := hw0
  by_cases h : (l0.length : Int) > 1048576
  · exact ⟨0, by unfold laws_FnSpansCut.f; rw [if_pos h]⟩
  refine Ev.rounds (r := true) (g := fun k => laws_FnSpansCut.f k l0) ?_
  unfold laws_FnSpansCut.f
  simp only [if_neg h]
  obtain ⟨L, x, y, hd, hl⟩ := l1Both_is l0 hw
  have hXo := cutL_ok L x y
  have hXl := hXo.len
  obtain ⟨b1, hb1, hi1⟩ := impl_SpansOk_is (cutL L x y) (by omega)
  obtain ⟨b2, hb2, hi2⟩ := spec_SpansOk_is L (by omega)
  refine Ev.bind (Ev.bind hd (Ev.now _)) (Ev.bind (impl_SpansCut_is L x y (by omega)) (Ev.bind (spec_SpansCut_is L x y (by omega)) (Ev.bind (wpSpans_refl _ (by omega)) ?_)))
  simp only [if_true]
  rw [hi1.2 hXo] at hb1
  refine Ev.bind hb1 ?_
  refine Ev.step (fun k => by simp only [laws_FnSpansCut.j0, Bool.not_true, Bool.false_eq_true, if_false]; rfl) ?_
  refine Ev.bind hb2 ?_
  have hbad : cutL L x y = [] → Ev (fun k => laws_FnSpansCut.j1 k L (cutL L x y) true x y) true := fun e => Ev.end_ (fun k => by simp only [laws_FnSpansCut.j1, if_true, e]; rfl)
  by_cases ho : SpsOk L
  · rw [SpsOk_b hi2 ho]
    simp only [if_true, spec_SpanOk_is, Option.bind_some]
    cases hs : spOk x y with
    | false => exact hbad (cutL_off (by rw [hs]; simp))
    | true =>
      refine Ev.step (fun k => by simp only [laws_FnSpansCut.j1, Bool.not_true, Bool.false_eq_true, if_false]; rfl) ?_
      refine cut_loop L (cutL L x y) x y (by omega) (by omega) (fun hne p hp => ?_) (cut_end L x y ho hs) 48 0 (by omega)
      rw [cutL_on ho hs] at hne ⊢
      rw [fewL_ne hne, setL_in _ p hp]
  · rw [SpsOk_nb hi2 ho]
    simp only [Bool.false_eq_true, if_false]
    exact hbad (cutL_off (fun h => ho h.1))

end Go.Proofs.Ytmplfidfckkmhaa.Pure
