/- The law FnExactSpansMeet over numbers and lists, as the program's text computes it: it answers true. Conditions: the arguments are of their kinds, lengths fit. -/
import Derived.Test.YtmplfidfckkmhaaQx20
import Derived.OpenShut
import Derived.Laws.Strings
namespace Go.Proofs.Ytmplfidfckkmhaa.Pure
open Go.RowKit Go.Proofs.Ytmplfidfckkmhaa.Q Go.Proofs.YtmplfidfckkmhaaW.PrintWords Go.Proofs.YtmplfidfckkmhaaW.PrintLast
set_option linter.unusedVariables false
set_option linter.unusedSimpArgs false

/-! Words for the pure side: strings as lists of bytes, counters as natural numbers, what is answered from some round on. -/
def B (s : ByteArray) : List UInt8 := s.data.toList
theorem B_size (s : ByteArray) : s.size = (B s).length := (Array.length_toList).symm
theorem B_toList (s : ByteArray) : s.toList = B s := Go.ByteArray.toList_eq s
theorem B_inj {s t : ByteArray} (h : B s = B t) : s = t := by
  cases s; cases t
  simp only [B] at h
  congr 1
  exact Array.ext' h
theorem B_app (s t : ByteArray) : B (s ++ t) = B s ++ B t := by simp [B, ByteArray.data_append]
theorem app_size (s t : ByteArray) : (s ++ t).size = s.size + t.size := by rw [B_size, B_app, List.length_append, ← B_size, ← B_size]
theorem B_ext (s : ByteArray) (i j : Nat) : B (s.extract i j) = ((B s).take j).drop i := by
  simp [B, ByteArray.data_extract, List.extract_eq_take_drop, List.drop_take]
theorem B_nil : B (⟨#[]⟩ : ByteArray) = [] := rfl
theorem bt_B (s : ByteArray) (i : Nat) (h : i < (B s).length) : bt s (i : Int) = (((B s)[i]'h).toNat : Int) := by
  have h' : (i : Int).toNat < s.size := by rw [B_size]; simpa using h
  unfold bt
  rw [dif_pos h']
  rfl
theorem wsucc (i : Nat) (h : i < 4611686018427387904) : wrap64 ((i : Int) + 1) = ((i + 1 : Nat) : Int) := by unfold wrap64; omega
theorem wpred (i : Nat) (h : i < 4611686018427387904) (h0 : 0 < i) : wrap64 ((i : Int) - 1) = ((i - 1 : Nat) : Int) := by unfold wrap64; omega
theorem wid {x : Int} (h0 : -9223372036854775808 ≤ x) (h1 : x ≤ 9223372036854775807) : wrap64 x = x := by unfold wrap64; omega
theorem Ev.cut {α : Type} {g f : Nat → Option α} {r : α} (k : Ev f r) (h : ∀ k, g (k + 1) = f k) : Ev g r := Ev.step h k
theorem Ev.end_ {α : Type} {g : Nat → Option α} {r : α} (h : ∀ k, g (k + 1) = some r) : Ev g r := Ev.step h (Ev.now r)
theorem Ev.all {α : Type} {g : Nat → Option α} {r : α} (h : ∀ k, g k = some r) : Ev g r := ⟨0, fun k _ => h k⟩
theorem Ev.uniq {α : Type} {g : Nat → Option α} {r q : α} (h : Ev g r) (h' : Ev g q) : r = q := by
  obtain ⟨K, h⟩ := h
  obtain ⟨K', h'⟩ := h'
  have h1 := h (max K K') (by omega)
  rw [h' (max K K') (by omega)] at h1
  exact (Option.some.inj h1).symm
theorem dec_eq {p q : Prop} [Decidable p] [Decidable q] (h : p ↔ q) : (some (decide p) : Option Bool) = some (decide q) := by rw [decide_eq_decide.2 h]
theorem dec_false {q : Prop} [Decidable q] (h : ¬ q) : (some false : Option Bool) = some (decide q) := by rw [decide_eq_false h]
theorem dec_true {q : Prop} [Decidable q] (h : q) : (some true : Option Bool) = some (decide q) := by rw [decide_eq_true h]

/-! Ranges, valid. -/
def spOk (a b : Int) : Bool := decide (0 ≤ a ∧ a < b ∧ b ≤ 48)
theorem spec_SpanOk_is (a b : Int) : spec_SpanOk.f a b = some (spOk a b) := by
  unfold spec_SpanOk.f spOk
  repeat' split
  all_goals first | exact dec_eq (by omega) | exact dec_false (by omega)
theorem impl_SpanOk_is (a b : Int) : impl_SpanOk.f a b = some (spOk a b) := by
  unfold impl_SpanOk.f spOk
  repeat' split
  all_goals first | exact dec_eq (by omega) | exact dec_false (by omega)

/-! Lists of ranges, valid. -/
theorem rdSpan_nat (L : List S29) (i : Nat) : rd_T29 L (i : Int) = L.getD i z29 := rfl
def SpsGood (L : List S29) (i : Nat) : Prop := spOk (L.getD i z29).f0 (L.getD i z29).f1 = true ∧ (0 < i → (L.getD (i - 1) z29).f1 < (L.getD i z29).f0)
def SpsOk (L : List S29) : Prop := (∀ j, j < L.length → SpsGood L j) ∧ L.length ≤ 12
theorem good_iff {L : List S29} {i : Nat} (h : SpsGood L i) : (∀ j, i ≤ j → j < L.length → SpsGood L j) ↔ (∀ j, i + 1 ≤ j → j < L.length → SpsGood L j) :=
  ⟨fun g j h1 h2 => g j (by omega) h2, fun g j h1 h2 => if e : j = i then e ▸ h else g j (by omega) h2⟩
theorem spec_SpansOk_l (L : List S29) (hL : L.length < 4611686018427387904) : ∀ (d i : Nat), i + d = L.length →
    ∃ b, Ev (fun k => spec_SpansOk.l0 k L (i : Int)) b ∧ (b = true ↔ (∀ j, i ≤ j → j < L.length → SpsGood L j) ∧ L.length ≤ 12) := by
  intro d
  induction d with
  | zero =>
    intro i hi
    refine ⟨decide ((L.length : Int) ≤ 12), Ev.end_ (fun k => ?_), ?_⟩
    · simp only [spec_SpansOk.l0]
      rw [if_neg (by omega)]
    · rw [decide_eq_true_iff]
      exact ⟨fun h => ⟨fun j h1 h2 => by omega, by omega⟩, fun h => by omega⟩
  | succ d ih =>
    intro i hi
    by_cases hg : SpsGood L i
    · obtain ⟨b, hb, hiff⟩ := ih (i + 1) (by omega)
      refine ⟨b, Ev.cut (f := fun k => spec_SpansOk.l0 k L ((i + 1 : Nat) : Int)) hb (fun k => ?_), by rw [hiff, good_iff hg]⟩
      simp only [spec_SpansOk.l0]
      rw [if_pos (by omega), if_pos (by omega), rdSpan_nat, spec_SpanOk_is, hg.1]
      simp only [Option.bind_some, if_true]
      rw [wsucc i (by omega)]
      by_cases hi0 : 0 < i
      · have := hg.2 hi0
        rw [if_pos (by omega), wpred i (by omega) hi0, if_pos (by omega), if_pos (by omega), rdSpan_nat, if_neg (by omega)]
      · rw [if_neg (by omega)]
    · refine ⟨false, Ev.end_ (fun k => ?_), ⟨nofun, fun h => absurd (h.1 i (Nat.le_refl _) (by omega)) hg⟩⟩
      simp only [spec_SpansOk.l0]
      rw [if_pos (by omega), if_pos (by omega), rdSpan_nat, spec_SpanOk_is]
      cases hs : spOk (L.getD i z29).f0 (L.getD i z29).f1 with
      | false => simp
      | true =>
        simp only [Option.bind_some, if_true]
        by_cases hi0 : 0 < i
        · rw [if_pos (by omega), wpred i (by omega) hi0, if_pos (by omega), if_pos (by omega), rdSpan_nat, if_pos]
          have : ¬ (L.getD (i - 1) z29).f1 < (L.getD i z29).f0 := fun h => hg ⟨hs, fun _ => h⟩
          omega
        · exact absurd ⟨hs, fun h => absurd h hi0⟩ hg
theorem spec_SpansOk_is (L : List S29) (hL : L.length < 4611686018427387904) : ∃ b, Ev (fun k => spec_SpansOk.f k L) b ∧ (b = true ↔ SpsOk L) := by
  obtain ⟨b, hb, hi⟩ := spec_SpansOk_l L hL L.length 0 (by omega)
  exact ⟨b, hb, by rw [hi]; exact ⟨fun h => ⟨fun j => h.1 j (by omega), h.2⟩, fun h => ⟨fun j _ => h.1 j, h.2⟩⟩⟩
theorem impl_SpansOk_l (L : List S29) (hL : L.length < 4611686018427387904) : ∀ (d i : Nat), i + d = L.length →
    ∃ b, Ev (fun k => impl_SpansOk.l0 k L L (L.length : Int) (i : Int)) b ∧ (b = true ↔ (∀ j, i ≤ j → j < L.length → SpsGood L j) ∧ L.length ≤ 12) := by
  intro d
  induction d with
  | zero =>
    intro i hi
    refine ⟨decide ((L.length : Int) ≤ 12), Ev.end_ (fun k => ?_), ?_⟩
    · simp only [impl_SpansOk.l0]
      rw [if_neg (by omega)]
    · rw [decide_eq_true_iff]
      exact ⟨fun h => ⟨fun j h1 h2 => by omega, by omega⟩, fun h => by omega⟩
  | succ d ih =>
    intro i hi
    by_cases hg : SpsGood L i
    · obtain ⟨b, hb, hiff⟩ := ih (i + 1) (by omega)
      refine ⟨b, Ev.cut (f := fun k => impl_SpansOk.l0 k L L (L.length : Int) ((i + 1 : Nat) : Int)) hb (fun k => ?_), by rw [hiff, good_iff hg]⟩
      simp only [impl_SpansOk.l0]
      rw [if_pos (by omega), if_pos (by omega), if_pos (by omega), rdSpan_nat, impl_SpanOk_is, hg.1]
      simp only [Option.bind_some, if_true]
      rw [wsucc i (by omega)]
      by_cases hi0 : 0 < i
      · have := hg.2 hi0
        rw [if_pos (by omega), wpred i (by omega) hi0, if_pos (by omega), if_pos (by omega), rdSpan_nat, if_neg (by omega)]
      · rw [if_neg (by omega)]
    · refine ⟨false, Ev.end_ (fun k => ?_), ⟨nofun, fun h => absurd (h.1 i (Nat.le_refl _) (by omega)) hg⟩⟩
      simp only [impl_SpansOk.l0]
      rw [if_pos (by omega), if_pos (by omega), if_pos (by omega), rdSpan_nat, impl_SpanOk_is]
      cases hs : spOk (L.getD i z29).f0 (L.getD i z29).f1 with
      | false => simp
      | true =>
        simp only [Option.bind_some, if_true]
        by_cases hi0 : 0 < i
        · rw [if_pos (by omega), wpred i (by omega) hi0, if_pos (by omega), if_pos (by omega), rdSpan_nat, if_pos]
          have : ¬ (L.getD (i - 1) z29).f1 < (L.getD i z29).f0 := fun h => hg ⟨hs, fun _ => h⟩
          omega
        · exact absurd ⟨hs, fun h => absurd h hi0⟩ hg
theorem impl_SpansOk_is (L : List S29) (hL : L.length < 4611686018427387904) : ∃ b, Ev (fun k => impl_SpansOk.f k L) b ∧ (b = true ↔ SpsOk L) := by
  obtain ⟨b, hb, hi⟩ := impl_SpansOk_l L hL L.length 0 (by omega)
  exact ⟨b, hb, by rw [hi]; exact ⟨fun h => ⟨fun j => h.1 j (by omega), h.2⟩, fun h => ⟨fun j _ => h.1 j, h.2⟩⟩⟩

/-! A list of ranges, copied and compared. -/
def spConv (x : S24) : S29 := ⟨x.f0, x.f1⟩
theorem rdLSpan_nat (L : List S24) (i : Nat) : rd_T24 L (i : Int) = L.getD i z24 := rfl
theorem laws_toSpanS_l (L : List S24) (hL : L.length < 4611686018427387904) : ∀ (d i : Nat) (M : List S29), i + d = L.length → M.length = L.length → (∀ j, j < i → M[j]? = (L.map spConv)[j]?) →
    Ev (fun k => laws_toSpanS.l0 k L M (i : Int)) (L.map spConv) := by
  intro d
  induction d with
  | zero =>
    intro i M hi hM hj
    have : M = L.map spConv := by
      apply List.ext_getElem?
      intro j
      by_cases h : j < i
      · exact hj j h
      · rw [List.getElem?_eq_none (by omega), List.getElem?_eq_none (by simp; omega)]
    refine Ev.end_ (fun k => ?_)
    simp only [laws_toSpanS.l0]
    rw [if_neg (by omega), this]
  | succ d ih =>
    intro i M hi hM hj
    have hlt : i < L.length := by omega
    refine Ev.cut (f := fun k => laws_toSpanS.l0 k L (M.set i (spConv (L.getD i z24))) ((i + 1 : Nat) : Int)) (ih (i + 1) _ (by omega) (by simpa using hM) ?_) (fun k => ?_)
    · intro j hj'
      by_cases e : j = i
      · subst e
        rw [List.getElem?_set_self (by omega), List.getElem?_map, List.getD_eq_getElem?_getD, List.getElem?_eq_getElem hlt]
        rfl
      · rw [List.getElem?_set_ne (Ne.symm e)]
        exact hj j (by omega)
    · simp only [laws_toSpanS.l0]
      rw [if_pos (by omega), if_pos (by omega), rdLSpan_nat]
      simp only [laws_toSpan.f, Option.bind_some]
      rw [if_pos (by omega), wsucc i (by omega)]
      rfl
theorem laws_toSpanS_is (L : List S24) (hL : L.length ≤ 17592186044416) : Ev (fun k => laws_toSpanS.f k L) (L.map spConv) := by
  unfold laws_toSpanS.f
  simp only [if_pos (show (0 : Int) ≤ (L.length : Int) by omega), if_pos (show (L.length : Int).toNat ≤ 17592186044416 by omega)]
  exact laws_toSpanS_l L (by omega) L.length 0 _ (by omega) (by simp) (fun j h => by omega)
theorem laws_eqSpanS_l (L : List S29) (hL : L.length < 4611686018427387904) : ∀ (d i : Nat), i + d = L.length → Ev (fun k => laws_eqSpanS.l0 k L L (i : Int)) true := by
  intro d
  induction d with
  | zero =>
    intro i hi
    refine Ev.end_ (fun k => ?_)
    simp only [laws_eqSpanS.l0]
    rw [if_neg (by omega)]
  | succ d ih =>
    intro i hi
    refine Ev.cut (f := fun k => laws_eqSpanS.l0 k L L ((i + 1 : Nat) : Int)) (ih (i + 1) (by omega)) (fun k => ?_)
    simp only [laws_eqSpanS.l0]
    rw [if_pos (by omega), if_pos (by omega), if_pos (by omega), wsucc i (by omega)]
    simp [laws_eqSpan.f]
theorem laws_eqSpanS_refl (L : List S29) (hL : L.length < 4611686018427387904) : Ev (fun k => laws_eqSpanS.f k L L) true := by
  unfold laws_eqSpanS.f
  simp only [if_true]
  exact laws_eqSpanS_l L hL L.length 0 (by omega)
theorem laws_szSpanS_is (L : List S24) (hL : L.length ≤ maxLen) : laws_szSpanS.f L 1048576 = some (if (L.length : Int) ≤ 1048576 then 1048576 - (L.length : Int) else -1) := by
  have hm : maxLen = 9223372036854775807 := rfl
  unfold laws_szSpanS.f
  rw [wid (by omega) (by omega)]
  split <;> split <;> first | rfl | (exfalso; omega)

/-! Sets of places as lists of 48 truth values, and the ranges of one. -/
theorem getD_set' (z : List Bool) (i p : Nat) (b : Bool) : (z.set i b).getD p false = if p = i ∧ i < z.length then b else z.getD p false := by
  rw [List.getD_eq_getElem?_getD, List.getD_eq_getElem?_getD, List.getElem?_set]
  by_cases h : i = p
  · subst h
    by_cases hl : i < z.length
    · simp [hl]
    · simp [hl]
  · rw [if_neg h, if_neg (fun hh => h hh.1.symm)]
def chB (P : Nat → Bool) : List Bool := (List.range 48).map P
theorem chB_len (P : Nat → Bool) : (chB P).length = 48 := by simp [chB]
theorem chB_get (P : Nat → Bool) (i : Nat) (h : i < 48) : (chB P).getD i false = P i := by
  rw [List.getD_eq_getElem?_getD]
  simp [chB, h]
theorem ext48 {x y : List Bool} (hx : x.length = 48) (hy : y.length = 48) (h : ∀ p, p < 48 → x.getD p false = y.getD p false) : x = y := by
  apply List.ext_getElem (by omega)
  intro i h1 h2
  have := h i (by omega)
  simpa [h1, h2] using this
def inL (L : List S29) (p : Nat) : Bool := L.any fun s => decide (s.f0 ≤ (p : Int)) && decide ((p : Int) < s.f1)
theorem inL_cons (s : S29) (L : List S29) (p : Nat) : inL (s :: L) p = (decide (s.f0 ≤ (p : Int)) && decide ((p : Int) < s.f1) || inL L p) := by simp [inL]
theorem inL_app (L M : List S29) (p : Nat) : inL (L ++ M) p = (inL L p || inL M p) := by simp [inL]
theorem inL_nil (p : Nat) : inL ([] : List S29) p = false := rfl
theorem inL_iff (L : List S29) (p : Nat) : inL L p = true ↔ ∃ s ∈ L, s.f0 ≤ (p : Int) ∧ (p : Int) < s.f1 := by simp [inL]
/-! Ranges in their order, each behind a gap. -/
def GL : Int → List S29 → Prop
  | _, [] => True
  | b, s :: l => b ≤ s.f0 ∧ s.f0 < s.f1 ∧ s.f1 ≤ 48 ∧ GL (s.f1 + 1) l
theorem GL_mono : ∀ {L : List S29} {b c : Int}, GL b L → c ≤ b → GL c L
  | [], _, _, _, _ => trivial
  | _ :: _, _, _, h, hc => ⟨by have := h.1; omega, h.2⟩
theorem GL_low : ∀ {L : List S29} {b : Int}, GL b L → ∀ s ∈ L, b ≤ s.f0 ∧ s.f0 < s.f1 ∧ s.f1 ≤ 48
  | [], _, _, _, hs => by simp at hs
  | t :: l, b, h, s, hs => by
    rcases List.mem_cons.1 hs with rfl | hs
    · exact ⟨h.1, h.2.1, h.2.2.1⟩
    · have := GL_low h.2.2.2 s hs
      have := h.1; have := h.2.1
      exact ⟨by omega, by omega, by omega⟩
theorem GL_in {L : List S29} {b : Int} (h : GL b L) {p : Nat} (hp : inL L p = true) : b ≤ (p : Int) ∧ p < 48 := by
  obtain ⟨s, hs, h0, h1⟩ := (inL_iff L p).1 hp
  have := GL_low h s hs
  omega
theorem GL_out {L : List S29} {b : Int} (h : GL b L) {p : Nat} (hp : (p : Int) < b ∨ 48 ≤ p) : inL L p = false := by
  cases hq : inL L p with
  | false => rfl
  | true => have := GL_in h hq; omega
/-- What tells the places tells the ranges. -/
theorem GL_uniq : ∀ {L M : List S29} {b c : Int}, 0 ≤ b → 0 ≤ c → GL b L → GL c M → (∀ p, p < 48 → inL L p = inL M p) → L = M
  | [], [], _, _, _, _, _, _, _ => rfl
  | [], t :: m, b, c, h0, h0', h, h', e => by
    have := h'.1; have := h'.2.1; have := h'.2.2.1
    have ep := e t.f0.toNat (by omega)
    rw [inL_nil, inL_cons, decide_eq_true (show t.f0 ≤ (t.f0.toNat : Int) by omega), decide_eq_true (show (t.f0.toNat : Int) < t.f1 by omega)] at ep
    simp at ep
  | s :: l, [], b, c, h0, h0', h, h', e => by
    have := h.1; have := h.2.1; have := h.2.2.1
    have ep := e s.f0.toNat (by omega)
    rw [inL_nil, inL_cons, decide_eq_true (show s.f0 ≤ (s.f0.toNat : Int) by omega), decide_eq_true (show (s.f0.toNat : Int) < s.f1 by omega)] at ep
    simp at ep
  | s :: l, t :: m, b, c, h0, h0', h, h', e => by
    obtain ⟨a1, a2, a3, a4⟩ := h
    obtain ⟨b1, b2, b3, b4⟩ := h'
    have key : ∀ (p : Nat), p < 48 → ((s.f0 ≤ (p : Int) ∧ (p : Int) < s.f1) ∨ inL l p = true ↔ (t.f0 ≤ (p : Int) ∧ (p : Int) < t.f1) ∨ inL m p = true) := by
      intro p hp
      have ep := e p hp
      rw [inL_cons, inL_cons] at ep
      have := Bool.eq_iff_iff.1 ep
      simpa using this
    have hl : ∀ (p : Nat), (p : Int) < s.f1 + 1 → ¬ inL l p = true := fun p hp hq => by have := GL_in a4 hq; omega
    have hm : ∀ (p : Nat), (p : Int) < t.f1 + 1 → ¬ inL m p = true := fun p hp hq => by have := GL_in b4 hq; omega
    have e0 : s.f0 = t.f0 := by
      by_cases h1 : s.f0 < t.f0
      · have := (key s.f0.toNat (by omega)).1 (.inl (by omega))
        rcases this with h | h
        · omega
        · exact absurd h (hm _ (by omega))
      · by_cases h2 : t.f0 < s.f0
        · have := (key t.f0.toNat (by omega)).2 (.inl (by omega))
          rcases this with h | h
          · omega
          · exact absurd h (hl _ (by omega))
        · omega
    have e1 : s.f1 = t.f1 := by
      by_cases h1 : s.f1 < t.f1
      · have := (key s.f1.toNat (by omega)).2 (.inl (by omega))
        rcases this with h | h
        · omega
        · exact absurd h (hl _ (by omega))
      · by_cases h2 : t.f1 < s.f1
        · have := (key t.f1.toNat (by omega)).1 (.inl (by omega))
          rcases this with h | h
          · omega
          · exact absurd h (hm _ (by omega))
        · omega
    have est : s = t := by
      cases s; cases t
      simp only at e0 e1
      subst e0; subst e1
      rfl
    subst est
    have el : l = m := GL_uniq (by omega) (by omega) a4 b4 (by
      intro p hp
      by_cases hps : (p : Int) < s.f1 + 1
      · rw [GL_out a4 (.inl hps), GL_out b4 (.inl hps)]
      · have := key p hp
        rw [Bool.eq_iff_iff]
        constructor
        · intro h
          rcases this.1 (.inr h) with h | h
          · omega
          · exact h
        · intro h
          rcases this.2 (.inr h) with h | h
          · omega
          · exact h)
    rw [el]
/-! The list at the places' end: one more, or the last one longer. -/
theorem GL_snoc : ∀ {L : List S29} {b : Int} {t : S29}, GL b (L ++ [t]) ↔ GL b L ∧ (∀ s ∈ L, s.f1 < t.f0) ∧ b ≤ t.f0 ∧ t.f0 < t.f1 ∧ t.f1 ≤ 48
  | [], b, t => by simp [GL]
  | s :: l, b, t => by
    simp only [List.cons_append, GL]
    rw [GL_snoc (L := l)]
    constructor
    · rintro ⟨h1, h2, h3, h4, h5, h6, h7, h8⟩
      refine ⟨⟨h1, h2, h3, h4⟩, ?_, by omega, h7, h8⟩
      intro x hx
      rcases List.mem_cons.1 hx with rfl | hx
      · omega
      · exact h5 x hx
    · rintro ⟨⟨h1, h2, h3, h4⟩, h5, h6, h7, h8⟩
      exact ⟨h1, h2, h3, h4, fun x hx => h5 x (List.mem_cons_of_mem _ hx), by have := h5 s (by simp); omega, h7, h8⟩
theorem GL_iff : ∀ {L : List S29} {b : Int}, 0 ≤ b → (GL b L ↔ (∀ j, j < L.length → SpsGood L j) ∧ ∀ s, L[0]? = some s → b ≤ s.f0)
  | [], b, _ => by simp [GL]
  | s :: l, b, hb => by
    simp only [GL]
    constructor
    · rintro ⟨h1, h2, h3, h4⟩
      have ih := (GL_iff (L := l) (b := s.f1 + 1) (by omega)).1 h4
      refine ⟨fun j hj => ?_, fun t ht => by simp at ht; subst ht; exact h1⟩
      cases j with
      | zero => exact ⟨decide_eq_true ⟨by show 0 ≤ s.f0; omega, h2, h3⟩, fun h => absurd h (by omega)⟩
      | succ j =>
        have hjl : j < l.length := by simpa using hj
        have g := ih.1 j hjl
        refine ⟨g.1, fun _ => ?_⟩
        cases j with
        | zero =>
          have := ih.2 (l.getD 0 z29) (by rw [List.getD_eq_getElem?_getD, List.getElem?_eq_getElem hjl]; rfl)
          show s.f1 < (l.getD 0 z29).f0
          omega
        | succ i => exact g.2 (by omega)
    · rintro ⟨h1, h2⟩
      have g0 : 0 ≤ s.f0 ∧ s.f0 < s.f1 ∧ s.f1 ≤ 48 := of_decide_eq_true (h1 0 (by simp)).1
      have e0 : b ≤ s.f0 := h2 s rfl
      refine ⟨e0, g0.2.1, g0.2.2, (GL_iff (L := l) (b := s.f1 + 1) (by omega)).2 ⟨fun j hj => ?_, fun t ht => ?_⟩⟩
      · have g := h1 (j + 1) (by simp; omega)
        refine ⟨g.1, fun hj0 => ?_⟩
        have g2 := g.2 (by omega)
        cases j with
        | zero => omega
        | succ i => exact g2
      · have hl : 0 < l.length := by
          cases l with
          | nil => simp at ht
          | cons x l => simp
        have g2 := (h1 1 (by simp; omega)).2 (by omega)
        have et : l.getD 0 z29 = t := by rw [List.getD_eq_getElem?_getD, ht]; rfl
        have g3 : s.f1 < (l.getD 0 z29).f0 := g2
        rw [et] at g3
        omega
theorem SpsOk_iff (L : List S29) : SpsOk L ↔ GL 0 L ∧ L.length ≤ 12 := by
  unfold SpsOk
  rw [GL_iff (by omega)]
  constructor
  · rintro ⟨h1, h2⟩
    refine ⟨⟨h1, fun s hs => ?_⟩, h2⟩
    have hl : 0 < L.length := by
      cases L with
      | nil => simp at hs
      | cons x l => simp
    have g := of_decide_eq_true (h1 0 hl).1
    have e : L.getD 0 z29 = s := by rw [List.getD_eq_getElem?_getD, hs]; rfl
    rw [e] at g
    exact g.1
  · rintro ⟨⟨h1, _⟩, h2⟩
    exact ⟨h1, h2⟩

/-! The program's own loops over places. -/
theorem meetR_get (y : List Bool) (p : Nat) (hp : p < 48) : ∀ (d i : Nat) (z : List Bool), z.length = 48 → i + d = 48 → (meetR y d z i).getD p false = if i ≤ p then z.getD p false && y.getD p false else z.getD p false
  | 0, i, z, hz, hi => by
    rw [meetR, if_neg (by omega)]
  | d + 1, i, z, hz, hi => by
    rw [meetR, meetR_get y p hp d (i + 1) _ (by simp [hz]) (by omega), getD_set']
    by_cases hpi : p = i
    · subst hpi
      rw [if_neg (by omega), if_pos ⟨rfl, by omega⟩, if_pos (Nat.le_refl _)]
    · rw [if_neg (show ¬ (p = i ∧ i < z.length) from fun h => hpi h.1)]
      by_cases hle : i ≤ p
      · rw [if_pos hle, if_pos (by omega)]
      · rw [if_neg hle, if_neg (by omega)]
theorem fillR_get (p : Nat) : ∀ (d i : Nat) (z : List Bool), z.length = 48 → i + d ≤ 48 → (fillR d z i).getD p false = (decide (i ≤ p ∧ p < i + d) || z.getD p false)
  | 0, i, z, hz, hi => by
    rw [fillR, decide_eq_false (by omega)]
    rfl
  | d + 1, i, z, hz, hi => by
    rw [fillR, fillR_get p d (i + 1) _ (by simp [hz]) (by omega), getD_set']
    by_cases hpi : p = i
    · subst hpi
      rw [if_pos ⟨rfl, by omega⟩, decide_eq_true (show p ≤ p ∧ p < p + (d + 1) by omega)]
      simp
    · rw [if_neg (show ¬ (p = i ∧ i < z.length) from fun h => hpi h.1)]
      congr 1
      exact decide_eq_decide.2 (by omega)
theorem ofR_get (p : Nat) : ∀ (L : List S29) (z : List Bool), z.length = 48 → (∀ s ∈ L, 0 ≤ s.f0 ∧ s.f1 ≤ 48) → (ofR L z).getD p false = (z.getD p false || inL L p)
  | [], z, hz, _ => by simp [ofR, inL]
  | s :: l, z, hz, h => by
    have hs := h s (by simp)
    rw [ofR]
    by_cases hlt : s.f0 < s.f1
    · rw [ofR_get p l _ (by rw [fillR_len]; exact hz) (fun t ht => h t (by simp [ht])), fillR_get p _ _ _ hz (by omega), inL_cons]
      have e : decide (s.f0.toNat ≤ p ∧ p < s.f0.toNat + (s.f1 - s.f0).toNat) = (decide (s.f0 ≤ (p : Int)) && decide ((p : Int) < s.f1)) := by
        rw [Bool.eq_iff_iff]
        simp only [decide_eq_true_iff, Bool.and_eq_true]
        omega
      rw [e]
      cases z.getD p false <;> cases inL l p <;> simp
    · have e0 : (s.f1 - s.f0).toNat = 0 := by omega
      rw [e0]
      show (ofR l z).getD p false = _
      rw [ofR_get p l _ hz (fun t ht => h t (by simp [ht])), inL_cons]
      have e : (decide (s.f0 ≤ (p : Int)) && decide ((p : Int) < s.f1)) = false := by
        rw [Bool.eq_false_iff]
        simp only [ne_eq, Bool.and_eq_true, decide_eq_true_iff]
        omega
      rw [e]
      simp
/-! The ranges of a list of places. -/
theorem runR_spec (x : List Bool) : ∀ (d i : Nat), 48 < i + d → i ≤ 48 → i ≤ runR x d i ∧ runR x d i ≤ 48 ∧ (∀ p, i ≤ p → p < runR x d i → x.getD p false = true) ∧ (runR x d i < 48 → x.getD (runR x d i) false = false)
  | 0, i, h, hi => by omega
  | d + 1, i, h, hi => by
    by_cases h48 : i < 48
    · cases hx : x.getD i false with
      | true =>
        have e : runR x (d + 1) i = runR x d (i + 1) := by rw [runR, if_pos h48, if_pos hx]
        rw [e]
        obtain ⟨h1, h2, h3, h4⟩ := runR_spec x d (i + 1) (by omega) (by omega)
        refine ⟨by omega, h2, fun p hp hq => ?_, h4⟩
        by_cases e : p = i
        · rw [e]; exact hx
        · exact h3 p (by omega) hq
      | false =>
        have e : runR x (d + 1) i = i := by rw [runR, if_pos h48, hx]; rfl
        rw [e]
        exact ⟨by omega, by omega, fun p hp hq => by omega, fun _ => hx⟩
    · have e : runR x (d + 1) i = i := by rw [runR, if_neg h48]
      rw [e]
      exact ⟨by omega, by omega, fun p hp hq => by omega, fun _ => by omega⟩
theorem spansR_spec (x : List Bool) : ∀ (d i : Nat) (out : List S29), 48 < i + d → ∃ R, spansR x d i out = out ++ R ∧ GL (i : Int) R ∧ ∀ p, p < 48 → inL R p = (decide (i ≤ p) && x.getD p false)
  | 0, i, out, h => ⟨[], by simp [spansR], trivial, fun p hp => by rw [decide_eq_false (by omega)]; rfl⟩
  | d + 1, i, out, h => by
    by_cases h48 : i < 48
    · cases hx : x.getD i false with
      | true =>
        obtain ⟨h1, h2, h3, h4⟩ := runR_spec x 49 i (by omega) (by omega)
        have hgt : i < runR x 49 i := by
          rcases Nat.lt_or_eq_of_le h1 with hh | hh
          · exact hh
          · have := h4 (by omega)
            rw [← hh, hx] at this
            cases this
        have e : spansR x (d + 1) i out = spansR x d (runR x 49 i + 1) (out ++ [⟨(i : Int), (runR x 49 i : Int)⟩]) := by rw [spansR, if_pos h48, if_pos hx]
        generalize runR x 49 i = e1 at h1 h2 h3 h4 hgt e
        obtain ⟨R, hR1, hR2, hR3⟩ := spansR_spec x d (e1 + 1) (out ++ [⟨(i : Int), (e1 : Int)⟩]) (by omega)
        refine ⟨⟨(i : Int), (e1 : Int)⟩ :: R, by rw [e, hR1]; simp, ⟨by show (i : Int) ≤ (i : Int); omega, by show (i : Int) < (e1 : Int); omega, by show (e1 : Int) ≤ 48; omega, by simpa using hR2⟩, fun p hp => ?_⟩
        rw [inL_cons, hR3 p hp, Bool.eq_iff_iff]
        simp only [Bool.or_eq_true, Bool.and_eq_true, decide_eq_true_iff]
        constructor
        · rintro (⟨q1, q2⟩ | ⟨q1, q2⟩)
          · exact ⟨by omega, h3 p (by omega) (by omega)⟩
          · exact ⟨by omega, q2⟩
        · rintro ⟨q1, q2⟩
          by_cases hpe : p < e1
          · exact .inl ⟨by omega, by omega⟩
          · refine .inr ⟨?_, q2⟩
            by_cases hpe2 : p = e1
            · have := h4 (by omega)
              rw [← hpe2, q2] at this
              cases this
            · omega
      | false =>
        have e : spansR x (d + 1) i out = spansR x d (i + 1) out := by rw [spansR, if_pos h48, hx]; rfl
        obtain ⟨R, hR1, hR2, hR3⟩ := spansR_spec x d (i + 1) out (by omega)
        refine ⟨R, by rw [e, hR1], GL_mono hR2 (by omega), fun p hp => ?_⟩
        rw [hR3 p hp, Bool.eq_iff_iff]
        simp only [Bool.and_eq_true, decide_eq_true_iff]
        constructor
        · rintro ⟨q1, q2⟩
          exact ⟨by omega, q2⟩
        · rintro ⟨q1, q2⟩
          refine ⟨?_, q2⟩
          by_cases hpi : p = i
          · rw [hpi, hx] at q2
            cases q2
          · omega
    · exact ⟨[], by rw [spansR, if_neg h48]; simp, trivial, fun p hp => by rw [decide_eq_false (by omega)]; rfl⟩
def runs (x : List Bool) : List S29 := spansR x 49 0 []
theorem runs_GL (x : List Bool) : GL 0 (runs x) := by
  obtain ⟨R, h1, h2, _⟩ := spansR_spec x 49 0 [] (by omega)
  unfold runs
  rw [h1]
  simpa using h2
theorem runs_in (x : List Bool) (p : Nat) (hp : p < 48) : inL (runs x) p = x.getD p false := by
  obtain ⟨R, h1, _, h3⟩ := spansR_spec x 49 0 [] (by omega)
  unfold runs
  rw [h1, List.nil_append, h3 p hp]
  simp
theorem runs_eq {x : List Bool} {L : List S29} (h : GL 0 L) (hx : ∀ p, p < 48 → inL L p = x.getD p false) : runs x = L :=
  GL_uniq (by omega) (by omega) (runs_GL x) h (fun p hp => by rw [runs_in x p hp, hx p hp])
theorem runs_congr {x y : List Bool} (h : ∀ p, p < 48 → x.getD p false = y.getD p false) : runs x = runs y :=
  runs_eq (runs_GL y) (fun p hp => by rw [runs_in y p hp, h p hp])

/-! What the program's functions on lists of ranges come to. -/
def inS (x y : Int) (p : Nat) : Bool := decide (x ≤ (p : Int)) && decide ((p : Int) < y)
theorem inS_iff (x y : Int) (p : Nat) : inS x y p = true ↔ x ≤ (p : Int) ∧ (p : Int) < y := by simp [inS]
theorem inL_one (x y : Int) (p : Nat) : inL ([⟨x, y⟩] : List S29) p = inS x y p := by simp [inL, inS]
def setL (P : Nat → Bool) : List S29 := runs (chB P)
theorem setL_GL (P : Nat → Bool) : GL 0 (setL P) := runs_GL _
theorem setL_in (P : Nat → Bool) (p : Nat) (hp : p < 48) : inL (setL P) p = P p := by unfold setL; rw [runs_in _ _ hp, chB_get P p hp]
theorem setL_eq {P : Nat → Bool} {L : List S29} (h : GL 0 L) (hx : ∀ p, p < 48 → inL L p = P p) : setL P = L := runs_eq h (fun p hp => by rw [hx p hp, chB_get P p hp])
theorem setL_congr {P Q : Nat → Bool} (h : ∀ p, p < 48 → P p = Q p) : setL P = setL Q := setL_eq (setL_GL Q) (fun p hp => by rw [setL_in Q p hp, h p hp])
theorem setL_self {L : List S29} (h : GL 0 L) : setL (inL L) = L := setL_eq h (fun _ _ => rfl)
def fewL (L : List S29) : List S29 := if L.length ≤ 12 then L else []
theorem fewL_ok {L : List S29} (h : GL 0 L) : SpsOk (fewL L) := by
  unfold fewL
  split
  · rename_i hl
    exact (SpsOk_iff L).2 ⟨h, hl⟩
  · exact (SpsOk_iff []).2 ⟨trivial, by simp⟩
theorem SpsOk.gl {L : List S29} (h : SpsOk L) : GL 0 L := ((SpsOk_iff L).1 h).1
theorem SpsOk.len {L : List S29} (h : SpsOk L) : L.length ≤ 12 := h.2
theorem SpsOk.nil : SpsOk ([] : List S29) := (SpsOk_iff []).2 ⟨trivial, by simp⟩
theorem SpsOk.one {x y : Int} (h : spOk x y = true) : SpsOk ([⟨x, y⟩] : List S29) := by
  have := of_decide_eq_true h
  exact (SpsOk_iff _).2 ⟨⟨this.1, this.2.1, this.2.2, trivial⟩, by simp⟩
open Classical in
noncomputable def addL (L : List S29) (x y : Int) : List S29 := if SpsOk L ∧ spOk x y = true then fewL (setL fun p => inL L p || inS x y p) else []
open Classical in
noncomputable def cutL (L : List S29) (x y : Int) : List S29 := if SpsOk L ∧ spOk x y = true then fewL (setL fun p => inL L p && !inS x y p) else []
open Classical in
noncomputable def metL (L : List S29) (x y : Int) : List S29 := if SpsOk L ∧ spOk x y = true then fewL (setL fun p => inL L p && inS x y p) else []
open Classical in
noncomputable def haveL (L : List S29) (x y : Int) : Bool := if SpsOk L ∧ spOk x y = true then (List.range 48).all fun p => !inS x y p || inL L p else false
theorem impl_of_is (L : List S29) (hl : L.length < 4611686018427387904) (hb : ∀ s ∈ L, 0 ≤ s.f0 ∧ s.f1 ≤ 48) : ∃ q, impl_of.f L = some q ∧ ∀ p, p < 48 → q.1.getD p false = inL L p := by
  unfold impl_of.f
  rw [if_pos (by omega), if_pos hb]
  refine ⟨_, rfl, fun p hp => ?_⟩
  show (ofR L (List.replicate 48 false)).getD p false = _
  rw [ofR_get p L _ (by simp) hb, List.getD_eq_getElem?_getD, List.getElem?_replicate, if_pos hp]
  rfl
theorem meet_is (a b : Arr.Pl) : ∃ q, impl_places_meet.f a b = some q ∧ ∀ p, p < 48 → q.1.getD p false = (a.1.getD p false && b.1.getD p false) := by
  unfold impl_places_meet.f
  refine ⟨_, rfl, fun p hp => ?_⟩
  have h := meetR_get b.1 p hp 48 0 a.1 a.2 (by omega)
  simpa only [Nat.zero_le, if_true] using h
theorem few_is (q : Arr.Pl) : impl_few.f q = some (fewL (runs q.1)) := rfl
theorem of_ok {L : List S29} (h : SpsOk L) : ∃ q, impl_of.f L = some q ∧ ∀ p, p < 48 → q.1.getD p false = inL L p :=
  impl_of_is L (by have := h.len; omega) (fun s hs => by have := GL_low h.gl s hs; omega)
theorem SpsOk_b {L : List S29} {b : Bool} (h : b = true ↔ SpsOk L) (ho : SpsOk L) : b = true := h.2 ho
theorem SpsOk_nb {L : List S29} {b : Bool} (h : b = true ↔ SpsOk L) (ho : ¬ SpsOk L) : b = false := by
  cases b with
  | false => rfl
  | true => exact absurd (h.1 rfl) ho
theorem impl_SpansMeet_is (L : List S29) (x y : Int) (hL : L.length < 4611686018427387904) : Ev (fun k => impl_SpansMeet.f k L x y) (metL L x y) := by
  unfold impl_SpansMeet.f
  obtain ⟨b, hb, hi⟩ := impl_SpansOk_is L hL
  refine Ev.bind hb ?_
  simp only [impl_SpanOk_is, Option.bind_some]
  have hbad : ∀ k, impl_SpansMeet.j0 (k + 1) L true x y = some [] := fun k => by simp only [impl_SpansMeet.j0]; rfl
  by_cases ho : SpsOk L
  · rw [SpsOk_b hi ho]
    simp only [if_true]
    cases hs : spOk x y with
    | false =>
      unfold metL
      rw [if_neg (by rw [hs]; simp)]
      exact Ev.end_ (fun k => hbad k)
    | true =>
      unfold metL
      rw [if_pos ⟨ho, hs⟩]
      obtain ⟨q1, e1, g1⟩ := of_ok ho
      obtain ⟨q2, e2, g2⟩ := of_ok (SpsOk.one hs)
      refine Ev.end_ (fun k => ?_)
      obtain ⟨q3, e3, g3⟩ := meet_is q1 q2
      simp only [impl_SpansMeet.j0, Bool.not_true, Bool.false_eq_true, if_false, e1, e2, e3, Option.bind_some, few_is]
      congr 2
      refine runs_congr fun p hp => ?_
      rw [g3 p hp, chB_get _ p hp, g1 p hp, g2 p hp, inL_one]
  · rw [SpsOk_nb hi ho]
    simp only [Bool.false_eq_true, if_false]
    unfold metL
    rw [if_neg (fun h => ho h.1)]
    exact Ev.end_ (fun k => hbad k)
/-! The reference's functions on lists of ranges. -/
theorem GL_length : ∀ {L : List S29} {b : Int}, GL b L → (L.length : Int) ≤ max 0 (49 - b)
  | [], b, _ => by simp; omega
  | s :: l, b, h => by
    have h1 := GL_length h.2.2.2
    have := h.1; have := h.2.1; have := h.2.2.1
    simp only [List.length_cons]
    omega
theorem spec_l1In_l (L : List S29) (hL : L.length < 4611686018427387904) (p : Nat) : ∀ (d i : Nat), i + d = L.length → Ev (fun k => spec_l1In.l0 k L (p : Int) (i : Int)) (inL (L.drop i) p) := by
  intro d
  induction d with
  | zero =>
    intro i hi
    refine Ev.end_ (fun k => ?_)
    simp only [spec_l1In.l0]
    rw [if_neg (by omega), List.drop_of_length_le (by omega)]
    rfl
  | succ d ih =>
    intro i hi
    have hlt : i < L.length := by omega
    have e : L.getD i z29 = L[i] := by rw [List.getD_eq_getElem?_getD, List.getElem?_eq_getElem hlt]; rfl
    rw [List.drop_eq_getElem_cons hlt, inL_cons, ← e]
    by_cases h0 : (L.getD i z29).f0 ≤ (p : Int)
    · by_cases h1 : (p : Int) < (L.getD i z29).f1
      · refine Ev.end_ (fun k => ?_)
        simp only [spec_l1In.l0]
        rw [if_pos (by omega), if_pos (by omega), rdSpan_nat, if_pos (by omega), if_pos h1, decide_eq_true h0, decide_eq_true h1]
        rfl
      · rw [decide_eq_false h1, Bool.and_false, Bool.false_or]
        refine Ev.cut (f := fun k => spec_l1In.l0 k L (p : Int) ((i + 1 : Nat) : Int)) (ih (i + 1) (by omega)) (fun k => ?_)
        simp only [spec_l1In.l0]
        rw [if_pos (by omega), if_pos (by omega), rdSpan_nat, if_pos (by omega), if_neg h1, wsucc i (by omega)]
    · rw [decide_eq_false h0, Bool.false_and, Bool.false_or]
      refine Ev.cut (f := fun k => spec_l1In.l0 k L (p : Int) ((i + 1 : Nat) : Int)) (ih (i + 1) (by omega)) (fun k => ?_)
      simp only [spec_l1In.l0]
      rw [if_pos (by omega), if_pos (by omega), rdSpan_nat, if_neg (by omega), wsucc i (by omega)]
theorem spec_l1In_is (L : List S29) (hL : L.length < 4611686018427387904) (p : Nat) : Ev (fun k => spec_l1In.f k L (p : Int)) (inL L p) := by
  have h := spec_l1In_l L hL p L.length 0 (by omega)
  simpa [spec_l1In.f] using h
theorem l1Max_is (a b : Int) : spec_l1Max.f a b = some (mx a b) := by
  unfold spec_l1Max.f mx
  split <;> split <;> first | rfl | (congr 1; omega)

theorem l1Min_is (a b : Int) : spec_l1Min.f a b = some (mn a b) := by
  unfold spec_l1Min.f mn
  split <;> split <;> first | rfl | (congr 1; omega)

theorem GL_take : ∀ {L : List S29} {b : Int} (n : Nat), GL b L → GL b (L.take n)
  | [], _, _, _ => by simp [GL]
  | s :: l, b, 0, _ => trivial
  | s :: l, b, n + 1, h => ⟨h.1, h.2.1, h.2.2.1, GL_take n h.2.2.2⟩
theorem GL_drop : ∀ {L : List S29} {b : Int} (n : Nat), 0 ≤ b → GL b L → GL b (L.drop n)
  | [], _, _, _, _ => by simp [GL]
  | s :: l, b, 0, _, h => h
  | s :: l, b, n + 1, hb, h => GL_drop n hb (GL_mono h.2.2.2 (by have := h.1; have := h.2.1; omega))
theorem take_snoc (L : List S29) (i : Nat) (h : i < L.length) : L.take (i + 1) = L.take i ++ [L.getD i z29] := by
  rw [List.take_succ_eq_append_getElem h, List.getD_eq_getElem?_getD, List.getElem?_eq_getElem h]
  rfl
theorem GL_at {L : List S29} {b : Int} (h : GL b L) (i : Nat) (hi : i < L.length) : (∀ s ∈ L.take i, s.f1 < (L.getD i z29).f0) ∧ b ≤ (L.getD i z29).f0 ∧ (L.getD i z29).f0 < (L.getD i z29).f1 ∧ (L.getD i z29).f1 ≤ 48 := by
  have h1 := GL_take (i + 1) h
  rw [take_snoc L i hi] at h1
  exact (GL_snoc.1 h1).2
theorem spec_l1Meet_is (a b x y : Int) : spec_l1Meet.f a b x y = some (if mx a x ≥ mn b y then (0, 0, false) else (mx a x, mn b y, true)) := by
  unfold spec_l1Meet.f
  rw [l1Max_is, l1Min_is]
  simp only [Option.bind_some]
  split <;> rfl
theorem inS_meet (a b x y : Int) (p : Nat) : (inS a b p && inS x y p) = inS (mx a x) (mn b y) p := by
  rw [Bool.eq_iff_iff, Bool.and_eq_true, inS_iff, inS_iff, inS_iff]
  unfold mx mn
  split <;> split <;> omega
theorem spec_SpansMeet_l (L : List S29) (x y : Int) (ho : SpsOk L) (hx : 0 ≤ x) (hy : y ≤ 48) : ∀ (d i : Nat) (out : List S29), i + d = L.length → GL 0 out → out.length ≤ i → (∀ s ∈ out, ∃ t ∈ L.take i, s.f1 ≤ t.f1) → (∀ p, p < 48 → inL out p = (inL (L.take i) p && inS x y p)) →
    Ev (fun k => spec_SpansMeet.l0 k L out (i : Int) x y) (fewL (setL fun p => inL L p && inS x y p)) := by
  have hL := ho.len
  intro d
  induction d with
  | zero =>
    intro i out hi hg hlen hb hc
    rw [List.take_of_length_le (by omega)] at hc
    have e : setL (fun p => inL L p && inS x y p) = out := setL_eq hg hc
    rw [e]
    unfold fewL
    rw [if_pos (by omega)]
    refine Ev.end_ (fun k => ?_)
    simp only [spec_SpansMeet.l0]
    rw [if_neg (by omega)]
  | succ d ih =>
    intro i out hi hg hlen hb hc
    have hlt : i < L.length := by omega
    obtain ⟨a1, a2, a3, a4⟩ := GL_at ho.gl i hlt
    have hts := take_snoc L i hlt
    generalize ht : L.getD i z29 = t at a1 a2 a3 a4 hts
    have hrd : rd_T29 L (i : Int) = t := ht
    have htt : ∀ p, inL [t] p = inS t.f0 t.f1 p := fun p => by cases t; exact inL_one _ _ p
    by_cases hm : mx t.f0 x ≥ mn t.f1 y
    · refine Ev.cut (f := fun k => spec_SpansMeet.l0 k L out ((i + 1 : Nat) : Int) x y) (ih (i + 1) out (by omega) hg (by omega) (fun s hs => ?_) (fun p hp => ?_)) (fun k => ?_)
      · obtain ⟨u, hu, hle⟩ := hb s hs
        exact ⟨u, by rw [hts]; simp [hu], hle⟩
      · rw [hts, inL_app, htt, Bool.and_or_distrib_right, inS_meet, hc p hp]
        have : inS (mx t.f0 x) (mn t.f1 y) p = false := by
          rw [Bool.eq_false_iff]
          intro h
          have := (inS_iff _ _ _).1 h
          omega
        rw [this, Bool.or_false]
      · simp only [spec_SpansMeet.l0]
        rw [if_pos (by omega), if_pos (by omega), hrd, spec_l1Meet_is, if_pos hm]
        simp only [Option.bind_some, Bool.false_eq_true, if_false]
        rw [wsucc i (by omega)]
    · have hmx : t.f0 ≤ mx t.f0 x := by unfold mx; split <;> omega
      have hmn : mn t.f1 y ≤ t.f1 := by unfold mn; split <;> omega
      refine Ev.cut (f := fun k => spec_SpansMeet.l0 k L (out ++ [⟨mx t.f0 x, mn t.f1 y⟩]) ((i + 1 : Nat) : Int) x y) (ih (i + 1) _ (by omega) ((GL_snoc (t := ⟨mx t.f0 x, mn t.f1 y⟩)).2 ⟨hg, fun s hs => ?_, by show 0 ≤ mx t.f0 x; omega, by show mx t.f0 x < mn t.f1 y; omega, by show mn t.f1 y ≤ 48; omega⟩) (by simp; omega) (fun s hs => ?_) (fun p hp => ?_)) (fun k => ?_)
      · obtain ⟨u, hu, hle⟩ := hb s hs
        have := a1 u hu
        show s.f1 < mx t.f0 x
        omega
      · rcases List.mem_append.1 hs with hs | hs
        · obtain ⟨u, hu, hle⟩ := hb s hs
          exact ⟨u, by rw [hts]; simp [hu], hle⟩
        · simp at hs
          subst hs
          exact ⟨t, by rw [hts]; simp, hmn⟩
      · rw [hts, inL_app, inL_app, htt, Bool.and_or_distrib_right, inS_meet, hc p hp, inL_one]
      · simp only [spec_SpansMeet.l0]
        rw [if_pos (by omega), if_pos (by omega), hrd, spec_l1Meet_is, if_neg hm]
        simp only [Option.bind_some, if_true]
        rw [if_pos (by omega), wsucc i (by omega)]
theorem spec_SpansMeet_is (L : List S29) (x y : Int) (hL : L.length < 4611686018427387904) : Ev (fun k => spec_SpansMeet.f k L x y) (metL L x y) := by
  unfold spec_SpansMeet.f
  simp only [Option.bind_some]
  obtain ⟨b, hb, hi⟩ := spec_SpansOk_is L hL
  refine Ev.bind hb ?_
  simp only [spec_SpanOk_is, Option.bind_some]
  have hbad : ∀ k, spec_SpansMeet.j0 (k + 1) L [] true x y = some [] := fun k => by simp only [spec_SpansMeet.j0]; rfl
  by_cases ho : SpsOk L
  · rw [SpsOk_b hi ho]
    simp only [if_true]
    cases hs : spOk x y with
    | false =>
      unfold metL
      rw [if_neg (by rw [hs]; simp)]
      exact Ev.end_ (fun k => hbad k)
    | true =>
      unfold metL
      rw [if_pos ⟨ho, hs⟩]
      have hs' := of_decide_eq_true hs
      have h := spec_SpansMeet_l L x y ho hs'.1 hs'.2.2 L.length 0 [] (by omega) trivial (by simp) (fun s hs => by simp at hs) (fun p hp => by simp [inL])
      refine Ev.cut (f := fun k => spec_SpansMeet.l0 k L [] 0 x y) h (fun k => ?_)
      simp only [spec_SpansMeet.j0, Bool.not_true, Bool.false_eq_true, if_false]
  · rw [SpsOk_nb hi ho]
    simp only [Bool.false_eq_true, if_false]
    unfold metL
    rw [if_neg (fun h => ho h.1)]
    exact Ev.end_ (fun k => hbad k)
theorem spec_l1Has_l (L : List S29) (hL : L.length < 4611686018427387904) (x y : Int) (hy : y ≤ 48) : ∀ (d : Nat) (j : Int), (y - j).toNat = d → 0 ≤ j → Ev (fun k => spec_l1Has.l0 k L j x y) ((List.range 48).all fun p => !inS j y p || inL L p) := by
  intro d
  induction d with
  | zero =>
    intro j hd hj
    have e : ((List.range 48).all fun p => !inS j y p || inL L p) = true := by
      rw [List.all_eq_true]
      intro p _
      have : inS j y p = false := by
        rw [Bool.eq_false_iff]
        intro h
        have := (inS_iff _ _ _).1 h
        omega
      rw [this]
      rfl
    rw [e]
    refine Ev.end_ (fun k => ?_)
    simp only [spec_l1Has.l0]
    rw [if_neg (by omega)]
  | succ d ih =>
    intro j hd hj
    have hin := spec_l1In_is L hL j.toNat
    rw [Int.toNat_of_nonneg hj] at hin
    refine Ev.cut (f := fun k => (spec_l1In.f k L j).bind fun t => if t = true then spec_l1Has.l0 k L (wrap64 (j + 1)) x y else some false) (Ev.bind hin ?_) (fun k => ?_)
    · cases hq : inL L j.toNat with
      | true =>
        simp only [if_true]
        rw [wid (x := j + 1) (by omega) (by omega)]
        have e : ((List.range 48).all fun p => !inS j y p || inL L p) = ((List.range 48).all fun p => !inS (j + 1) y p || inL L p) := by
          rw [Bool.eq_iff_iff, List.all_eq_true, List.all_eq_true]
          refine forall_congr' fun p => forall_congr' fun hp => ?_
          by_cases e : (p : Int) = j
          · have : p = j.toNat := by omega
            subst this
            rw [hq]
            simp
          · have : inS j y p = inS (j + 1) y p := by
              rw [Bool.eq_iff_iff, inS_iff, inS_iff]
              omega
            rw [this]
        rw [e]
        exact ih (j + 1) (by omega) (by omega)
      | false =>
        have e : ((List.range 48).all fun p => !inS j y p || inL L p) = false := by
          rw [Bool.eq_false_iff]
          intro h
          have := List.all_eq_true.1 h j.toNat (List.mem_range.2 (by omega))
          rw [hq, (inS_iff _ _ _).2 (by omega)] at this
          simp at this
        rw [e]
        exact Ev.all fun k => by simp
    · simp only [spec_l1Has.l0]
      rw [if_pos (by omega)]
theorem spec_SpansHave_is (L : List S29) (x y : Int) (hL : L.length < 4611686018427387904) : Ev (fun k => spec_SpansHave.f k L x y) (haveL L x y) := by
  unfold spec_SpansHave.f
  obtain ⟨b, hb, hi⟩ := spec_SpansOk_is L hL
  refine Ev.bind hb ?_
  simp only [spec_SpanOk_is, Option.bind_some]
  by_cases ho : SpsOk L
  · rw [SpsOk_b hi ho]
    simp only [if_true]
    cases hs : spOk x y with
    | false =>
      unfold haveL
      rw [if_neg (by rw [hs]; simp)]
      exact Ev.all fun k => by simp
    | true =>
      unfold haveL
      rw [if_pos ⟨ho, hs⟩]
      have hs' := of_decide_eq_true hs
      simp only [if_true]
      refine Ev.bind ?_ (Ev.now _)
      unfold spec_l1Has.f
      exact spec_l1Has_l L hL x y hs'.2.2 (y - x).toNat x rfl hs'.1
  · rw [SpsOk_nb hi ho]
    simp only [Bool.false_eq_true, if_false]
    unfold haveL
    rw [if_neg (fun h => ho h.1)]
    exact Ev.now _
theorem addL_ok (L : List S29) (x y : Int) : SpsOk (addL L x y) := by
  unfold addL
  split
  · exact fewL_ok (setL_GL _)
  · exact SpsOk.nil
theorem cutL_ok (L : List S29) (x y : Int) : SpsOk (cutL L x y) := by
  unfold cutL
  split
  · exact fewL_ok (setL_GL _)
  · exact SpsOk.nil
theorem metL_ok (L : List S29) (x y : Int) : SpsOk (metL L x y) := by
  unfold metL
  split
  · exact fewL_ok (setL_GL _)
  · exact SpsOk.nil

/-! Marks in ranges, written and read again. -/
def mkSp (n : Nat) (c : Int) : List S29 := (List.range n).map fun (j : Nat) => ⟨c + 2 * (j : Int), c + 2 * (j : Int) + 1⟩
theorem mkSp_get (n : Nat) (c : Int) (j : Nat) (h : j < n) : (mkSp n c)[j]? = some ⟨c + 2 * (j : Int), c + 2 * (j : Int) + 1⟩ := by simp [mkSp, h]
theorem mkSp_length (n : Nat) (c : Int) : (mkSp n c).length = n := by simp [mkSp]
theorem markSpanS_l (n : Nat) (c : Int) (hc : 0 ≤ c) (hn : c + 2 * n ≤ 4611686018427387904) : ∀ (d i : Nat) (M : List S29), i + d = n → M.length = n → (∀ j, j < i → M[j]? = some ⟨c + 2 * (j : Int), c + 2 * (j : Int) + 1⟩) →
    Ev (fun k => laws_markSpanS.l0 k M (c + 2 * (i : Int)) (i : Int)) (c + 2 * n, mkSp n c) := by
  intro d
  induction d with
  | zero =>
    intro i M hi hM hj
    have : M = mkSp n c := by
      apply List.ext_getElem?
      intro j
      by_cases h : j < i
      · rw [hj j h, mkSp_get _ _ _ (by omega)]
      · rw [List.getElem?_eq_none (by omega), List.getElem?_eq_none (by rw [mkSp_length]; omega)]
    refine Ev.end_ (fun k => ?_)
    simp only [laws_markSpanS.l0]
    rw [if_neg (by omega), this, show i = n by omega]
  | succ d ih =>
    intro i M hi hM hj
    have h := ih (i + 1) (M.set i ⟨c + 2 * (i : Int), c + 2 * (i : Int) + 1⟩) (by omega) (by simpa using hM) (by
      intro j hj'
      by_cases e : j = i
      · subst e
        rw [List.getElem?_set_self (by omega)]
      · rw [List.getElem?_set_ne (Ne.symm e)]
        exact hj j (by omega))
    refine Ev.cut h (fun k => ?_)
    simp only [laws_markSpanS.l0, Option.bind_some, Int.toNat_natCast]
    have hg : rd_T29 (M.set i (⟨c + 2 * (i : Int), (rd_T29 M (i : Int)).f1⟩ : S29)) (i : Int) = ⟨c + 2 * (i : Int), (rd_T29 M (i : Int)).f1⟩ := by
      rw [rdSpan_nat, List.getD_eq_getElem?_getD, List.getElem?_set_self (by omega)]
      rfl
    rw [if_pos (by omega), if_pos (by omega), hg, List.set_set, wsucc i (by omega), wid (x := c + 2 * (i : Int) + 1) (by omega) (by omega), wid (x := c + 2 * (i : Int) + 1 + 1) (by omega) (by omega), show c + 2 * (i : Int) + 1 + 1 = c + 2 * ((i + 1 : Nat) : Int) by omega]
theorem markSpanS_is (M : List S29) (c : Int) (hc : 0 ≤ c) (hn : c + 2 * M.length ≤ 4611686018427387904) : Ev (fun k => laws_markSpanS.f k M c) (c + 2 * M.length, mkSp M.length c) := by
  have h := markSpanS_l M.length c hc hn M.length 0 M (by omega) rfl (fun j hj => by omega)
  simpa [laws_markSpanS.f] using h
theorem heldSpanS_l (n : Nat) (c : Int) (hc : 0 ≤ c) (hn : c + 2 * n ≤ 4611686018427387904) : ∀ (d i : Nat), i + d = n → Ev (fun k => laws_heldSpanS.l0 k (mkSp n c) (c + 2 * (i : Int)) (i : Int)) (c + 2 * n) := by
  intro d
  induction d with
  | zero =>
    intro i hi
    refine Ev.end_ (fun k => ?_)
    simp only [laws_heldSpanS.l0]
    rw [mkSp_length, if_neg (by omega), show i = n by omega]
  | succ d ih =>
    intro i hi
    have hg : rd_T29 (mkSp n c) (i : Int) = ⟨c + 2 * (i : Int), c + 2 * (i : Int) + 1⟩ := by rw [rdSpan_nat, List.getD_eq_getElem?_getD, mkSp_get _ _ _ (by omega)]; rfl
    refine Ev.cut (f := fun k => laws_heldSpanS.l0 k (mkSp n c) (c + 2 * ((i + 1 : Nat) : Int)) ((i + 1 : Nat) : Int)) (ih (i + 1) (by omega)) (fun k => ?_)
    simp only [laws_heldSpanS.l0]
    rw [mkSp_length, if_pos (by omega), if_pos (by omega), hg, if_pos rfl]
    rw [wid (x := c + 2 * (i : Int) + 1) (by omega) (by omega), if_pos rfl, wsucc i (by omega), wid (x := c + 2 * (i : Int) + 1 + 1) (by omega) (by omega), show c + 2 * (i : Int) + 1 + 1 = c + 2 * ((i + 1 : Nat) : Int) by omega]
theorem heldSpanS_is (n : Nat) (c : Int) (hc : 0 ≤ c) (hn : c + 2 * n ≤ 4611686018427387904) : Ev (fun k => laws_heldSpanS.f k (mkSp n c) c) (c + 2 * n) := by
  have h := heldSpanS_l n c hc hn n 0 (by omega)
  simpa [laws_heldSpanS.f] using h


theorem FnExactSpansMeet (l0 : List S24) (a1_0 a1_1 : Int) (hm0 : l0.length ≤ maxLen) (hw0 : ∀ x ∈ l0, (Lit.int .i64 x.f0).wf = true ∧ (Lit.int .i64 x.f1).wf = true) (w1_0 : (Lit.int .i64 a1_0).wf = true) (w1_1 : (Lit.int .i64 a1_1).wf = true) : ∃ k, laws_FnExactSpansMeet.f k l0 a1_0 a1_1 = some true := by
  by_cases hs : (l0.length : Int) ≤ 1048576
  · refine Ev.rounds (r := true) (g := fun k => laws_FnExactSpansMeet.f k l0 a1_0 a1_1) ?_
    unfold laws_FnExactSpansMeet.f
    simp only [laws_szSpanS_is l0 hm0, if_pos hs, Option.bind_some, if_neg (show ¬ (1048576 - (l0.length : Int) < 0) by omega), laws_toSpan.f]
    have hlen : (l0.map spConv).length = l0.length := by simp
    have ht := laws_toSpanS_is l0 (by omega)
    generalize l0.map spConv = L at ht hlen
    have h1 := spec_SpansMeet_is L a1_0 a1_1 (by omega)
    have h2 := impl_SpansMeet_is L a1_0 a1_1 (by omega)
    have h3 := (metL_ok L a1_0 a1_1).len
    generalize metL L a1_0 a1_1 = M at h1 h2 h3
    have he := laws_eqSpanS_refl M (by omega)
    have heL := laws_eqSpanS_refl L (by omega)
    have hmL := markSpanS_is L 1 (by omega) (by omega)
    have hmM := markSpanS_is M 1 (by omega) (by omega)
    have hhM := heldSpanS_is M.length 1 (by omega) (by omega)
    refine Ev.bind ht (Ev.bind h1 (Ev.bind ht (Ev.bind h2 (Ev.bind he ?_))))
    simp only [if_true]
    refine Ev.bind ht (Ev.bind heL ?_)
    simp only [if_true]
    refine Ev.bind hmL ?_
    simp only [if_neg (show ¬ (1 + 2 * (L.length : Int) < 0) by omega)]
    refine Ev.bind he ?_
    refine Ev.step (fun k => by simp only [laws_FnExactSpansMeet.j0, Bool.not_true, Bool.false_eq_true, if_false]; rfl) ?_
    refine Ev.bind hmM (Ev.bind hhM ?_)
    simp only [if_neg (show ¬ (1 + 2 * (M.length : Int) < 0) by omega), if_true, laws_toSpan.f, Option.bind_some]
    refine Ev.bind ht (Ev.bind h2 (Ev.bind he ?_))
    simp only [if_true]
    refine Ev.bind hhM ?_
    simp only [if_neg (show ¬ (1 + 2 * (M.length : Int) < 0) by omega), if_true]
    exact Ev.now _
  · refine ⟨0, ?_⟩
    unfold laws_FnExactSpansMeet.f
    rw [laws_szSpanS_is l0 hm0, if_neg hs]
    rfl

end Go.Proofs.Ytmplfidfckkmhaa.Pure
