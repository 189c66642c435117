/- The law FnExactTextDiff over numbers and lists, as the program's text computes it: it answers true. Conditions: the arguments are of their kinds, lengths fit. -/
import Derived.Test.YtfomnpbhpncpaaaQDx12
import Derived.OpenShut
import Derived.Laws.Strings
namespace Go.Proofs.Ytfomnpbhpncpaaa.Pure
open Go.RowKit Go.Proofs.Ytfomnpbhpncpaaa.QD Go.Proofs.YtfomnpbhpncpaaaW.PrintWords Go.Proofs.YtfomnpbhpncpaaaW.PrintLast
set_option linter.unusedVariables false
set_option linter.unusedSimpArgs false

/-! Words for the pure side: strings as lists of bytes, counters as natural numbers, what is answered from some round on. -/
def B (s : ByteArray) : List UInt8 := s.data.toList
theorem B_size (s : ByteArray) : s.size = (B s).length := (Array.length_toList).symm
theorem B_toList (s : ByteArray) : s.toList = B s := Go.ByteArray.toList_eq s
theorem B_inj {s t : ByteArray} (h : B s = B t) : s = t := by
  cases s; cases t
  simp only [B] at h
  congr 1
  exact Array.ext' h
theorem B_app (s t : ByteArray) : B (s ++ t) = B s ++ B t := by simp [B, ByteArray.data_append]
theorem app_size (s t : ByteArray) : (s ++ t).size = s.size + t.size := by rw [B_size, B_app, List.length_append, ← B_size, ← B_size]
theorem B_ext (s : ByteArray) (i j : Nat) : B (s.extract i j) = ((B s).take j).drop i := by
  simp [B, ByteArray.data_extract, List.extract_eq_take_drop, List.drop_take]
theorem B_nil : B (⟨#[]⟩ : ByteArray) = [] := rfl
theorem bt_B (s : ByteArray) (i : Nat) (h : i < (B s).length) : bt s (i : Int) = (((B s)[i]'h).toNat : Int) := by
  have h' : (i : Int).toNat < s.size := by rw [B_size]; simpa using h
  unfold bt
  rw [dif_pos h']
  rfl
theorem wsucc (i : Nat) (h : i < 4611686018427387904) : wrap64 ((i : Int) + 1) = ((i + 1 : Nat) : Int) := by unfold wrap64; omega
theorem wpred (i : Nat) (h : i < 4611686018427387904) (h0 : 0 < i) : wrap64 ((i : Int) - 1) = ((i - 1 : Nat) : Int) := by unfold wrap64; omega
theorem wid {x : Int} (h0 : -9223372036854775808 ≤ x) (h1 : x ≤ 9223372036854775807) : wrap64 x = x := by unfold wrap64; omega
theorem Ev.cut {α : Type} {g f : Nat → Option α} {r : α} (k : Ev f r) (h : ∀ k, g (k + 1) = f k) : Ev g r := Ev.step h k
theorem Ev.end_ {α : Type} {g : Nat → Option α} {r : α} (h : ∀ k, g (k + 1) = some r) : Ev g r := Ev.step h (Ev.now r)
theorem Ev.all {α : Type} {g : Nat → Option α} {r : α} (h : ∀ k, g k = some r) : Ev g r := ⟨0, fun k _ => h k⟩
theorem Ev.uniq {α : Type} {g : Nat → Option α} {r q : α} (h : Ev g r) (h' : Ev g q) : r = q := by
  obtain ⟨K, h⟩ := h
  obtain ⟨K', h'⟩ := h'
  have h1 := h (max K K') (by omega)
  rw [h' (max K K') (by omega)] at h1
  exact (Option.some.inj h1).symm
theorem dec_eq {p q : Prop} [Decidable p] [Decidable q] (h : p ↔ q) : (some (decide p) : Option Bool) = some (decide q) := by rw [decide_eq_decide.2 h]
theorem dec_false {q : Prop} [Decidable q] (h : ¬ q) : (some false : Option Bool) = some (decide q) := by rw [decide_eq_false h]
theorem dec_true {q : Prop} [Decidable q] (h : q) : (some true : Option Bool) = some (decide q) := by rw [decide_eq_true h]

/-! Files, valid. -/
def cOk (c : UInt8) : Bool := decide (c.toNat = 46 ∨ (97 ≤ c.toNat ∧ c.toNat ≤ 122) ∨ (48 ≤ c.toNat ∧ c.toNat ≤ 57))
def tOk (l : List UInt8) : Bool := l.all cOk && decide (l.length ≤ 48)
theorem spec_l2Byte_is (c : UInt8) : spec_l2Byte.f (c.toNat : Int) = some (cOk c) := by
  unfold spec_l2Byte.f cOk
  repeat' split
  all_goals first | exact dec_true (by omega) | exact dec_eq (by omega) | exact dec_false (by omega)
theorem all_drop (l : List UInt8) (i : Nat) (h : i < l.length) : (l.drop i).all cOk = (cOk l[i] && (l.drop (i + 1)).all cOk) := by
  rw [List.drop_eq_getElem_cons h, List.all_cons]
theorem spec_TextOk_l (s : ByteArray) (hs : s.size < 4611686018427387904) : ∀ (d i : Nat), i + d = (B s).length → Ev (fun k => spec_TextOk.l0 k s (i : Int)) ((((B s).drop i).all cOk) && decide ((B s).length ≤ 48)) := by
  have hz : (s.size : Int) = ((B s).length : Int) := by rw [B_size]
  have hs' : (B s).length < 4611686018427387904 := by rw [← B_size]; exact hs
  intro d
  induction d with
  | zero =>
    intro i hi
    refine Ev.end_ (fun k => ?_)
    simp only [spec_TextOk.l0]
    rw [hz, if_neg (by omega), List.drop_of_length_le (by omega)]
    simp
    omega
  | succ d ih =>
    intro i hi
    have hlt : i < (B s).length := by omega
    have hr : (((B s).drop i).all cOk) = (cOk ((B s)[i]) && ((B s).drop (i + 1)).all cOk) := all_drop _ _ hlt
    rw [hr]
    cases hc : cOk ((B s)[i]) with
    | true =>
      refine Ev.cut (f := fun k => spec_TextOk.l0 k s ((i + 1 : Nat) : Int)) ?_ (fun k => ?_)
      · simpa using ih (i + 1) (by omega)
      · simp only [spec_TextOk.l0]
        rw [hz, if_pos (by omega), if_pos (by omega), bt_B s i hlt, spec_l2Byte_is, wsucc i (by omega), hc]
        rfl
    | false =>
      refine Ev.end_ (fun k => ?_)
      simp only [spec_TextOk.l0]
      rw [hz, if_pos (by omega), if_pos (by omega), bt_B s i hlt, spec_l2Byte_is, hc]
      simp
theorem spec_TextOk_is (s : ByteArray) (hs : s.size < 4611686018427387904) : Ev (fun k => spec_TextOk.f k s) (tOk (B s)) := by
  have h := spec_TextOk_l s hs (B s).length 0 (by omega)
  simpa [spec_TextOk.f, tOk] using h
theorem impl_TextOk_l (s : ByteArray) (hs : s.size < 4611686018427387904) : ∀ (d i : Nat), i + d = (B s).length → Ev (fun k => impl_TextOk.l0 k s (s.size : Int) (i : Int)) ((((B s).drop i).all cOk) && decide ((B s).length ≤ 48)) := by
  have hz : (s.size : Int) = ((B s).length : Int) := by rw [B_size]
  have hs' : (B s).length < 4611686018427387904 := by rw [← B_size]; exact hs
  intro d
  induction d with
  | zero =>
    intro i hi
    refine Ev.end_ (fun k => ?_)
    simp only [impl_TextOk.l0]
    rw [hz, if_neg (by omega), List.drop_of_length_le (by omega)]
    simp
    omega
  | succ d ih =>
    intro i hi
    have hlt : i < (B s).length := by omega
    have hr : (((B s).drop i).all cOk) = (cOk ((B s)[i]) && ((B s).drop (i + 1)).all cOk) := all_drop _ _ hlt
    rw [hr]
    cases hc : cOk ((B s)[i]) with
    | true =>
      have hc' := of_decide_eq_true hc
      refine Ev.cut (f := fun k => impl_TextOk.l0 k s (s.size : Int) ((i + 1 : Nat) : Int)) ?_ (fun k => ?_)
      · simpa using ih (i + 1) (by omega)
      · simp only [impl_TextOk.l0]
        rw [if_pos (by omega), if_pos (by omega), if_pos (by omega), bt_B s i hlt, wsucc i (by omega)]
        repeat' split
        all_goals first | rfl | (exfalso; omega)
    | false =>
      have hc' := of_decide_eq_false hc
      refine Ev.end_ (fun k => ?_)
      simp only [impl_TextOk.l0]
      rw [if_pos (by omega), if_pos (by omega), if_pos (by omega), bt_B s i hlt]
      simp only [Bool.false_and]
      repeat' split
      all_goals first | rfl | (exfalso; omega)
theorem impl_TextOk_is (s : ByteArray) (hs : s.size < 4611686018427387904) : Ev (fun k => impl_TextOk.f k s) (tOk (B s)) := by
  have h := impl_TextOk_l s hs (B s).length 0 (by omega)
  simpa [impl_TextOk.f, tOk] using h

theorem tOk_len {L : List UInt8} (h : tOk L = true) : L.length ≤ 48 := by
  simp [tOk] at h
  exact h.2

/-! Ranges, valid. -/
def spOk (a b : Int) : Bool := decide (0 ≤ a ∧ a < b ∧ b ≤ 48)
/-! Lists of ranges, valid. -/
theorem rdSpan_nat (L : List S40) (i : Nat) : rd_T40 L (i : Int) = L.getD i z40 := rfl
def SpsGood (L : List S40) (i : Nat) : Prop := spOk (L.getD i z40).f0 (L.getD i z40).f1 = true ∧ (0 < i → (L.getD (i - 1) z40).f1 < (L.getD i z40).f0)
def SpsOk (L : List S40) : Prop := (∀ j, j < L.length → SpsGood L j) ∧ L.length ≤ 12
theorem good_iff {L : List S40} {i : Nat} (h : SpsGood L i) : (∀ j, i ≤ j → j < L.length → SpsGood L j) ↔ (∀ j, i + 1 ≤ j → j < L.length → SpsGood L j) :=
  ⟨fun g j h1 h2 => g j (by omega) h2, fun g j h1 h2 => if e : j = i then e ▸ h else g j (by omega) h2⟩
/-! Sets of places as lists of 48 truth values, and the ranges of one. -/
theorem getD_set' (z : List Bool) (i p : Nat) (b : Bool) : (z.set i b).getD p false = if p = i ∧ i < z.length then b else z.getD p false := by
  rw [List.getD_eq_getElem?_getD, List.getD_eq_getElem?_getD, List.getElem?_set]
  by_cases h : i = p
  · subst h
    by_cases hl : i < z.length
    · simp [hl]
    · simp [hl]
  · rw [if_neg h, if_neg (fun hh => h hh.1.symm)]
def chB (P : Nat → Bool) : List Bool := (List.range 48).map P
theorem chB_len (P : Nat → Bool) : (chB P).length = 48 := by simp [chB]
theorem chB_get (P : Nat → Bool) (i : Nat) (h : i < 48) : (chB P).getD i false = P i := by
  rw [List.getD_eq_getElem?_getD]
  simp [chB, h]
theorem ext48 {x y : List Bool} (hx : x.length = 48) (hy : y.length = 48) (h : ∀ p, p < 48 → x.getD p false = y.getD p false) : x = y := by
  apply List.ext_getElem (by omega)
  intro i h1 h2
  have := h i (by omega)
  simpa [h1, h2] using this
def inL (L : List S40) (p : Nat) : Bool := L.any fun s => decide (s.f0 ≤ (p : Int)) && decide ((p : Int) < s.f1)
theorem inL_cons (s : S40) (L : List S40) (p : Nat) : inL (s :: L) p = (decide (s.f0 ≤ (p : Int)) && decide ((p : Int) < s.f1) || inL L p) := by simp [inL]
theorem inL_app (L M : List S40) (p : Nat) : inL (L ++ M) p = (inL L p || inL M p) := by simp [inL]
theorem inL_nil (p : Nat) : inL ([] : List S40) p = false := rfl
theorem inL_iff (L : List S40) (p : Nat) : inL L p = true ↔ ∃ s ∈ L, s.f0 ≤ (p : Int) ∧ (p : Int) < s.f1 := by simp [inL]
/-! Ranges in their order, each behind a gap. -/
def GL : Int → List S40 → Prop
  | _, [] => True
  | b, s :: l => b ≤ s.f0 ∧ s.f0 < s.f1 ∧ s.f1 ≤ 48 ∧ GL (s.f1 + 1) l
theorem GL_mono : ∀ {L : List S40} {b c : Int}, GL b L → c ≤ b → GL c L
  | [], _, _, _, _ => trivial
  | _ :: _, _, _, h, hc => ⟨by have := h.1; omega, h.2⟩
theorem GL_low : ∀ {L : List S40} {b : Int}, GL b L → ∀ s ∈ L, b ≤ s.f0 ∧ s.f0 < s.f1 ∧ s.f1 ≤ 48
  | [], _, _, _, hs => by simp at hs
  | t :: l, b, h, s, hs => by
    rcases List.mem_cons.1 hs with rfl | hs
    · exact ⟨h.1, h.2.1, h.2.2.1⟩
    · have := GL_low h.2.2.2 s hs
      have := h.1; have := h.2.1
      exact ⟨by omega, by omega, by omega⟩
theorem GL_in {L : List S40} {b : Int} (h : GL b L) {p : Nat} (hp : inL L p = true) : b ≤ (p : Int) ∧ p < 48 := by
  obtain ⟨s, hs, h0, h1⟩ := (inL_iff L p).1 hp
  have := GL_low h s hs
  omega
theorem GL_out {L : List S40} {b : Int} (h : GL b L) {p : Nat} (hp : (p : Int) < b ∨ 48 ≤ p) : inL L p = false := by
  cases hq : inL L p with
  | false => rfl
  | true => have := GL_in h hq; omega
/-- What tells the places tells the ranges. -/
theorem GL_uniq : ∀ {L M : List S40} {b c : Int}, 0 ≤ b → 0 ≤ c → GL b L → GL c M → (∀ p, p < 48 → inL L p = inL M p) → L = M
  | [], [], _, _, _, _, _, _, _ => rfl
  | [], t :: m, b, c, h0, h0', h, h', e => by
    have := h'.1; have := h'.2.1; have := h'.2.2.1
    have ep := e t.f0.toNat (by omega)
    rw [inL_nil, inL_cons, decide_eq_true (show t.f0 ≤ (t.f0.toNat : Int) by omega), decide_eq_true (show (t.f0.toNat : Int) < t.f1 by omega)] at ep
    simp at ep
  | s :: l, [], b, c, h0, h0', h, h', e => by
    have := h.1; have := h.2.1; have := h.2.2.1
    have ep := e s.f0.toNat (by omega)
    rw [inL_nil, inL_cons, decide_eq_true (show s.f0 ≤ (s.f0.toNat : Int) by omega), decide_eq_true (show (s.f0.toNat : Int) < s.f1 by omega)] at ep
    simp at ep
  | s :: l, t :: m, b, c, h0, h0', h, h', e => by
    obtain ⟨a1, a2, a3, a4⟩ := h
    obtain ⟨b1, b2, b3, b4⟩ := h'
    have key : ∀ (p : Nat), p < 48 → ((s.f0 ≤ (p : Int) ∧ (p : Int) < s.f1) ∨ inL l p = true ↔ (t.f0 ≤ (p : Int) ∧ (p : Int) < t.f1) ∨ inL m p = true) := by
      intro p hp
      have ep := e p hp
      rw [inL_cons, inL_cons] at ep
      have := Bool.eq_iff_iff.1 ep
      simpa using this
    have hl : ∀ (p : Nat), (p : Int) < s.f1 + 1 → ¬ inL l p = true := fun p hp hq => by have := GL_in a4 hq; omega
    have hm : ∀ (p : Nat), (p : Int) < t.f1 + 1 → ¬ inL m p = true := fun p hp hq => by have := GL_in b4 hq; omega
    have e0 : s.f0 = t.f0 := by
      by_cases h1 : s.f0 < t.f0
      · have := (key s.f0.toNat (by omega)).1 (.inl (by omega))
        rcases this with h | h
        · omega
        · exact absurd h (hm _ (by omega))
      · by_cases h2 : t.f0 < s.f0
        · have := (key t.f0.toNat (by omega)).2 (.inl (by omega))
          rcases this with h | h
          · omega
          · exact absurd h (hl _ (by omega))
        · omega
    have e1 : s.f1 = t.f1 := by
      by_cases h1 : s.f1 < t.f1
      · have := (key s.f1.toNat (by omega)).2 (.inl (by omega))
        rcases this with h | h
        · omega
        · exact absurd h (hl _ (by omega))
      · by_cases h2 : t.f1 < s.f1
        · have := (key t.f1.toNat (by omega)).1 (.inl (by omega))
          rcases this with h | h
          · omega
          · exact absurd h (hm _ (by omega))
        · omega
    have est : s = t := by
      cases s; cases t
      simp only at e0 e1
      subst e0; subst e1
      rfl
    subst est
    have el : l = m := GL_uniq (by omega) (by omega) a4 b4 (by
      intro p hp
      by_cases hps : (p : Int) < s.f1 + 1
      · rw [GL_out a4 (.inl hps), GL_out b4 (.inl hps)]
      · have := key p hp
        rw [Bool.eq_iff_iff]
        constructor
        · intro h
          rcases this.1 (.inr h) with h | h
          · omega
          · exact h
        · intro h
          rcases this.2 (.inr h) with h | h
          · omega
          · exact h)
    rw [el]
/-! The list at the places' end: one more, or the last one longer. -/
theorem GL_snoc : ∀ {L : List S40} {b : Int} {t : S40}, GL b (L ++ [t]) ↔ GL b L ∧ (∀ s ∈ L, s.f1 < t.f0) ∧ b ≤ t.f0 ∧ t.f0 < t.f1 ∧ t.f1 ≤ 48
  | [], b, t => by simp [GL]
  | s :: l, b, t => by
    simp only [List.cons_append, GL]
    rw [GL_snoc (L := l)]
    constructor
    · rintro ⟨h1, h2, h3, h4, h5, h6, h7, h8⟩
      refine ⟨⟨h1, h2, h3, h4⟩, ?_, by omega, h7, h8⟩
      intro x hx
      rcases List.mem_cons.1 hx with rfl | hx
      · omega
      · exact h5 x hx
    · rintro ⟨⟨h1, h2, h3, h4⟩, h5, h6, h7, h8⟩
      exact ⟨h1, h2, h3, h4, fun x hx => h5 x (List.mem_cons_of_mem _ hx), by have := h5 s (by simp); omega, h7, h8⟩
theorem GL_iff : ∀ {L : List S40} {b : Int}, 0 ≤ b → (GL b L ↔ (∀ j, j < L.length → SpsGood L j) ∧ ∀ s, L[0]? = some s → b ≤ s.f0)
  | [], b, _ => by simp [GL]
  | s :: l, b, hb => by
    simp only [GL]
    constructor
    · rintro ⟨h1, h2, h3, h4⟩
      have ih := (GL_iff (L := l) (b := s.f1 + 1) (by omega)).1 h4
      refine ⟨fun j hj => ?_, fun t ht => by simp at ht; subst ht; exact h1⟩
      cases j with
      | zero => exact ⟨decide_eq_true ⟨by show 0 ≤ s.f0; omega, h2, h3⟩, fun h => absurd h (by omega)⟩
      | succ j =>
        have hjl : j < l.length := by simpa using hj
        have g := ih.1 j hjl
        refine ⟨g.1, fun _ => ?_⟩
        cases j with
        | zero =>
          have := ih.2 (l.getD 0 z40) (by rw [List.getD_eq_getElem?_getD, List.getElem?_eq_getElem hjl]; rfl)
          show s.f1 < (l.getD 0 z40).f0
          omega
        | succ i => exact g.2 (by omega)
    · rintro ⟨h1, h2⟩
      have g0 : 0 ≤ s.f0 ∧ s.f0 < s.f1 ∧ s.f1 ≤ 48 := of_decide_eq_true (h1 0 (by simp)).1
      have e0 : b ≤ s.f0 := h2 s rfl
      refine ⟨e0, g0.2.1, g0.2.2, (GL_iff (L := l) (b := s.f1 + 1) (by omega)).2 ⟨fun j hj => ?_, fun t ht => ?_⟩⟩
      · have g := h1 (j + 1) (by simp; omega)
        refine ⟨g.1, fun hj0 => ?_⟩
        have g2 := g.2 (by omega)
        cases j with
        | zero => omega
        | succ i => exact g2
      · have hl : 0 < l.length := by
          cases l with
          | nil => simp at ht
          | cons x l => simp
        have g2 := (h1 1 (by simp; omega)).2 (by omega)
        have et : l.getD 0 z40 = t := by rw [List.getD_eq_getElem?_getD, ht]; rfl
        have g3 : s.f1 < (l.getD 0 z40).f0 := g2
        rw [et] at g3
        omega
theorem SpsOk_iff (L : List S40) : SpsOk L ↔ GL 0 L ∧ L.length ≤ 12 := by
  unfold SpsOk
  rw [GL_iff (by omega)]
  constructor
  · rintro ⟨h1, h2⟩
    refine ⟨⟨h1, fun s hs => ?_⟩, h2⟩
    have hl : 0 < L.length := by
      cases L with
      | nil => simp at hs
      | cons x l => simp
    have g := of_decide_eq_true (h1 0 hl).1
    have e : L.getD 0 z40 = s := by rw [List.getD_eq_getElem?_getD, hs]; rfl
    rw [e] at g
    exact g.1
  · rintro ⟨⟨h1, _⟩, h2⟩
    exact ⟨h1, h2⟩

/-! The program's own loops over places. -/
/-! The ranges of a list of places. -/
theorem runR_spec (x : List Bool) : ∀ (d i : Nat), 48 < i + d → i ≤ 48 → i ≤ runR x d i ∧ runR x d i ≤ 48 ∧ (∀ p, i ≤ p → p < runR x d i → x.getD p false = true) ∧ (runR x d i < 48 → x.getD (runR x d i) false = false)
  | 0, i, h, hi => by omega
  | d + 1, i, h, hi => by
    by_cases h48 : i < 48
    · cases hx : x.getD i false with
      | true =>
        have e : runR x (d + 1) i = runR x d (i + 1) := by rw [runR, if_pos h48, if_pos hx]
        rw [e]
        obtain ⟨h1, h2, h3, h4⟩ := runR_spec x d (i + 1) (by omega) (by omega)
        refine ⟨by omega, h2, fun p hp hq => ?_, h4⟩
        by_cases e : p = i
        · rw [e]; exact hx
        · exact h3 p (by omega) hq
      | false =>
        have e : runR x (d + 1) i = i := by rw [runR, if_pos h48, hx]; rfl
        rw [e]
        exact ⟨by omega, by omega, fun p hp hq => by omega, fun _ => hx⟩
    · have e : runR x (d + 1) i = i := by rw [runR, if_neg h48]
      rw [e]
      exact ⟨by omega, by omega, fun p hp hq => by omega, fun _ => by omega⟩
theorem spansR_spec (x : List Bool) : ∀ (d i : Nat) (out : List S40), 48 < i + d → ∃ R, spansR x d i out = out ++ R ∧ GL (i : Int) R ∧ ∀ p, p < 48 → inL R p = (decide (i ≤ p) && x.getD p false)
  | 0, i, out, h => ⟨[], by simp [spansR], trivial, fun p hp => by rw [decide_eq_false (by omega)]; rfl⟩
  | d + 1, i, out, h => by
    by_cases h48 : i < 48
    · cases hx : x.getD i false with
      | true =>
        obtain ⟨h1, h2, h3, h4⟩ := runR_spec x 49 i (by omega) (by omega)
        have hgt : i < runR x 49 i := by
          rcases Nat.lt_or_eq_of_le h1 with hh | hh
          · exact hh
          · have := h4 (by omega)
            rw [← hh, hx] at this
            cases this
        have e : spansR x (d + 1) i out = spansR x d (runR x 49 i + 1) (out ++ [⟨(i : Int), (runR x 49 i : Int)⟩]) := by rw [spansR, if_pos h48, if_pos hx]
        generalize runR x 49 i = e1 at h1 h2 h3 h4 hgt e
        obtain ⟨R, hR1, hR2, hR3⟩ := spansR_spec x d (e1 + 1) (out ++ [⟨(i : Int), (e1 : Int)⟩]) (by omega)
        refine ⟨⟨(i : Int), (e1 : Int)⟩ :: R, by rw [e, hR1]; simp, ⟨by show (i : Int) ≤ (i : Int); omega, by show (i : Int) < (e1 : Int); omega, by show (e1 : Int) ≤ 48; omega, by simpa using hR2⟩, fun p hp => ?_⟩
        rw [inL_cons, hR3 p hp, Bool.eq_iff_iff]
        simp only [Bool.or_eq_true, Bool.and_eq_true, decide_eq_true_iff]
        constructor
        · rintro (⟨q1, q2⟩ | ⟨q1, q2⟩)
          · exact ⟨by omega, h3 p (by omega) (by omega)⟩
          · exact ⟨by omega, q2⟩
        · rintro ⟨q1, q2⟩
          by_cases hpe : p < e1
          · exact .inl ⟨by omega, by omega⟩
          · refine .inr ⟨?_, q2⟩
            by_cases hpe2 : p = e1
            · have := h4 (by omega)
              rw [← hpe2, q2] at this
              cases this
            · omega
      | false =>
        have e : spansR x (d + 1) i out = spansR x d (i + 1) out := by rw [spansR, if_pos h48, hx]; rfl
        obtain ⟨R, hR1, hR2, hR3⟩ := spansR_spec x d (i + 1) out (by omega)
        refine ⟨R, by rw [e, hR1], GL_mono hR2 (by omega), fun p hp => ?_⟩
        rw [hR3 p hp, Bool.eq_iff_iff]
        simp only [Bool.and_eq_true, decide_eq_true_iff]
        constructor
        · rintro ⟨q1, q2⟩
          exact ⟨by omega, q2⟩
        · rintro ⟨q1, q2⟩
          refine ⟨?_, q2⟩
          by_cases hpi : p = i
          · rw [hpi, hx] at q2
            cases q2
          · omega
    · exact ⟨[], by rw [spansR, if_neg h48]; simp, trivial, fun p hp => by rw [decide_eq_false (by omega)]; rfl⟩
def runs (x : List Bool) : List S40 := spansR x 49 0 []
theorem runs_GL (x : List Bool) : GL 0 (runs x) := by
  obtain ⟨R, h1, h2, _⟩ := spansR_spec x 49 0 [] (by omega)
  unfold runs
  rw [h1]
  simpa using h2
theorem runs_in (x : List Bool) (p : Nat) (hp : p < 48) : inL (runs x) p = x.getD p false := by
  obtain ⟨R, h1, _, h3⟩ := spansR_spec x 49 0 [] (by omega)
  unfold runs
  rw [h1, List.nil_append, h3 p hp]
  simp
theorem runs_eq {x : List Bool} {L : List S40} (h : GL 0 L) (hx : ∀ p, p < 48 → inL L p = x.getD p false) : runs x = L :=
  GL_uniq (by omega) (by omega) (runs_GL x) h (fun p hp => by rw [runs_in x p hp, hx p hp])
theorem runs_congr {x y : List Bool} (h : ∀ p, p < 48 → x.getD p false = y.getD p false) : runs x = runs y :=
  runs_eq (runs_GL y) (fun p hp => by rw [runs_in y p hp, h p hp])

/-! What the program's functions on lists of ranges come to. -/
def inS (x y : Int) (p : Nat) : Bool := decide (x ≤ (p : Int)) && decide ((p : Int) < y)
theorem inS_iff (x y : Int) (p : Nat) : inS x y p = true ↔ x ≤ (p : Int) ∧ (p : Int) < y := by simp [inS]
theorem inL_one (x y : Int) (p : Nat) : inL ([⟨x, y⟩] : List S40) p = inS x y p := by simp [inL, inS]
def setL (P : Nat → Bool) : List S40 := runs (chB P)
theorem setL_GL (P : Nat → Bool) : GL 0 (setL P) := runs_GL _
theorem setL_in (P : Nat → Bool) (p : Nat) (hp : p < 48) : inL (setL P) p = P p := by unfold setL; rw [runs_in _ _ hp, chB_get P p hp]
theorem setL_eq {P : Nat → Bool} {L : List S40} (h : GL 0 L) (hx : ∀ p, p < 48 → inL L p = P p) : setL P = L := runs_eq h (fun p hp => by rw [hx p hp, chB_get P p hp])
theorem setL_congr {P Q : Nat → Bool} (h : ∀ p, p < 48 → P p = Q p) : setL P = setL Q := setL_eq (setL_GL Q) (fun p hp => by rw [setL_in Q p hp, h p hp])
theorem setL_self {L : List S40} (h : GL 0 L) : setL (inL L) = L := setL_eq h (fun _ _ => rfl)
def fewL (L : List S40) : List S40 := if L.length ≤ 12 then L else []
theorem fewL_ok {L : List S40} (h : GL 0 L) : SpsOk (fewL L) := by
  unfold fewL
  split
  · rename_i hl
    exact (SpsOk_iff L).2 ⟨h, hl⟩
  · exact (SpsOk_iff []).2 ⟨trivial, by simp⟩
theorem SpsOk.gl {L : List S40} (h : SpsOk L) : GL 0 L := ((SpsOk_iff L).1 h).1
theorem SpsOk.len {L : List S40} (h : SpsOk L) : L.length ≤ 12 := h.2
theorem SpsOk.nil : SpsOk ([] : List S40) := (SpsOk_iff []).2 ⟨trivial, by simp⟩
theorem SpsOk.one {x y : Int} (h : spOk x y = true) : SpsOk ([⟨x, y⟩] : List S40) := by
  have := of_decide_eq_true h
  exact (SpsOk_iff _).2 ⟨⟨this.1, this.2.1, this.2.2, trivial⟩, by simp⟩
open Classical in
noncomputable def addL (L : List S40) (x y : Int) : List S40 := if SpsOk L ∧ spOk x y = true then fewL (setL fun p => inL L p || inS x y p) else []
open Classical in
noncomputable def cutL (L : List S40) (x y : Int) : List S40 := if SpsOk L ∧ spOk x y = true then fewL (setL fun p => inL L p && !inS x y p) else []
open Classical in
noncomputable def metL (L : List S40) (x y : Int) : List S40 := if SpsOk L ∧ spOk x y = true then fewL (setL fun p => inL L p && inS x y p) else []
open Classical in
noncomputable def haveL (L : List S40) (x y : Int) : Bool := if SpsOk L ∧ spOk x y = true then (List.range 48).all fun p => !inS x y p || inL L p else false
theorem SpsOk_b {L : List S40} {b : Bool} (h : b = true ↔ SpsOk L) (ho : SpsOk L) : b = true := h.2 ho
theorem SpsOk_nb {L : List S40} {b : Bool} (h : b = true ↔ SpsOk L) (ho : ¬ SpsOk L) : b = false := by
  cases b with
  | false => rfl
  | true => exact absurd (h.1 rfl) ho
/-! The reference's functions on lists of ranges. -/
theorem GL_length : ∀ {L : List S40} {b : Int}, GL b L → (L.length : Int) ≤ max 0 (49 - b)
  | [], b, _ => by simp; omega
  | s :: l, b, h => by
    have h1 := GL_length h.2.2.2
    have := h.1; have := h.2.1; have := h.2.2.1
    simp only [List.length_cons]
    omega
theorem spec_l1Of_l (x : List Bool) (hx : x.length ≤ 48) : ∀ (d i : Nat) (out : List S40), i + d = x.length → GL 0 out → (∀ s ∈ out, s.f1 ≤ (i : Int)) → (∀ p, p < 48 → inL out p = (decide (p < i) && x.getD p false)) →
    Ev (fun k => spec_l1Of.l0 k x out (i : Int)) (runs x) := by
  intro d
  induction d with
  | zero =>
    intro i out hi hg hb hc
    refine Ev.end_ (fun k => ?_)
    simp only [spec_l1Of.l0]
    rw [if_neg (by omega)]
    congr 1
    refine (runs_eq hg (fun p hp => ?_)).symm
    rw [hc p hp]
    by_cases h : p < i
    · rw [decide_eq_true h, Bool.true_and]
    · rw [decide_eq_false h, Bool.false_and, List.getD_eq_getElem?_getD, List.getElem?_eq_none (by omega)]
      rfl
  | succ d ih =>
    intro i out hi hg hb hc
    have hrd : rdOf false x (i : Int) = x.getD i false := rfl
    cases hxi : x.getD i false with
    | false =>
      refine Ev.cut (f := fun k => spec_l1Of.l0 k x out ((i + 1 : Nat) : Int)) (ih (i + 1) out (by omega) hg (fun s hs => by have := hb s hs; omega) (fun p hp => ?_)) (fun k => ?_)
      · rw [hc p hp]
        by_cases e : p = i
        · subst e
          rw [hxi]
          simp
        · congr 1
          exact decide_eq_decide.2 (by omega)
      · simp only [spec_l1Of.l0]
        rw [if_pos (by omega), if_pos (by omega), hrd, hxi, if_neg (by decide), wsucc i (by omega)]
    | true =>
      have hnew : ∀ M : List S40, (∀ p, p < 48 → inL M p = (inL out p || decide (p = i))) → ∀ p, p < 48 → inL M p = (decide (p < i + 1) && x.getD p false) := by
        intro M hM p hp
        rw [hM p hp, hc p hp]
        by_cases e : p = i
        · subst e
          rw [hxi]
          simp
        · rw [decide_eq_false e, Bool.or_false]
          congr 1
          exact decide_eq_decide.2 (by omega)
      have happ : (∀ s ∈ out, s.f1 < (i : Int)) → Ev (fun k => spec_l1Of.l0 k x (out ++ [⟨(i : Int), ((i + 1 : Nat) : Int)⟩]) ((i + 1 : Nat) : Int)) (runs x) := by
        intro hlt
        refine ih (i + 1) _ (by omega) (GL_snoc.2 ⟨hg, hlt, by show (0 : Int) ≤ (i : Int); omega, by show (i : Int) < ((i + 1 : Nat) : Int); omega, by show ((i + 1 : Nat) : Int) ≤ 48; omega⟩) (fun s hs => ?_) (hnew _ (fun p hp => ?_))
        · rcases List.mem_append.1 hs with hs | hs
          · have := hb s hs; omega
          · simp at hs; subst hs; show ((i + 1 : Nat) : Int) ≤ ((i + 1 : Nat) : Int); omega
        · rw [inL_app, inL_one]
          congr 1
          rw [Bool.eq_iff_iff, inS_iff, decide_eq_true_iff]
          omega
      have hol : (out.length : Int) ≤ 49 := by have := GL_length hg; omega
      rcases List.eq_nil_or_concat out with e | ⟨L0, t, e⟩
      · subst e
        refine Ev.cut (happ (fun s hs => by simp at hs)) (fun k => ?_)
        simp only [spec_l1Of.l0]
        rw [if_pos (by omega), if_pos (by omega), hrd, hxi, if_pos rfl, if_neg (by simp), if_pos (by simp), wsucc i (by omega)]
      · rw [List.concat_eq_append] at e
        have hlen : out.length = L0.length + 1 := by rw [e]; simp
        have hlast : rd_T40 out (wrap64 ((out.length : Int) - 1)) = t := by
          rw [wpred _ (by omega) (by omega), rdSpan_nat, e, List.getD_eq_getElem?_getD]
          simp
        have hgs := GL_snoc.1 (e ▸ hg)
        have hbt := hb t (by rw [e]; simp)
        by_cases ht : t.f1 = (i : Int)
        · have hset : out.set (wrap64 ((out.length : Int) - 1)).toNat (⟨t.f0, ((i + 1 : Nat) : Int)⟩ : S40) = L0 ++ [⟨t.f0, ((i + 1 : Nat) : Int)⟩] := by
            rw [wpred _ (by omega) (by omega), Int.toNat_natCast, e]
            simp
          refine Ev.cut (f := fun k => spec_l1Of.l0 k x (L0 ++ [⟨t.f0, ((i + 1 : Nat) : Int)⟩]) ((i + 1 : Nat) : Int)) (ih (i + 1) _ (by omega) ((GL_snoc (t := ⟨t.f0, ((i + 1 : Nat) : Int)⟩)).2 ⟨hgs.1, hgs.2.1, hgs.2.2.1, by have := hgs.2.2.2.1; show t.f0 < ((i + 1 : Nat) : Int); omega, by show ((i + 1 : Nat) : Int) ≤ 48; omega⟩) (fun s hs => ?_) (hnew _ (fun p hp => ?_))) (fun k => ?_)
          · rcases List.mem_append.1 hs with hs | hs
            · have := hb s (by rw [e]; simp [hs]); omega
            · simp at hs; subst hs; show ((i + 1 : Nat) : Int) ≤ ((i + 1 : Nat) : Int); omega
          · rw [e, inL_app, inL_app, inL_one]
            have : inL [t] p = inS t.f0 t.f1 p := by cases t; exact inL_one _ _ p
            rw [this, Bool.or_assoc]
            congr 1
            have := hgs.2.2.2.1
            rw [Bool.eq_iff_iff, Bool.or_eq_true, inS_iff, inS_iff, decide_eq_true_iff]
            omega
          · simp only [spec_l1Of.l0]
            rw [if_pos (by omega), if_pos (by omega), hrd, hxi, if_pos rfl, if_pos (by omega), hlast, wsucc i (by omega), hset, if_pos ht]
            rw [wpred _ (by omega) (by omega), if_pos (by omega), if_pos (by omega)]
        · refine Ev.cut (happ (fun s hs => ?_)) (fun k => ?_)
          · rw [e] at hs
            rcases List.mem_append.1 hs with hs | hs
            · have := hgs.2.1 s hs
              have := hgs.2.2.2.1
              omega
            · simp at hs
              subst hs
              omega
          · simp only [spec_l1Of.l0]
            rw [if_pos (by omega), if_pos (by omega), hrd, hxi, if_pos rfl, if_pos (by omega), hlast, if_neg ht, wsucc i (by omega), if_pos (show out.length < 8796093022208 by omega)]
            rw [wpred _ (by omega) (by omega), if_pos (by omega), if_pos (by omega)]
theorem spec_l1Of_is (x : List Bool) (hx : x.length ≤ 48) : Ev (fun k => spec_l1Of.f k x) (runs x) :=
  spec_l1Of_l x hx x.length 0 [] (by omega) trivial (fun s hs => by simp at hs) (fun p hp => by rw [decide_eq_false (by omega)]; rfl)
theorem l1Max_is (a b : Int) : spec_l1Max.f a b = some (mx a b) := by
  unfold spec_l1Max.f mx
  split <;> split <;> first | rfl | (congr 1; omega)

/-! Lists of ranges, compared. -/
theorem laws_eqSpanS_l (L : List S40) (hL : L.length < 4611686018427387904) : ∀ (d i : Nat), i + d = L.length → Ev (fun k => laws_eqSpanS.l0 k L L (i : Int)) true := by
  intro d
  induction d with
  | zero =>
    intro i hi
    refine Ev.end_ (fun k => ?_)
    simp only [laws_eqSpanS.l0]
    rw [if_neg (by omega)]
  | succ d ih =>
    intro i hi
    refine Ev.cut (f := fun k => laws_eqSpanS.l0 k L L ((i + 1 : Nat) : Int)) (ih (i + 1) (by omega)) (fun k => ?_)
    simp only [laws_eqSpanS.l0]
    rw [if_pos (by omega), if_pos (by omega), if_pos (by omega), wsucc i (by omega)]
    simp [laws_eqSpan.f]
theorem laws_eqSpanS_refl (L : List S40) (hL : L.length < 4611686018427387904) : Ev (fun k => laws_eqSpanS.f k L L) true := by
  unfold laws_eqSpanS.f
  simp only [if_true]
  exact laws_eqSpanS_l L hL L.length 0 (by omega)

/-! Marks in ranges, written and read again. -/
def mkSp (n : Nat) (c : Int) : List S40 := (List.range n).map fun (j : Nat) => ⟨c + 2 * (j : Int), c + 2 * (j : Int) + 1⟩
theorem mkSp_get (n : Nat) (c : Int) (j : Nat) (h : j < n) : (mkSp n c)[j]? = some ⟨c + 2 * (j : Int), c + 2 * (j : Int) + 1⟩ := by simp [mkSp, h]
theorem mkSp_length (n : Nat) (c : Int) : (mkSp n c).length = n := by simp [mkSp]
theorem markSpanS_l (n : Nat) (c : Int) (hc : 0 ≤ c) (hn : c + 2 * n ≤ 4611686018427387904) : ∀ (d i : Nat) (M : List S40), i + d = n → M.length = n → (∀ j, j < i → M[j]? = some ⟨c + 2 * (j : Int), c + 2 * (j : Int) + 1⟩) →
    Ev (fun k => laws_markSpanS.l0 k M (c + 2 * (i : Int)) (i : Int)) (c + 2 * n, mkSp n c) := by
  intro d
  induction d with
  | zero =>
    intro i M hi hM hj
    have : M = mkSp n c := by
      apply List.ext_getElem?
      intro j
      by_cases h : j < i
      · rw [hj j h, mkSp_get _ _ _ (by omega)]
      · rw [List.getElem?_eq_none (by omega), List.getElem?_eq_none (by rw [mkSp_length]; omega)]
    refine Ev.end_ (fun k => ?_)
    simp only [laws_markSpanS.l0]
    rw [if_neg (by omega), this, show i = n by omega]
  | succ d ih =>
    intro i M hi hM hj
    have h := ih (i + 1) (M.set i ⟨c + 2 * (i : Int), c + 2 * (i : Int) + 1⟩) (by omega) (by simpa using hM) (by
      intro j hj'
      by_cases e : j = i
      · subst e
        rw [List.getElem?_set_self (by omega)]
      · rw [List.getElem?_set_ne (Ne.symm e)]
        exact hj j (by omega))
    refine Ev.cut h (fun k => ?_)
    simp only [laws_markSpanS.l0, Option.bind_some, Int.toNat_natCast]
    have hg : rd_T40 (M.set i (⟨c + 2 * (i : Int), (rd_T40 M (i : Int)).f1⟩ : S40)) (i : Int) = ⟨c + 2 * (i : Int), (rd_T40 M (i : Int)).f1⟩ := by
      rw [rdSpan_nat, List.getD_eq_getElem?_getD, List.getElem?_set_self (by omega)]
      rfl
    rw [if_pos (by omega), if_pos (by omega), hg, List.set_set, wsucc i (by omega), wid (x := c + 2 * (i : Int) + 1) (by omega) (by omega), wid (x := c + 2 * (i : Int) + 1 + 1) (by omega) (by omega), show c + 2 * (i : Int) + 1 + 1 = c + 2 * ((i + 1 : Nat) : Int) by omega]
theorem markSpanS_is (M : List S40) (c : Int) (hc : 0 ≤ c) (hn : c + 2 * M.length ≤ 4611686018427387904) : Ev (fun k => laws_markSpanS.f k M c) (c + 2 * M.length, mkSp M.length c) := by
  have h := markSpanS_l M.length c hc hn M.length 0 M (by omega) rfl (fun j hj => by omega)
  simpa [laws_markSpanS.f] using h
theorem heldSpanS_l (n : Nat) (c : Int) (hc : 0 ≤ c) (hn : c + 2 * n ≤ 4611686018427387904) : ∀ (d i : Nat), i + d = n → Ev (fun k => laws_heldSpanS.l0 k (mkSp n c) (c + 2 * (i : Int)) (i : Int)) (c + 2 * n) := by
  intro d
  induction d with
  | zero =>
    intro i hi
    refine Ev.end_ (fun k => ?_)
    simp only [laws_heldSpanS.l0]
    rw [mkSp_length, if_neg (by omega), show i = n by omega]
  | succ d ih =>
    intro i hi
    have hg : rd_T40 (mkSp n c) (i : Int) = ⟨c + 2 * (i : Int), c + 2 * (i : Int) + 1⟩ := by rw [rdSpan_nat, List.getD_eq_getElem?_getD, mkSp_get _ _ _ (by omega)]; rfl
    refine Ev.cut (f := fun k => laws_heldSpanS.l0 k (mkSp n c) (c + 2 * ((i + 1 : Nat) : Int)) ((i + 1 : Nat) : Int)) (ih (i + 1) (by omega)) (fun k => ?_)
    simp only [laws_heldSpanS.l0]
    rw [mkSp_length, if_pos (by omega), if_pos (by omega), hg, if_pos rfl]
    rw [wid (x := c + 2 * (i : Int) + 1) (by omega) (by omega), if_pos rfl, wsucc i (by omega), wid (x := c + 2 * (i : Int) + 1 + 1) (by omega) (by omega), show c + 2 * (i : Int) + 1 + 1 = c + 2 * ((i + 1 : Nat) : Int) by omega]
theorem heldSpanS_is (n : Nat) (c : Int) (hc : 0 ≤ c) (hn : c + 2 * n ≤ 4611686018427387904) : Ev (fun k => laws_heldSpanS.f k (mkSp n c) c) (c + 2 * n) := by
  have h := heldSpanS_l n c hc hn n 0 (by omega)
  simpa [laws_heldSpanS.f] using h

/-! Where two texts differ. -/
theorem diffR_get (a b : ByteArray) (p : Nat) : ∀ (d i : Nat) (z : List Bool), z.length = 48 → i + d ≤ 48 → (diffR a b d z (i : Int)).getD p false = if i ≤ p ∧ p < i + d then diffAt a b (p : Int) else z.getD p false
  | 0, i, z, hz, hi => by
    rw [diffR, if_neg (by omega)]
  | d + 1, i, z, hz, hi => by
    rw [diffR, show (i : Int) + 1 = ((i + 1 : Nat) : Int) by omega, diffR_get a b p d (i + 1) _ (by simp [hz]) (by omega), getD_set', Int.toNat_natCast]
    by_cases e : p = i
    · subst e
      rw [if_neg (by omega), if_pos ⟨rfl, by omega⟩, if_pos (by omega)]
    · rw [if_neg (show ¬ (p = i ∧ i < z.length) from fun h => e h.1)]
      by_cases h : i + 1 ≤ p ∧ p < i + 1 + d
      · rw [if_pos h, if_pos (by omega)]
      · rw [if_neg h, if_neg (by omega)]
def dB (a b : ByteArray) : List Bool := diffR a b (max a.size b.size) (List.replicate 48 false) 0
def diffP (a b : ByteArray) (p : Nat) : Bool := decide (p < max a.size b.size) && diffAt a b (p : Int)
theorem dB_get (a b : ByteArray) (ha : a.size ≤ 48) (hb : b.size ≤ 48) (p : Nat) (hp : p < 48) : (dB a b).getD p false = diffP a b p := by
  unfold dB diffP
  have h := diffR_get a b p (max a.size b.size) 0 (List.replicate 48 false) (by simp) (by omega)
  rw [show ((0 : Nat) : Int) = 0 from rfl] at h
  rw [h]
  by_cases hq : p < max a.size b.size
  · rw [if_pos ⟨Nat.zero_le _, by omega⟩, decide_eq_true hq, Bool.true_and]
  · rw [if_neg (by omega), decide_eq_false hq, Bool.false_and, List.getD_eq_getElem?_getD, List.getElem?_replicate, if_pos hp]
    rfl
theorem diffAt_comm (a b : ByteArray) (p : Int) : diffAt a b p = diffAt b a p := by
  unfold diffAt
  by_cases h1 : (a.size : Int) ≤ p
  · rw [if_pos h1]
    by_cases h2 : (b.size : Int) ≤ p
    · rw [if_pos h2]
    · rw [if_neg h2, if_pos h1]
  · rw [if_neg h1]
    by_cases h2 : (b.size : Int) ≤ p
    · rw [if_pos h2, if_pos h2]
    · rw [if_neg h2, if_neg h2, if_neg h1, Bool.eq_iff_iff, bne_iff_ne, bne_iff_ne]
      exact ⟨Ne.symm, Ne.symm⟩
def difL (a b : ByteArray) : List S40 := if tOk (B a) = true ∧ tOk (B b) = true then runs (dB a b) else []
theorem difL_on {a b : ByteArray} (h1 : tOk (B a) = true) (h2 : tOk (B b) = true) : difL a b = runs (dB a b) := if_pos ⟨h1, h2⟩
theorem difL_off {a b : ByteArray} (h : ¬ (tOk (B a) = true ∧ tOk (B b) = true)) : difL a b = [] := if_neg h
theorem difL_GL (a b : ByteArray) : GL 0 (difL a b) := by
  unfold difL
  split
  · exact runs_GL _
  · trivial
theorem difL_comm (a b : ByteArray) : difL a b = difL b a := by
  unfold difL
  by_cases h : tOk (B a) = true ∧ tOk (B b) = true
  · rw [if_pos h, if_pos ⟨h.2, h.1⟩]
    have ha := tOk_len h.1
    have hb := tOk_len h.2
    rw [← B_size] at ha hb
    refine runs_congr (fun p hp => ?_)
    rw [dB_get a b ha hb p hp, dB_get b a hb ha p hp]
    unfold diffP
    rw [diffAt_comm, Nat.max_comm]
  · rw [if_neg h, if_neg (fun hh => h ⟨hh.2, hh.1⟩)]
theorem impl_TextDiff_is (a b : ByteArray) (ha : a.size < 4611686018427387904) (hb : b.size < 4611686018427387904) : Ev (fun k => impl_TextDiff.f k a b) (difL a b) := by
  unfold impl_TextDiff.f
  refine Ev.bind (impl_TextOk_is a ha) ?_
  cases h1 : tOk (B a) with
  | false =>
    rw [difL_off (by rw [h1]; simp)]
    exact Ev.all fun k => by rw [if_neg (by decide)]
  | true =>
    simp only [if_true]
    refine Ev.bind (impl_TextOk_is b hb) ?_
    cases h2 : tOk (B b) with
    | false =>
      rw [difL_off (by rw [h2]; simp)]
      exact Ev.all fun k => by rw [if_neg (by decide)]
    | true =>
      have ha' := tOk_len h1
      have hb' := tOk_len h2
      rw [← B_size] at ha' hb'
      rw [difL_on h1 h2]
      refine Ev.all fun k => ?_
      rw [if_pos rfl, if_pos ha', if_pos hb']
      rfl
theorem spec_TextDiff_l (a b : ByteArray) (ha : a.size ≤ 48) (hb : b.size ≤ 48) : ∀ (d i : Nat), i + d = max a.size b.size → Ev (fun k => spec_TextDiff.l0 k a b ((List.range i).map fun (p : Nat) => diffAt a b (p : Int)) (i : Int)) (runs (dB a b)) := by
  have hmx : mx (a.size : Int) (b.size : Int) = ((max a.size b.size : Nat) : Int) := by unfold mx; split <;> omega
  intro d
  induction d with
  | zero =>
    intro i hi
    have h := spec_l1Of_is ((List.range i).map fun (p : Nat) => diffAt a b (p : Int)) (by simp; omega)
    have e : runs ((List.range i).map fun (p : Nat) => diffAt a b (p : Int)) = runs (dB a b) := by
      refine runs_congr (fun p hp => ?_)
      rw [dB_get a b ha hb p hp, List.getD_eq_getElem?_getD]
      unfold diffP
      by_cases hq : p < max a.size b.size
      · rw [decide_eq_true hq, Bool.true_and, List.getElem?_map, List.getElem?_range (by omega)]
        rfl
      · rw [decide_eq_false hq, Bool.false_and, List.getElem?_eq_none (by simp; omega)]
        rfl
    rw [e] at h
    refine Ev.cut (f := fun k => (spec_l1Of.f k ((List.range i).map fun (p : Nat) => diffAt a b (p : Int))).bind fun t132 => (some t132)) (Ev.bind h (Ev.now _)) (fun k => ?_)
    simp only [spec_TextDiff.l0, l1Max_is, Option.bind_some, hmx]
    rw [if_neg (by omega)]
  | succ d ih =>
    intro i hi
    have h := ih (i + 1) (by omega)
    rw [List.range_succ, List.map_append] at h
    refine Ev.cut h (fun k => ?_)
    have hlen : ((List.range i).map fun (p : Nat) => diffAt a b (p : Int)).length < 140737488355328 := by simp; omega
    simp only [spec_TextDiff.l0, l1Max_is, Option.bind_some, hmx]
    rw [if_pos (by omega), wsucc i (by omega)]
    show _ = spec_TextDiff.l0 k a b (((List.range i).map fun (p : Nat) => diffAt a b (p : Int)) ++ [diffAt a b (i : Int)]) ((i + 1 : Nat) : Int)
    generalize ((List.range i).map fun (p : Nat) => diffAt a b (p : Int)) = M at hlen
    by_cases c1 : (i : Int) ≥ (a.size : Int)
    · rw [if_pos c1, if_pos hlen]
      have : diffAt a b (i : Int) = true := by unfold diffAt; rw [if_pos (by omega)]
      rw [this]
    · rw [if_neg c1]
      by_cases c2 : (i : Int) ≥ (b.size : Int)
      · rw [if_pos c2, if_pos hlen]
        have : diffAt a b (i : Int) = true := by unfold diffAt; rw [if_neg (by omega), if_pos (by omega)]
        rw [this]
      · rw [if_neg c2, if_pos (by omega), if_pos (by omega), if_pos (by omega), if_pos hlen]
        have : diffAt a b (i : Int) = (bt a (i : Int) != bt b (i : Int)) := by unfold diffAt; rw [if_neg (by omega), if_neg (by omega)]
        rw [this]
theorem spec_TextDiff_is (a b : ByteArray) (ha : a.size < 4611686018427387904) (hb : b.size < 4611686018427387904) : Ev (fun k => spec_TextDiff.f k a b) (difL a b) := by
  unfold spec_TextDiff.f
  have hbad : Ev (fun k => spec_TextDiff.j0 k a b true) ([] : List S40) := Ev.end_ (fun k => by simp only [spec_TextDiff.j0, if_true])
  refine Ev.bind (spec_TextOk_is a ha) ?_
  cases h1 : tOk (B a) with
  | false =>
    rw [difL_off (by rw [h1]; simp)]
    simp only [Bool.false_eq_true, if_false]
    exact hbad
  | true =>
    simp only [if_true]
    refine Ev.bind (spec_TextOk_is b hb) ?_
    cases h2 : tOk (B b) with
    | false =>
      rw [difL_off (by rw [h2]; simp)]
      exact hbad
    | true =>
      have ha' := tOk_len h1
      have hb' := tOk_len h2
      rw [← B_size] at ha' hb'
      rw [difL_on h1 h2]
      refine Ev.cut (spec_TextDiff_l a b ha' hb' (max a.size b.size) 0 (by omega)) (fun k => ?_)
      simp only [spec_TextDiff.j0, Bool.not_true, Bool.false_eq_true, if_false]
      rfl


theorem FnExactTextDiff (a0 : ByteArray) (a1 : ByteArray) (w0 : a0.size ≤ maxLen) (w1 : a1.size ≤ maxLen) : ∃ k, laws_FnExactTextDiff.f k a0 a1 = some true := by
  by_cases h : (a0.size : Int) > 1048576
  · exact ⟨0, by unfold laws_FnExactTextDiff.f; rw [if_pos h]⟩
  by_cases h' : (a1.size : Int) > 1048576
  · exact ⟨0, by unfold laws_FnExactTextDiff.f; rw [if_neg h, if_pos h']⟩
  refine Ev.rounds (r := true) (g := fun k => laws_FnExactTextDiff.f k a0 a1) ?_
  unfold laws_FnExactTextDiff.f
  simp only [if_neg h, if_neg h']
  have h1 := spec_TextDiff_is a0 a1 (by omega) (by omega)
  have h2 := impl_TextDiff_is a0 a1 (by omega) (by omega)
  have h3 := GL_length (difL_GL a0 a1)
  generalize difL a0 a1 = M at h1 h2 h3
  have he := laws_eqSpanS_refl M (by omega)
  have hm := markSpanS_is M 1 (by omega) (by omega)
  have hh := heldSpanS_is M.length 1 (by omega) (by omega)
  refine Ev.bind h1 (Ev.bind h2 (Ev.bind he ?_))
  simp only [if_true]
  refine Ev.bind hm (Ev.bind hh ?_)
  simp only [if_neg (show ¬ (1 + 2 * (M.length : Int) < 0) by omega), if_true]
  refine Ev.bind h2 (Ev.bind he ?_)
  simp only [if_true]
  refine Ev.bind hh ?_
  simp only [if_neg (show ¬ (1 + 2 * (M.length : Int) < 0) by omega), if_true]
  exact Ev.now _

end Go.Proofs.Ytfomnpbhpncpaaa.Pure
