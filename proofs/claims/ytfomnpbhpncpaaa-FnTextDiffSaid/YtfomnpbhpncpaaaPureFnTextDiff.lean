/- The law FnTextDiff over numbers and lists, as the program's text computes it: it answers true. Conditions: the arguments are of their kinds, lengths fit. -/
import Derived.Test.YtfomnpbhpncpaaaQDx22
import Derived.OpenShut
import Derived.Laws.Strings
namespace Go.Proofs.Ytfomnpbhpncpaaa.Pure
open Go.RowKit Go.Proofs.Ytfomnpbhpncpaaa.QD Go.Proofs.YtfomnpbhpncpaaaW.PrintWords Go.Proofs.YtfomnpbhpncpaaaW.PrintLast
set_option linter.unusedVariables false
set_option linter.unusedSimpArgs false

/-! Words for the pure side: strings as lists of bytes, counters as natural numbers, what is answered from some round on. -/
def B (s : ByteArray) : List UInt8 := s.data.toList
theorem B_size (s : ByteArray) : s.size = (B s).length := (Array.length_toList).symm
theorem B_toList (s : ByteArray) : s.toList = B s := Go.ByteArray.toList_eq s
theorem B_inj {s t : ByteArray} (h : B s = B t) : s = t := by
  cases s; cases t
  simp only [B] at h
  congr 1
  exact Array.ext' h
theorem B_app (s t : ByteArray) : B (s ++ t) = B s ++ B t := by simp [B, ByteArray.data_append]
theorem app_size (s t : ByteArray) : (s ++ t).size = s.size + t.size := by rw [B_size, B_app, List.length_append, ← B_size, ← B_size]
theorem B_ext (s : ByteArray) (i j : Nat) : B (s.extract i j) = ((B s).take j).drop i := by
  simp [B, ByteArray.data_extract, List.extract_eq_take_drop, List.drop_take]
theorem B_nil : B (⟨#[]⟩ : ByteArray) = [] := rfl
theorem bt_B (s : ByteArray) (i : Nat) (h : i < (B s).length) : bt s (i : Int) = (((B s)[i]'h).toNat : Int) := by
  have h' : (i : Int).toNat < s.size := by rw [B_size]; simpa using h
  unfold bt
  rw [dif_pos h']
  rfl
theorem wsucc (i : Nat) (h : i < 4611686018427387904) : wrap64 ((i : Int) + 1) = ((i + 1 : Nat) : Int) := by unfold wrap64; omega
theorem wpred (i : Nat) (h : i < 4611686018427387904) (h0 : 0 < i) : wrap64 ((i : Int) - 1) = ((i - 1 : Nat) : Int) := by unfold wrap64; omega
theorem wid {x : Int} (h0 : -9223372036854775808 ≤ x) (h1 : x ≤ 9223372036854775807) : wrap64 x = x := by unfold wrap64; omega
theorem Ev.cut {α : Type} {g f : Nat → Option α} {r : α} (k : Ev f r) (h : ∀ k, g (k + 1) = f k) : Ev g r := Ev.step h k
theorem Ev.end_ {α : Type} {g : Nat → Option α} {r : α} (h : ∀ k, g (k + 1) = some r) : Ev g r := Ev.step h (Ev.now r)
theorem Ev.all {α : Type} {g : Nat → Option α} {r : α} (h : ∀ k, g k = some r) : Ev g r := ⟨0, fun k _ => h k⟩
theorem Ev.uniq {α : Type} {g : Nat → Option α} {r q : α} (h : Ev g r) (h' : Ev g q) : r = q := by
  obtain ⟨K, h⟩ := h
  obtain ⟨K', h'⟩ := h'
  have h1 := h (max K K') (by omega)
  rw [h' (max K K') (by omega)] at h1
  exact (Option.some.inj h1).symm
theorem dec_eq {p q : Prop} [Decidable p] [Decidable q] (h : p ↔ q) : (some (decide p) : Option Bool) = some (decide q) := by rw [decide_eq_decide.2 h]
theorem dec_false {q : Prop} [Decidable q] (h : ¬ q) : (some false : Option Bool) = some (decide q) := by rw [decide_eq_false h]
theorem dec_true {q : Prop} [Decidable q] (h : q) : (some true : Option Bool) = some (decide q) := by rw [decide_eq_true h]

def mkB (L : List UInt8) : ByteArray := ⟨L.toArray⟩
theorem B_mkB (L : List UInt8) : B (mkB L) = L := by simp [B, mkB]
theorem eq_mkB {r : ByteArray} {X : List UInt8} (h : B r = X) : r = mkB X := B_inj (by rw [h, B_mkB])
theorem mkB_B (s : ByteArray) : mkB (B s) = s := (eq_mkB rfl).symm
theorem mkB_size (L : List UInt8) : (mkB L).size = L.length := by rw [B_size, B_mkB]

/-! Files, valid. -/
def cOk (c : UInt8) : Bool := decide (c.toNat = 46 ∨ (97 ≤ c.toNat ∧ c.toNat ≤ 122) ∨ (48 ≤ c.toNat ∧ c.toNat ≤ 57))
def tOk (l : List UInt8) : Bool := l.all cOk && decide (l.length ≤ 48)
theorem spec_l2Byte_is (c : UInt8) : spec_l2Byte.f (c.toNat : Int) = some (cOk c) := by
  unfold spec_l2Byte.f cOk
  repeat' split
  all_goals first | exact dec_true (by omega) | exact dec_eq (by omega) | exact dec_false (by omega)
theorem all_drop (l : List UInt8) (i : Nat) (h : i < l.length) : (l.drop i).all cOk = (cOk l[i] && (l.drop (i + 1)).all cOk) := by
  rw [List.drop_eq_getElem_cons h, List.all_cons]
theorem spec_TextOk_l (s : ByteArray) (hs : s.size < 4611686018427387904) : ∀ (d i : Nat), i + d = (B s).length → Ev (fun k => spec_TextOk.l0 k s (i : Int)) ((((B s).drop i).all cOk) && decide ((B s).length ≤ 48)) := by
  have hz : (s.size : Int) = ((B s).length : Int) := by rw [B_size]
  have hs' : (B s).length < 4611686018427387904 := by rw [← B_size]; exact hs
  intro d
  induction d with
  | zero =>
    intro i hi
    refine Ev.end_ (fun k => ?_)
    simp only [spec_TextOk.l0]
    rw [hz, if_neg (by omega), List.drop_of_length_le (by omega)]
    simp
    omega
  | succ d ih =>
    intro i hi
    have hlt : i < (B s).length := by omega
    have hr : (((B s).drop i).all cOk) = (cOk ((B s)[i]) && ((B s).drop (i + 1)).all cOk) := all_drop _ _ hlt
    rw [hr]
    cases hc : cOk ((B s)[i]) with
    | true =>
      refine Ev.cut (f := fun k => spec_TextOk.l0 k s ((i + 1 : Nat) : Int)) ?_ (fun k => ?_)
      · simpa using ih (i + 1) (by omega)
      · simp only [spec_TextOk.l0]
        rw [hz, if_pos (by omega), if_pos (by omega), bt_B s i hlt, spec_l2Byte_is, wsucc i (by omega), hc]
        rfl
    | false =>
      refine Ev.end_ (fun k => ?_)
      simp only [spec_TextOk.l0]
      rw [hz, if_pos (by omega), if_pos (by omega), bt_B s i hlt, spec_l2Byte_is, hc]
      simp
theorem spec_TextOk_is (s : ByteArray) (hs : s.size < 4611686018427387904) : Ev (fun k => spec_TextOk.f k s) (tOk (B s)) := by
  have h := spec_TextOk_l s hs (B s).length 0 (by omega)
  simpa [spec_TextOk.f, tOk] using h
theorem impl_TextOk_l (s : ByteArray) (hs : s.size < 4611686018427387904) : ∀ (d i : Nat), i + d = (B s).length → Ev (fun k => impl_TextOk.l0 k s (s.size : Int) (i : Int)) ((((B s).drop i).all cOk) && decide ((B s).length ≤ 48)) := by
  have hz : (s.size : Int) = ((B s).length : Int) := by rw [B_size]
  have hs' : (B s).length < 4611686018427387904 := by rw [← B_size]; exact hs
  intro d
  induction d with
  | zero =>
    intro i hi
    refine Ev.end_ (fun k => ?_)
    simp only [impl_TextOk.l0]
    rw [hz, if_neg (by omega), List.drop_of_length_le (by omega)]
    simp
    omega
  | succ d ih =>
    intro i hi
    have hlt : i < (B s).length := by omega
    have hr : (((B s).drop i).all cOk) = (cOk ((B s)[i]) && ((B s).drop (i + 1)).all cOk) := all_drop _ _ hlt
    rw [hr]
    cases hc : cOk ((B s)[i]) with
    | true =>
      have hc' := of_decide_eq_true hc
      refine Ev.cut (f := fun k => impl_TextOk.l0 k s (s.size : Int) ((i + 1 : Nat) : Int)) ?_ (fun k => ?_)
      · simpa using ih (i + 1) (by omega)
      · simp only [impl_TextOk.l0]
        rw [if_pos (by omega), if_pos (by omega), if_pos (by omega), bt_B s i hlt, wsucc i (by omega)]
        repeat' split
        all_goals first | rfl | (exfalso; omega)
    | false =>
      have hc' := of_decide_eq_false hc
      refine Ev.end_ (fun k => ?_)
      simp only [impl_TextOk.l0]
      rw [if_pos (by omega), if_pos (by omega), if_pos (by omega), bt_B s i hlt]
      simp only [Bool.false_and]
      repeat' split
      all_goals first | rfl | (exfalso; omega)
theorem impl_TextOk_is (s : ByteArray) (hs : s.size < 4611686018427387904) : Ev (fun k => impl_TextOk.f k s) (tOk (B s)) := by
  have h := impl_TextOk_l s hs (B s).length 0 (by omega)
  simpa [impl_TextOk.f, tOk] using h

theorem tOk_len {L : List UInt8} (h : tOk L = true) : L.length ≤ 48 := by
  simp [tOk] at h
  exact h.2

/-! Ranges, valid. -/
def spOk (a b : Int) : Bool := decide (0 ≤ a ∧ a < b ∧ b ≤ 48)
theorem impl_SpanOk_is (a b : Int) : impl_SpanOk.f a b = some (spOk a b) := by
  unfold impl_SpanOk.f spOk
  repeat' split
  all_goals first | exact dec_eq (by omega) | exact dec_false (by omega)

/-! Lists of ranges, valid. -/
theorem rdSpan_nat (L : List S40) (i : Nat) : rd_T40 L (i : Int) = L.getD i z40 := rfl
def SpsGood (L : List S40) (i : Nat) : Prop := spOk (L.getD i z40).f0 (L.getD i z40).f1 = true ∧ (0 < i → (L.getD (i - 1) z40).f1 < (L.getD i z40).f0)
def SpsOk (L : List S40) : Prop := (∀ j, j < L.length → SpsGood L j) ∧ L.length ≤ 12
theorem good_iff {L : List S40} {i : Nat} (h : SpsGood L i) : (∀ j, i ≤ j → j < L.length → SpsGood L j) ↔ (∀ j, i + 1 ≤ j → j < L.length → SpsGood L j) :=
  ⟨fun g j h1 h2 => g j (by omega) h2, fun g j h1 h2 => if e : j = i then e ▸ h else g j (by omega) h2⟩
theorem l1Min_is (a b : Int) : spec_l1Min.f a b = some (mn a b) := by
  unfold spec_l1Min.f mn
  split <;> split <;> first | rfl | (congr 1; omega)

/-! Reads. -/
def tRead (l : List UInt8) (a b : Int) : List UInt8 := if tOk l = true ∧ spOk a b = true then (l.take b.toNat).drop a.toNat else []
theorem impl_TextRead_is (s : ByteArray) (hs : s.size < 4611686018427387904) (a b : Int) : ∃ r, Ev (fun k => impl_TextRead.f k s a b) r ∧ B r = tRead (B s) a b := by
  have h := impl_TextOk_is s hs
  cases ht : tOk (B s) with
  | false =>
    rw [ht] at h
    refine ⟨⟨#[]⟩, Ev.bind h (Ev.all fun k => rfl), by simp [tRead, ht, B_nil]⟩
  | true =>
    rw [ht] at h
    cases hp : spOk a b with
    | false => refine ⟨⟨#[]⟩, Ev.bind h (Ev.all fun k => by simp [impl_SpanOk_is, hp]), by simp [tRead, hp, B_nil]⟩
    | true =>
      have hp' := of_decide_eq_true hp
      refine ⟨s.extract (mn a s.size).toNat (mn b s.size).toNat, Ev.bind h (Ev.all fun k => ?_), ?_⟩
      · simp only [impl_SpanOk_is, hp, if_true, Option.bind_some]
        rw [if_pos (by unfold mn; split <;> omega), if_pos (by unfold mn; split <;> split <;> omega), if_pos (by unfold mn; split <;> omega)]
      · rw [B_ext, tRead, if_pos ⟨ht, hp⟩]
        have hz : (s.size : Int) = ((B s).length : Int) := by rw [B_size]
        rw [hz]
        unfold mn
        split <;> split
        · rw [List.take_of_length_le (by omega), List.drop_of_length_le (by omega), List.drop_of_length_le (by rw [List.length_take]; omega)]
        · rw [List.drop_of_length_le (by rw [List.length_take]; omega), List.drop_of_length_le (by rw [List.length_take]; omega)]
        · rw [List.take_of_length_le (by omega), List.take_of_length_le (by omega)]
        · rfl

/-! A file made longer. -/
def padL (L : List UInt8) (n : Nat) : List UInt8 := L ++ List.replicate (n - L.length) 46
theorem padL_length (L : List UInt8) (n : Nat) : (padL L n).length = max L.length n := by simp [padL]; omega
theorem padL_short (L : List UInt8) (n : Nat) (h : n ≤ L.length) : padL L n = L := by simp [padL, Nat.sub_eq_zero_of_le h]
theorem l2Long_l : ∀ (d : Nat) (s : ByteArray) (n : Int), n.toNat - (B s).length = d → s.size < 4611686018427387904 → n < 4611686018427387904 → Ev (fun k => spec_l2Long.l0 k s n) (mkB (padL (B s) n.toNat)) := by
  intro d
  induction d with
  | zero =>
    intro s n hd hs hn
    refine Ev.end_ (fun k => ?_)
    simp only [spec_l2Long.l0]
    rw [if_neg (by rw [B_size]; omega), padL_short _ _ (by omega), mkB_B]
  | succ d ih =>
    intro s n hd hs hn
    have hb : B (s ++ (⟨#[46]⟩ : ByteArray)) = B s ++ [46] := by rw [B_app]; rfl
    have hz : (B s).length = s.size := (B_size s).symm
    have h := ih (s ++ (⟨#[46]⟩ : ByteArray)) n (by rw [hb]; simp; omega) (by rw [B_size, hb]; simp; omega) hn
    have e : padL (B (s ++ (⟨#[46]⟩ : ByteArray))) n.toNat = padL (B s) n.toNat := by
      rw [hb]
      unfold padL
      rw [List.append_assoc, List.length_append]
      congr 1
      rw [show n.toNat - (B s).length = (n.toNat - ((B s).length + [46].length)) + 1 by simp; omega, List.replicate_succ]
      rfl
    rw [e] at h
    refine Ev.cut h (fun k => ?_)
    simp only [spec_l2Long.l0]
    rw [if_pos (by rw [B_size]; omega), if_pos (by omega)]
theorem l2Long_is (s : ByteArray) (n : Int) (hs : s.size < 4611686018427387904) (hn : n < 4611686018427387904) : Ev (fun k => spec_l2Long.f k s n) (mkB (padL (B s) n.toNat)) := l2Long_l _ s n rfl hs hn

/-! A file cut, or made longer: the two programs'. -/
theorem sized_is (s : ByteArray) (n : Int) (h0 : 0 ≤ n) (hn : n ≤ 1000) (hs : s.size ≤ 1000) : impl_sized.f s n = some (mkB ((padL (B s) n.toNat).take n.toNat)) := by
  have hz : (B s).length = s.size := (B_size s).symm
  unfold impl_sized.f
  by_cases h : n ≤ (s.size : Int)
  · rw [if_pos h, if_pos h0]
    congr 1
    refine eq_mkB ?_
    rw [B_ext, padL_short _ _ (by omega)]
    rfl
  · have hw : wrap64 (n - (s.size : Int)) = n - (s.size : Int) := wid (by omega) (by omega)
    have hrep : Lib.repeatL (⟨#[46]⟩ : ByteArray).data.toList (n - (s.size : Int)).toNat = List.replicate (n - (s.size : Int)).toNat 46 := by
      have := Lib.repeatL_replicate 46 1 (n - (s.size : Int)).toNat
      rw [Nat.mul_one] at this
      exact this
    rw [if_neg h, hw]
    unfold strings_Repeat.f
    rw [if_pos (by omega), if_pos (by omega), if_pos (by show 1 * _ ≤ _; omega), Option.bind_some, hrep]
    have e : B (⟨(List.replicate (n - (s.size : Int)).toNat (46 : UInt8)).toArray⟩ : ByteArray) = List.replicate (n - (s.size : Int)).toNat 46 := B_mkB _
    have e2 : (⟨(List.replicate (n - (s.size : Int)).toNat (46 : UInt8)).toArray⟩ : ByteArray).size = (n - (s.size : Int)).toNat := by rw [B_size, e, List.length_replicate]
    rw [if_pos (by rw [e2]; omega)]
    congr 1
    refine eq_mkB ?_
    rw [B_app, e, List.take_of_length_le (by rw [padL_length]; omega)]
    unfold padL
    rw [show n.toNat - (B s).length = (n - (s.size : Int)).toNat by omega]
def tCut (L : List UInt8) (n : Int) : List UInt8 × Bool := if tOk L = true then (if 0 ≤ n ∧ n ≤ 48 then ((padL L n.toNat).take n.toNat, true) else (L, false)) else ([], false)
theorem impl_TextCut_is (s : ByteArray) (n : Int) (hz : s.size < 4611686018427387904) : Ev (fun k => impl_TextCut.f k s n) (mkB (tCut (B s) n).1, (tCut (B s) n).2) := by
  unfold impl_TextCut.f tCut
  refine Ev.bind (impl_TextOk_is s hz) ?_
  cases ht : tOk (B s) with
  | false => exact Ev.all fun k => rfl
  | true =>
    have hl := tOk_len ht
    have hzz : (B s).length = s.size := (B_size s).symm
    simp only [if_true]
    refine Ev.all fun k => ?_
    by_cases h0 : n < 0
    · rw [if_pos h0, if_neg (by omega), mkB_B]
    rw [if_neg h0]
    by_cases h1 : n > 48
    · rw [if_pos h1, if_neg (by omega), mkB_B]
    rw [if_neg h1, if_pos ⟨by omega, by omega⟩, sized_is s n (by omega) (by omega) (by omega)]
    rfl
/-! Bytes put into a file: the two programs'. -/
def wrL (L : List UInt8) (a : Nat) (D : List UInt8) : List UInt8 := (padL L a).take a ++ D ++ L.drop (a + D.length)
def tWrite (L : List UInt8) (a : Int) (D : List UInt8) : List UInt8 × Bool := if tOk L = true then (if 0 ≤ a ∧ a ≤ 48 ∧ D ≠ [] ∧ tOk D = true ∧ a + D.length ≤ 48 then (wrL L a.toNat D, true) else (L, false)) else ([], false)

theorem padL_take (L : List UInt8) {a b : Nat} (h : a ≤ b) : (padL L b).take a = (padL L a).take a := by
  unfold padL
  by_cases hl : a ≤ L.length
  · rw [List.take_append_of_le_length hl, List.take_append_of_le_length hl]
  · rw [List.take_append, List.take_append, List.take_replicate, List.take_replicate]
    congr 2
    omega
theorem padL_drop (L : List UInt8) {a b : Nat} (h : a ≤ b) : (padL L a).drop b = L.drop b := by
  by_cases hl : a ≤ L.length
  · rw [padL_short _ _ hl]
  · rw [List.drop_of_length_le (by rw [padL_length]; omega), List.drop_of_length_le (by omega)]
theorem toList_nil (d : ByteArray) : d.toList = ([] : List UInt8) ↔ B d = [] := by rw [B_toList]
theorem impl_TextWrite_is (s : ByteArray) (a : Int) (d : ByteArray) (hz : s.size < 4611686018427387904) (hd : d.size < 4611686018427387904) :
    Ev (fun k => impl_TextWrite.f k s a d) (mkB (tWrite (B s) a (B d)).1, (tWrite (B s) a (B d)).2) := by
  unfold impl_TextWrite.f tWrite
  refine Ev.bind (impl_TextOk_is s hz) ?_
  cases ht : tOk (B s) with
  | false => exact Ev.all fun k => rfl
  | true =>
    have hl := tOk_len ht
    have hzz : s.size = (B s).length := B_size s
    have hdz : d.size = (B d).length := B_size d
    simp only [if_true]
    by_cases h0 : a < 0
    · exact Ev.all fun k => by rw [if_pos h0, if_neg (by omega), mkB_B]
    simp only [if_neg h0]
    by_cases h1 : a > 48
    · exact Ev.all fun k => by rw [if_pos h1, if_neg (by omega), mkB_B]
    simp only [if_neg h1]
    by_cases h2 : B d = []
    · exact Ev.all fun k => by rw [if_pos ((toList_nil d).2 h2), if_neg (fun h => h.2.2.1 h2), mkB_B]
    simp only [if_neg (fun h => h2 ((toList_nil d).1 h))]
    refine Ev.bind (impl_TextOk_is d hd) ?_
    cases h3 : tOk (B d) with
    | false => exact Ev.all fun k => by rw [if_neg (by simp), if_neg (by simp), mkB_B]
    | true =>
      simp only [if_true]
      have hdl := tOk_len h3
      have hw : wrap64 (a + (d.size : Int)) = a + ((B d).length : Int) := by rw [wid (by omega) (by omega), hdz]
      simp only [hw]
      by_cases h4 : a + ((B d).length : Int) > 48
      · exact Ev.all fun k => by rw [if_pos h4, if_neg (by omega), mkB_B]
      simp only [if_neg h4]
      refine Ev.all fun k => ?_
      have hmx : mx (s.size : Int) (a + ((B d).length : Int)) = max ((B s).length : Int) (a + ((B d).length : Int)) := by unfold mx; rw [hzz]; split <;> omega
      have hmn : mn (a + ((B d).length : Int)) (s.size : Int) = min (a + ((B d).length : Int)) ((B s).length : Int) := by unfold mn; rw [hzz]; split <;> omega
      rw [hmx, hmn, sized_is s _ (by omega) (by omega) (by omega), Option.bind_some, if_pos (show 0 ≤ a ∧ a ≤ 48 ∧ B d ≠ [] ∧ True ∧ a + ((B d).length : Int) ≤ 48 from ⟨by omega, by omega, h2, trivial, by omega⟩)]
      generalize hT : (padL (B s) (max ((B s).length : Int) (a + ((B d).length : Int))).toNat).take (max ((B s).length : Int) (a + ((B d).length : Int))).toNat = T
      have hTl : T.length = (max ((B s).length : Int) (a + ((B d).length : Int))).toNat := by rw [← hT, List.length_take, padL_length]; omega
      have hTt : T.take a.toNat = (padL (B s) a.toNat).take a.toNat := by
        rw [← hT, List.take_take, Nat.min_eq_left (by omega), padL_take _ (by omega)]
      have e1 : B ((mkB T).extract 0 a.toNat) = (padL (B s) a.toNat).take a.toNat := by rw [B_ext, B_mkB]; exact hTt
      have e1l : ((mkB T).extract 0 a.toNat).size ≤ 48 := by rw [B_size, e1, List.length_take, padL_length]; omega
      have e2 : B (s.extract (min (a + ((B d).length : Int)) ((B s).length : Int)).toNat s.size) = (B s).drop (a.toNat + (B d).length) := by
        rw [B_ext, hzz, List.take_length]
        by_cases hle : a + ((B d).length : Int) ≤ ((B s).length : Int)
        · rw [Int.min_eq_left hle, show (a + ((B d).length : Int)).toNat = a.toNat + (B d).length by omega]
        · rw [Int.min_eq_right (by omega), List.drop_of_length_le (by omega), List.drop_of_length_le (by omega)]
      have e2l : (s.extract (min (a + ((B d).length : Int)) ((B s).length : Int)).toNat s.size).size ≤ 48 := by rw [B_size, e2, List.length_drop]; omega
      rw [if_pos (by omega), if_pos (by rw [mkB_size, hTl]; omega), if_pos (by omega), if_pos (by omega), if_pos (by omega), if_pos (by rw [app_size]; omega)]
      congr 2
      refine eq_mkB ?_
      rw [B_app, B_app, e1, e2]
      rfl
theorem spec_TextWrite_is (s : ByteArray) (a : Int) (d : ByteArray) (hz : s.size < 4611686018427387904) (hd : d.size < 4611686018427387904) :
    Ev (fun k => spec_TextWrite.f k s a d) (mkB (tWrite (B s) a (B d)).1, (tWrite (B s) a (B d)).2) := by
  unfold spec_TextWrite.f tWrite
  refine Ev.bind (spec_TextOk_is s hz) ?_
  cases ht : tOk (B s) with
  | false => exact Ev.all fun k => rfl
  | true =>
    have hl := tOk_len ht
    have hzz : s.size = (B s).length := B_size s
    have hdz : d.size = (B d).length := B_size d
    simp only [if_true]
    by_cases h0 : a < 0
    · exact Ev.all fun k => by rw [if_pos h0, if_neg (by omega), mkB_B]
    simp only [if_neg h0]
    by_cases h1 : a > 48
    · exact Ev.all fun k => by rw [if_pos h1, if_neg (by omega), mkB_B]
    simp only [if_neg h1]
    refine Ev.bind (spec_TextOk_is d hd) ?_
    cases h3 : tOk (B d) with
    | false => exact Ev.all fun k => by rw [if_neg (by simp), if_neg (by simp), mkB_B]
    | true =>
      simp only [if_true]
      by_cases h2 : B d = []
      · exact Ev.all fun k => by rw [if_pos ((toList_nil d).2 h2), if_neg (fun h => h.2.2.1 h2), mkB_B]
      simp only [if_neg (fun h => h2 ((toList_nil d).1 h))]
      have hdl := tOk_len h3
      have hw : wrap64 (a + (d.size : Int)) = a + ((B d).length : Int) := by rw [wid (by omega) (by omega), hdz]
      simp only [hw]
      by_cases h4 : a + ((B d).length : Int) > 48
      · exact Ev.all fun k => by rw [if_pos h4, if_neg (by omega), mkB_B]
      simp only [if_neg h4]
      rw [if_pos (show 0 ≤ a ∧ a ≤ 48 ∧ B d ≠ [] ∧ True ∧ a + ((B d).length : Int) ≤ 48 from ⟨by omega, by omega, h2, trivial, by omega⟩)]
      unfold spec_l2Write.f
      simp only [hw]
      refine Ev.bind (a := mkB (wrL (B s) a.toNat (B d))) (Ev.bind (l2Long_is s a hz (by omega)) (Ev.all fun k => ?_)) (Ev.now _)
      have hTl : (padL (B s) a.toNat).length = max (B s).length a.toNat := padL_length _ _
      have e1 : B ((mkB (padL (B s) a.toNat)).extract 0 a.toNat) = (padL (B s) a.toNat).take a.toNat := by rw [B_ext, B_mkB]; rfl
      have e1l : ((mkB (padL (B s) a.toNat)).extract 0 a.toNat).size ≤ 48 := by rw [B_size, e1, List.length_take, padL_length]; omega
      have hmn : mn ((mkB (padL (B s) a.toNat)).size : Int) (a + ((B d).length : Int)) = min ((padL (B s) a.toNat).length : Int) (a + ((B d).length : Int)) := by unfold mn; rw [mkB_size]; split <;> omega
      have e2 : B ((mkB (padL (B s) a.toNat)).extract (min ((padL (B s) a.toNat).length : Int) (a + ((B d).length : Int))).toNat (mkB (padL (B s) a.toNat)).size) = (B s).drop (a.toNat + (B d).length) := by
        rw [B_ext, B_mkB, mkB_size, List.take_length]
        by_cases hle : a + ((B d).length : Int) ≤ ((padL (B s) a.toNat).length : Int)
        · rw [Int.min_eq_right hle, show (a + ((B d).length : Int)).toNat = a.toNat + (B d).length by omega, padL_drop _ (by omega)]
        · rw [Int.min_eq_left (by omega), List.drop_of_length_le (by omega), List.drop_of_length_le (by omega)]
      have e2l : ((mkB (padL (B s) a.toNat)).extract (min ((padL (B s) a.toNat).length : Int) (a + ((B d).length : Int))).toNat (mkB (padL (B s) a.toNat)).size).size ≤ 48 := by rw [B_size, e2, List.length_drop]; omega
      rw [if_pos (by omega), if_pos (by rw [mkB_size, hTl]; omega), if_pos (by omega), l1Min_is, Option.bind_some, hmn, if_pos (by omega), if_pos (by rw [mkB_size]; omega), if_pos (by rw [app_size]; omega)]
      congr 1
      refine eq_mkB ?_
      rw [B_app, B_app, e1, e2]
      rfl

theorem getD_lt (L : List UInt8) (i : Nat) (h : i < L.length) : L[i]? = some (L.getD i 46) := by
  rw [List.getD_eq_getElem?_getD, List.getElem?_eq_getElem h]
  rfl
theorem getD_ge (L : List UInt8) (i : Nat) (h : ¬ i < L.length) : L.getD i 46 = 46 := by
  rw [List.getD_eq_getElem?_getD, List.getElem?_eq_none (by omega)]
  rfl
theorem tOk_iff {L : List UInt8} : tOk L = true ↔ (∀ x ∈ L, cOk x = true) ∧ L.length ≤ 48 := by
  unfold tOk
  rw [Bool.and_eq_true, List.all_eq_true, decide_eq_true_iff]
theorem bt_get {s : ByteArray} {i : Nat} {x : UInt8} (h : (B s)[i]? = some x) : bt s (i : Int) = (x.toNat : Int) := by
  have hl := (List.getElem?_eq_some_iff.1 h).1
  rw [bt_B s i hl, (List.getElem?_eq_some_iff.1 h).2]

/-! What a write leaves, place by place. -/
theorem padL_get (L : List UInt8) (n i : Nat) (h : i < max L.length n) : (padL L n)[i]? = some (L.getD i 46) := by
  unfold padL
  by_cases hl : i < L.length
  · rw [List.getElem?_append_left hl, getD_lt L i hl]
  · rw [List.getElem?_append_right (by omega), List.getElem?_replicate, if_pos (by omega), getD_ge L i hl]
theorem wrL_get (L : List UInt8) (a : Nat) (D : List UInt8) (i : Nat) : (wrL L a D)[i]? = if i < a then some (L.getD i 46) else if i < a + D.length then D[i - a]? else L[i]? := by
  have hl : ((padL L a).take a).length = a := by rw [List.length_take, padL_length]; omega
  unfold wrL
  by_cases h : i < a
  · rw [if_pos h, List.append_assoc, List.getElem?_append_left (by omega), List.getElem?_take, if_pos h, padL_get _ _ _ (by omega)]
  · rw [if_neg h]
    by_cases h2 : i < a + D.length
    · rw [if_pos h2, List.append_assoc, List.getElem?_append_right (by omega), hl, List.getElem?_append_left (by omega)]
    · rw [if_neg h2, List.append_assoc, List.getElem?_append_right (by omega), hl, List.getElem?_append_right (by omega), List.getElem?_drop]
      congr 1
      omega
theorem wrL_length (L : List UInt8) (a : Nat) (D : List UInt8) : (wrL L a D).length = max L.length (a + D.length) := by
  unfold wrL
  rw [List.length_append, List.length_append, List.length_take, padL_length, List.length_drop]
  omega
theorem padL_mem {L : List UInt8} {n : Nat} {x : UInt8} (h : x ∈ padL L n) : x ∈ L ∨ x = 46 := by
  unfold padL at h
  rcases List.mem_append.1 h with h | h
  · exact .inl h
  · exact .inr (List.eq_of_mem_replicate h)
theorem wrL_tOk {L : List UInt8} {a : Nat} {D : List UInt8} (h : tOk L = true) (hD : tOk D = true) (ha : a + D.length ≤ 48) : tOk (wrL L a D) = true := by
  obtain ⟨h1, h2⟩ := tOk_iff.1 h
  obtain ⟨d1, _⟩ := tOk_iff.1 hD
  refine tOk_iff.2 ⟨fun x hx => ?_, by rw [wrL_length]; omega⟩
  unfold wrL at hx
  rcases List.mem_append.1 hx with hx | hx
  · rcases List.mem_append.1 hx with hx | hx
    · rcases padL_mem (List.mem_of_mem_take hx) with hx | rfl
      · exact h1 x hx
      · rfl
    · exact d1 x hx
  · exact h1 x (List.mem_of_mem_drop hx)
theorem cut_tOk {L : List UInt8} {n : Nat} (h : tOk L = true) (hn : n ≤ 48) : tOk ((padL L n).take n) = true := by
  obtain ⟨h1, h2⟩ := tOk_iff.1 h
  refine tOk_iff.2 ⟨fun x hx => ?_, by rw [List.length_take]; omega⟩
  rcases padL_mem (List.mem_of_mem_take hx) with hx | rfl
  · exact h1 x hx
  · rfl
theorem wrL_again (L : List UInt8) (a : Nat) (D : List UInt8) : wrL (wrL L a D) a D = wrL L a D := by
  apply List.ext_getElem?
  intro i
  rw [wrL_get]
  by_cases h : i < a
  · rw [if_pos h, wrL_get, if_pos h, List.getD_eq_getElem?_getD, wrL_get, if_pos h]
    rfl
  · rw [if_neg h]
    by_cases h2 : i < a + D.length
    · rw [if_pos h2, wrL_get, if_neg h, if_pos h2]
    · rw [if_neg h2]
theorem wrL_read (L : List UInt8) (a : Nat) (D : List UInt8) : ((wrL L a D).take (a + D.length)).drop a = D := by
  apply List.ext_getElem?
  intro i
  rw [List.getElem?_drop, List.getElem?_take]
  by_cases h : i < D.length
  · rw [if_pos (by omega), wrL_get, if_neg (by omega), if_pos (by omega)]
    congr 1
    omega
  · rw [if_neg (by omega), List.getElem?_eq_none (by omega)]

theorem tWrite_true {L : List UInt8} {a : Int} {D : List UInt8} (h : (tWrite L a D).2 = true) : tOk L = true ∧ 0 ≤ a ∧ a ≤ 48 ∧ D ≠ [] ∧ tOk D = true ∧ a + D.length ≤ 48 ∧ (tWrite L a D).1 = wrL L a.toNat D := by
  unfold tWrite at h ⊢
  by_cases h1 : tOk L = true
  · rw [if_pos h1] at h ⊢
    by_cases h2 : 0 ≤ a ∧ a ≤ 48 ∧ D ≠ [] ∧ tOk D = true ∧ a + D.length ≤ 48
    · rw [if_pos h2]
      exact ⟨h1, h2.1, h2.2.1, h2.2.2.1, h2.2.2.2.1, h2.2.2.2.2, rfl⟩
    · rw [if_neg h2] at h
      cases h
  · rw [if_neg h1] at h
    cases h
theorem tWrite_mk {L : List UInt8} {a : Int} {D : List UInt8} (h1 : tOk L = true) (h2 : 0 ≤ a) (h3 : a ≤ 48) (h4 : D ≠ []) (h5 : tOk D = true) (h6 : a + D.length ≤ 48) : tWrite L a D = (wrL L a.toNat D, true) := by
  unfold tWrite
  rw [if_pos h1, if_pos ⟨h2, h3, h4, h5, h6⟩]
theorem tWrite_false {L : List UInt8} {a : Int} {D : List UInt8} (h : (tWrite L a D).2 = false) : (tOk L = true ∧ (tWrite L a D).1 = L) ∨ (tOk L = false ∧ (tWrite L a D).1 = []) := by
  unfold tWrite at h ⊢
  by_cases h1 : tOk L = true
  · rw [if_pos h1] at h ⊢
    by_cases h2 : 0 ≤ a ∧ a ≤ 48 ∧ D ≠ [] ∧ tOk D = true ∧ a + D.length ≤ 48
    · rw [if_pos h2] at h
      cases h
    · rw [if_neg h2]
      exact .inl ⟨h1, rfl⟩
  · rw [if_neg h1]
    exact .inr ⟨by simpa using h1, rfl⟩

/-! Files that are one place by place. -/
theorem ext_getD {L M : List UInt8} (h : L.length = M.length) (g : ∀ i, L.getD i 46 = M.getD i 46) : L = M := by
  apply List.ext_getElem?
  intro i
  by_cases hi : i < L.length
  · rw [getD_lt L i hi, getD_lt M i (by omega), g]
  · rw [List.getElem?_eq_none (by omega), List.getElem?_eq_none (by omega)]

theorem wrL_getD (L : List UInt8) (a : Nat) (D : List UInt8) (i : Nat) : (wrL L a D).getD i 46 = if a ≤ i ∧ i < a + D.length then D.getD (i - a) 46 else L.getD i 46 := by
  rw [List.getD_eq_getElem?_getD, wrL_get]
  by_cases h : i < a
  · rw [if_pos h, if_neg (by omega)]
    rfl
  · rw [if_neg h]
    by_cases h2 : i < a + D.length
    · rw [if_pos h2, if_pos ⟨by omega, h2⟩, List.getD_eq_getElem?_getD]
    · rw [if_neg h2, if_neg (by omega), List.getD_eq_getElem?_getD]
theorem app_getD (D E : List UInt8) (i : Nat) : (D ++ E).getD i 46 = if i < D.length then D.getD i 46 else E.getD (i - D.length) 46 := by
  rw [List.getD_eq_getElem?_getD]
  by_cases h : i < D.length
  · rw [if_pos h, List.getElem?_append_left h, List.getD_eq_getElem?_getD]
  · rw [if_neg h, List.getElem?_append_right (by omega), List.getD_eq_getElem?_getD]
theorem wrL_comm (L : List UInt8) {a c : Nat} {D E : List UInt8} (h : a + D.length ≤ c ∨ c + E.length ≤ a) : wrL (wrL L a D) c E = wrL (wrL L c E) a D := by
  refine ext_getD (by simp only [wrL_length]; omega) (fun i => ?_)
  simp only [wrL_getD]
  by_cases h1 : a ≤ i ∧ i < a + D.length
  · rw [if_neg (by omega), if_pos h1, if_pos h1]
  · rw [if_neg h1, if_neg h1]
theorem wrL_split (L : List UInt8) (a : Nat) (D E : List UInt8) : wrL (wrL L a D) (a + D.length) E = wrL L a (D ++ E) := by
  refine ext_getD (by simp only [wrL_length, List.length_append]; omega) (fun i => ?_)
  simp only [wrL_getD, List.length_append, app_getD]
  by_cases h1 : a ≤ i ∧ i < a + D.length
  · rw [if_neg (by omega), if_pos h1, if_pos ⟨h1.1, by omega⟩, if_pos (by omega)]
  · by_cases h2 : a + D.length ≤ i ∧ i < a + D.length + E.length
    · rw [if_pos h2, if_pos ⟨by omega, by omega⟩, if_neg (by omega)]
      congr 1
      omega
    · rw [if_neg h2, if_neg h1, if_neg (by omega)]
theorem wrL_back (L : List UInt8) (a : Nat) (D : List UInt8) (h : a + D.length ≤ L.length) : wrL (wrL L a D) a ((L.take (a + D.length)).drop a) = L := by
  have hl : ((L.take (a + D.length)).drop a).length = D.length := by rw [List.length_drop, List.length_take]; omega
  refine ext_getD (by simp only [wrL_length, hl]; omega) (fun i => ?_)
  simp only [wrL_getD, hl]
  by_cases h1 : a ≤ i ∧ i < a + D.length
  · rw [if_pos h1, List.getD_eq_getElem?_getD, List.getElem?_drop, List.getElem?_take, if_pos (by omega), show a + (i - a) = i by omega, List.getD_eq_getElem?_getD]
  · rw [if_neg h1, if_neg h1]

/-! Sets of places as lists of 48 truth values, and the ranges of one. -/
theorem getD_set' (z : List Bool) (i p : Nat) (b : Bool) : (z.set i b).getD p false = if p = i ∧ i < z.length then b else z.getD p false := by
  rw [List.getD_eq_getElem?_getD, List.getD_eq_getElem?_getD, List.getElem?_set]
  by_cases h : i = p
  · subst h
    by_cases hl : i < z.length
    · simp [hl]
    · simp [hl]
  · rw [if_neg h, if_neg (fun hh => h hh.1.symm)]
def chB (P : Nat → Bool) : List Bool := (List.range 48).map P
theorem chB_len (P : Nat → Bool) : (chB P).length = 48 := by simp [chB]
theorem chB_get (P : Nat → Bool) (i : Nat) (h : i < 48) : (chB P).getD i false = P i := by
  rw [List.getD_eq_getElem?_getD]
  simp [chB, h]
theorem ext48 {x y : List Bool} (hx : x.length = 48) (hy : y.length = 48) (h : ∀ p, p < 48 → x.getD p false = y.getD p false) : x = y := by
  apply List.ext_getElem (by omega)
  intro i h1 h2
  have := h i (by omega)
  simpa [h1, h2] using this
def inL (L : List S40) (p : Nat) : Bool := L.any fun s => decide (s.f0 ≤ (p : Int)) && decide ((p : Int) < s.f1)
theorem inL_cons (s : S40) (L : List S40) (p : Nat) : inL (s :: L) p = (decide (s.f0 ≤ (p : Int)) && decide ((p : Int) < s.f1) || inL L p) := by simp [inL]
theorem inL_app (L M : List S40) (p : Nat) : inL (L ++ M) p = (inL L p || inL M p) := by simp [inL]
theorem inL_nil (p : Nat) : inL ([] : List S40) p = false := rfl
theorem inL_iff (L : List S40) (p : Nat) : inL L p = true ↔ ∃ s ∈ L, s.f0 ≤ (p : Int) ∧ (p : Int) < s.f1 := by simp [inL]
/-! Ranges in their order, each behind a gap. -/
def GL : Int → List S40 → Prop
  | _, [] => True
  | b, s :: l => b ≤ s.f0 ∧ s.f0 < s.f1 ∧ s.f1 ≤ 48 ∧ GL (s.f1 + 1) l
theorem GL_mono : ∀ {L : List S40} {b c : Int}, GL b L → c ≤ b → GL c L
  | [], _, _, _, _ => trivial
  | _ :: _, _, _, h, hc => ⟨by have := h.1; omega, h.2⟩
theorem GL_low : ∀ {L : List S40} {b : Int}, GL b L → ∀ s ∈ L, b ≤ s.f0 ∧ s.f0 < s.f1 ∧ s.f1 ≤ 48
  | [], _, _, _, hs => by simp at hs
  | t :: l, b, h, s, hs => by
    rcases List.mem_cons.1 hs with rfl | hs
    · exact ⟨h.1, h.2.1, h.2.2.1⟩
    · have := GL_low h.2.2.2 s hs
      have := h.1; have := h.2.1
      exact ⟨by omega, by omega, by omega⟩
theorem GL_in {L : List S40} {b : Int} (h : GL b L) {p : Nat} (hp : inL L p = true) : b ≤ (p : Int) ∧ p < 48 := by
  obtain ⟨s, hs, h0, h1⟩ := (inL_iff L p).1 hp
  have := GL_low h s hs
  omega
theorem GL_out {L : List S40} {b : Int} (h : GL b L) {p : Nat} (hp : (p : Int) < b ∨ 48 ≤ p) : inL L p = false := by
  cases hq : inL L p with
  | false => rfl
  | true => have := GL_in h hq; omega
/-- What tells the places tells the ranges. -/
theorem GL_uniq : ∀ {L M : List S40} {b c : Int}, 0 ≤ b → 0 ≤ c → GL b L → GL c M → (∀ p, p < 48 → inL L p = inL M p) → L = M
  | [], [], _, _, _, _, _, _, _ => rfl
  | [], t :: m, b, c, h0, h0', h, h', e => by
    have := h'.1; have := h'.2.1; have := h'.2.2.1
    have ep := e t.f0.toNat (by omega)
    rw [inL_nil, inL_cons, decide_eq_true (show t.f0 ≤ (t.f0.toNat : Int) by omega), decide_eq_true (show (t.f0.toNat : Int) < t.f1 by omega)] at ep
    simp at ep
  | s :: l, [], b, c, h0, h0', h, h', e => by
    have := h.1; have := h.2.1; have := h.2.2.1
    have ep := e s.f0.toNat (by omega)
    rw [inL_nil, inL_cons, decide_eq_true (show s.f0 ≤ (s.f0.toNat : Int) by omega), decide_eq_true (show (s.f0.toNat : Int) < s.f1 by omega)] at ep
    simp at ep
  | s :: l, t :: m, b, c, h0, h0', h, h', e => by
    obtain ⟨a1, a2, a3, a4⟩ := h
    obtain ⟨b1, b2, b3, b4⟩ := h'
    have key : ∀ (p : Nat), p < 48 → ((s.f0 ≤ (p : Int) ∧ (p : Int) < s.f1) ∨ inL l p = true ↔ (t.f0 ≤ (p : Int) ∧ (p : Int) < t.f1) ∨ inL m p = true) := by
      intro p hp
      have ep := e p hp
      rw [inL_cons, inL_cons] at ep
      have := Bool.eq_iff_iff.1 ep
      simpa using this
    have hl : ∀ (p : Nat), (p : Int) < s.f1 + 1 → ¬ inL l p = true := fun p hp hq => by have := GL_in a4 hq; omega
    have hm : ∀ (p : Nat), (p : Int) < t.f1 + 1 → ¬ inL m p = true := fun p hp hq => by have := GL_in b4 hq; omega
    have e0 : s.f0 = t.f0 := by
      by_cases h1 : s.f0 < t.f0
      · have := (key s.f0.toNat (by omega)).1 (.inl (by omega))
        rcases this with h | h
        · omega
        · exact absurd h (hm _ (by omega))
      · by_cases h2 : t.f0 < s.f0
        · have := (key t.f0.toNat (by omega)).2 (.inl (by omega))
          rcases this with h | h
          · omega
          · exact absurd h (hl _ (by omega))
        · omega
    have e1 : s.f1 = t.f1 := by
      by_cases h1 : s.f1 < t.f1
      · have := (key s.f1.toNat (by omega)).2 (.inl (by omega))
        rcases this with h | h
        · omega
        · exact absurd h (hl _ (by omega))
      · by_cases h2 : t.f1 < s.f1
        · have := (key t.f1.toNat (by omega)).1 (.inl (by omega))
          rcases this with h | h
          · omega
          · exact absurd h (hm _ (by omega))
        · omega
    have est : s = t := by
      cases s; cases t
      simp only at e0 e1
      subst e0; subst e1
      rfl
    subst est
    have el : l = m := GL_uniq (by omega) (by omega) a4 b4 (by
      intro p hp
      by_cases hps : (p : Int) < s.f1 + 1
      · rw [GL_out a4 (.inl hps), GL_out b4 (.inl hps)]
      · have := key p hp
        rw [Bool.eq_iff_iff]
        constructor
        · intro h
          rcases this.1 (.inr h) with h | h
          · omega
          · exact h
        · intro h
          rcases this.2 (.inr h) with h | h
          · omega
          · exact h)
    rw [el]
/-! The list at the places' end: one more, or the last one longer. -/
theorem GL_snoc : ∀ {L : List S40} {b : Int} {t : S40}, GL b (L ++ [t]) ↔ GL b L ∧ (∀ s ∈ L, s.f1 < t.f0) ∧ b ≤ t.f0 ∧ t.f0 < t.f1 ∧ t.f1 ≤ 48
  | [], b, t => by simp [GL]
  | s :: l, b, t => by
    simp only [List.cons_append, GL]
    rw [GL_snoc (L := l)]
    constructor
    · rintro ⟨h1, h2, h3, h4, h5, h6, h7, h8⟩
      refine ⟨⟨h1, h2, h3, h4⟩, ?_, by omega, h7, h8⟩
      intro x hx
      rcases List.mem_cons.1 hx with rfl | hx
      · omega
      · exact h5 x hx
    · rintro ⟨⟨h1, h2, h3, h4⟩, h5, h6, h7, h8⟩
      exact ⟨h1, h2, h3, h4, fun x hx => h5 x (List.mem_cons_of_mem _ hx), by have := h5 s (by simp); omega, h7, h8⟩
theorem GL_iff : ∀ {L : List S40} {b : Int}, 0 ≤ b → (GL b L ↔ (∀ j, j < L.length → SpsGood L j) ∧ ∀ s, L[0]? = some s → b ≤ s.f0)
  | [], b, _ => by simp [GL]
  | s :: l, b, hb => by
    simp only [GL]
    constructor
    · rintro ⟨h1, h2, h3, h4⟩
      have ih := (GL_iff (L := l) (b := s.f1 + 1) (by omega)).1 h4
      refine ⟨fun j hj => ?_, fun t ht => by simp at ht; subst ht; exact h1⟩
      cases j with
      | zero => exact ⟨decide_eq_true ⟨by show 0 ≤ s.f0; omega, h2, h3⟩, fun h => absurd h (by omega)⟩
      | succ j =>
        have hjl : j < l.length := by simpa using hj
        have g := ih.1 j hjl
        refine ⟨g.1, fun _ => ?_⟩
        cases j with
        | zero =>
          have := ih.2 (l.getD 0 z40) (by rw [List.getD_eq_getElem?_getD, List.getElem?_eq_getElem hjl]; rfl)
          show s.f1 < (l.getD 0 z40).f0
          omega
        | succ i => exact g.2 (by omega)
    · rintro ⟨h1, h2⟩
      have g0 : 0 ≤ s.f0 ∧ s.f0 < s.f1 ∧ s.f1 ≤ 48 := of_decide_eq_true (h1 0 (by simp)).1
      have e0 : b ≤ s.f0 := h2 s rfl
      refine ⟨e0, g0.2.1, g0.2.2, (GL_iff (L := l) (b := s.f1 + 1) (by omega)).2 ⟨fun j hj => ?_, fun t ht => ?_⟩⟩
      · have g := h1 (j + 1) (by simp; omega)
        refine ⟨g.1, fun hj0 => ?_⟩
        have g2 := g.2 (by omega)
        cases j with
        | zero => omega
        | succ i => exact g2
      · have hl : 0 < l.length := by
          cases l with
          | nil => simp at ht
          | cons x l => simp
        have g2 := (h1 1 (by simp; omega)).2 (by omega)
        have et : l.getD 0 z40 = t := by rw [List.getD_eq_getElem?_getD, ht]; rfl
        have g3 : s.f1 < (l.getD 0 z40).f0 := g2
        rw [et] at g3
        omega
theorem SpsOk_iff (L : List S40) : SpsOk L ↔ GL 0 L ∧ L.length ≤ 12 := by
  unfold SpsOk
  rw [GL_iff (by omega)]
  constructor
  · rintro ⟨h1, h2⟩
    refine ⟨⟨h1, fun s hs => ?_⟩, h2⟩
    have hl : 0 < L.length := by
      cases L with
      | nil => simp at hs
      | cons x l => simp
    have g := of_decide_eq_true (h1 0 hl).1
    have e : L.getD 0 z40 = s := by rw [List.getD_eq_getElem?_getD, hs]; rfl
    rw [e] at g
    exact g.1
  · rintro ⟨⟨h1, _⟩, h2⟩
    exact ⟨h1, h2⟩

/-! The program's own loops over places. -/
/-! The ranges of a list of places. -/
theorem runR_spec (x : List Bool) : ∀ (d i : Nat), 48 < i + d → i ≤ 48 → i ≤ runR x d i ∧ runR x d i ≤ 48 ∧ (∀ p, i ≤ p → p < runR x d i → x.getD p false = true) ∧ (runR x d i < 48 → x.getD (runR x d i) false = false)
  | 0, i, h, hi => by omega
  | d + 1, i, h, hi => by
    by_cases h48 : i < 48
    · cases hx : x.getD i false with
      | true =>
        have e : runR x (d + 1) i = runR x d (i + 1) := by rw [runR, if_pos h48, if_pos hx]
        rw [e]
        obtain ⟨h1, h2, h3, h4⟩ := runR_spec x d (i + 1) (by omega) (by omega)
        refine ⟨by omega, h2, fun p hp hq => ?_, h4⟩
        by_cases e : p = i
        · rw [e]; exact hx
        · exact h3 p (by omega) hq
      | false =>
        have e : runR x (d + 1) i = i := by rw [runR, if_pos h48, hx]; rfl
        rw [e]
        exact ⟨by omega, by omega, fun p hp hq => by omega, fun _ => hx⟩
    · have e : runR x (d + 1) i = i := by rw [runR, if_neg h48]
      rw [e]
      exact ⟨by omega, by omega, fun p hp hq => by omega, fun _ => by omega⟩
theorem spansR_spec (x : List Bool) : ∀ (d i : Nat) (out : List S40), 48 < i + d → ∃ R, spansR x d i out = out ++ R ∧ GL (i : Int) R ∧ ∀ p, p < 48 → inL R p = (decide (i ≤ p) && x.getD p false)
  | 0, i, out, h => ⟨[], by simp [spansR], trivial, fun p hp => by rw [decide_eq_false (by omega)]; rfl⟩
  | d + 1, i, out, h => by
    by_cases h48 : i < 48
    · cases hx : x.getD i false with
      | true =>
        obtain ⟨h1, h2, h3, h4⟩ := runR_spec x 49 i (by omega) (by omega)
        have hgt : i < runR x 49 i := by
          rcases Nat.lt_or_eq_of_le h1 with hh | hh
          · exact hh
          · have := h4 (by omega)
            rw [← hh, hx] at this
            cases this
        have e : spansR x (d + 1) i out = spansR x d (runR x 49 i + 1) (out ++ [⟨(i : Int), (runR x 49 i : Int)⟩]) := by rw [spansR, if_pos h48, if_pos hx]
        generalize runR x 49 i = e1 at h1 h2 h3 h4 hgt e
        obtain ⟨R, hR1, hR2, hR3⟩ := spansR_spec x d (e1 + 1) (out ++ [⟨(i : Int), (e1 : Int)⟩]) (by omega)
        refine ⟨⟨(i : Int), (e1 : Int)⟩ :: R, by rw [e, hR1]; simp, ⟨by show (i : Int) ≤ (i : Int); omega, by show (i : Int) < (e1 : Int); omega, by show (e1 : Int) ≤ 48; omega, by simpa using hR2⟩, fun p hp => ?_⟩
        rw [inL_cons, hR3 p hp, Bool.eq_iff_iff]
        simp only [Bool.or_eq_true, Bool.and_eq_true, decide_eq_true_iff]
        constructor
        · rintro (⟨q1, q2⟩ | ⟨q1, q2⟩)
          · exact ⟨by omega, h3 p (by omega) (by omega)⟩
          · exact ⟨by omega, q2⟩
        · rintro ⟨q1, q2⟩
          by_cases hpe : p < e1
          · exact .inl ⟨by omega, by omega⟩
          · refine .inr ⟨?_, q2⟩
            by_cases hpe2 : p = e1
            · have := h4 (by omega)
              rw [← hpe2, q2] at this
              cases this
            · omega
      | false =>
        have e : spansR x (d + 1) i out = spansR x d (i + 1) out := by rw [spansR, if_pos h48, hx]; rfl
        obtain ⟨R, hR1, hR2, hR3⟩ := spansR_spec x d (i + 1) out (by omega)
        refine ⟨R, by rw [e, hR1], GL_mono hR2 (by omega), fun p hp => ?_⟩
        rw [hR3 p hp, Bool.eq_iff_iff]
        simp only [Bool.and_eq_true, decide_eq_true_iff]
        constructor
        · rintro ⟨q1, q2⟩
          exact ⟨by omega, q2⟩
        · rintro ⟨q1, q2⟩
          refine ⟨?_, q2⟩
          by_cases hpi : p = i
          · rw [hpi, hx] at q2
            cases q2
          · omega
    · exact ⟨[], by rw [spansR, if_neg h48]; simp, trivial, fun p hp => by rw [decide_eq_false (by omega)]; rfl⟩
def runs (x : List Bool) : List S40 := spansR x 49 0 []
theorem runs_GL (x : List Bool) : GL 0 (runs x) := by
  obtain ⟨R, h1, h2, _⟩ := spansR_spec x 49 0 [] (by omega)
  unfold runs
  rw [h1]
  simpa using h2
theorem runs_in (x : List Bool) (p : Nat) (hp : p < 48) : inL (runs x) p = x.getD p false := by
  obtain ⟨R, h1, _, h3⟩ := spansR_spec x 49 0 [] (by omega)
  unfold runs
  rw [h1, List.nil_append, h3 p hp]
  simp
theorem runs_eq {x : List Bool} {L : List S40} (h : GL 0 L) (hx : ∀ p, p < 48 → inL L p = x.getD p false) : runs x = L :=
  GL_uniq (by omega) (by omega) (runs_GL x) h (fun p hp => by rw [runs_in x p hp, hx p hp])
theorem runs_congr {x y : List Bool} (h : ∀ p, p < 48 → x.getD p false = y.getD p false) : runs x = runs y :=
  runs_eq (runs_GL y) (fun p hp => by rw [runs_in y p hp, h p hp])

/-! What the program's functions on lists of ranges come to. -/
def inS (x y : Int) (p : Nat) : Bool := decide (x ≤ (p : Int)) && decide ((p : Int) < y)
theorem inS_iff (x y : Int) (p : Nat) : inS x y p = true ↔ x ≤ (p : Int) ∧ (p : Int) < y := by simp [inS]
theorem inL_one (x y : Int) (p : Nat) : inL ([⟨x, y⟩] : List S40) p = inS x y p := by simp [inL, inS]
def setL (P : Nat → Bool) : List S40 := runs (chB P)
theorem setL_GL (P : Nat → Bool) : GL 0 (setL P) := runs_GL _
theorem setL_in (P : Nat → Bool) (p : Nat) (hp : p < 48) : inL (setL P) p = P p := by unfold setL; rw [runs_in _ _ hp, chB_get P p hp]
theorem setL_eq {P : Nat → Bool} {L : List S40} (h : GL 0 L) (hx : ∀ p, p < 48 → inL L p = P p) : setL P = L := runs_eq h (fun p hp => by rw [hx p hp, chB_get P p hp])
theorem setL_congr {P Q : Nat → Bool} (h : ∀ p, p < 48 → P p = Q p) : setL P = setL Q := setL_eq (setL_GL Q) (fun p hp => by rw [setL_in Q p hp, h p hp])
theorem setL_self {L : List S40} (h : GL 0 L) : setL (inL L) = L := setL_eq h (fun _ _ => rfl)
def fewL (L : List S40) : List S40 := if L.length ≤ 12 then L else []
theorem fewL_ok {L : List S40} (h : GL 0 L) : SpsOk (fewL L) := by
  unfold fewL
  split
  · rename_i hl
    exact (SpsOk_iff L).2 ⟨h, hl⟩
  · exact (SpsOk_iff []).2 ⟨trivial, by simp⟩
theorem SpsOk.gl {L : List S40} (h : SpsOk L) : GL 0 L := ((SpsOk_iff L).1 h).1
theorem SpsOk.len {L : List S40} (h : SpsOk L) : L.length ≤ 12 := h.2
theorem SpsOk.nil : SpsOk ([] : List S40) := (SpsOk_iff []).2 ⟨trivial, by simp⟩
theorem SpsOk.one {x y : Int} (h : spOk x y = true) : SpsOk ([⟨x, y⟩] : List S40) := by
  have := of_decide_eq_true h
  exact (SpsOk_iff _).2 ⟨⟨this.1, this.2.1, this.2.2, trivial⟩, by simp⟩
open Classical in
noncomputable def addL (L : List S40) (x y : Int) : List S40 := if SpsOk L ∧ spOk x y = true then fewL (setL fun p => inL L p || inS x y p) else []
open Classical in
noncomputable def cutL (L : List S40) (x y : Int) : List S40 := if SpsOk L ∧ spOk x y = true then fewL (setL fun p => inL L p && !inS x y p) else []
open Classical in
noncomputable def metL (L : List S40) (x y : Int) : List S40 := if SpsOk L ∧ spOk x y = true then fewL (setL fun p => inL L p && inS x y p) else []
open Classical in
noncomputable def haveL (L : List S40) (x y : Int) : Bool := if SpsOk L ∧ spOk x y = true then (List.range 48).all fun p => !inS x y p || inL L p else false
theorem SpsOk_b {L : List S40} {b : Bool} (h : b = true ↔ SpsOk L) (ho : SpsOk L) : b = true := h.2 ho
theorem SpsOk_nb {L : List S40} {b : Bool} (h : b = true ↔ SpsOk L) (ho : ¬ SpsOk L) : b = false := by
  cases b with
  | false => rfl
  | true => exact absurd (h.1 rfl) ho
/-! The reference's functions on lists of ranges. -/
theorem GL_length : ∀ {L : List S40} {b : Int}, GL b L → (L.length : Int) ≤ max 0 (49 - b)
  | [], b, _ => by simp; omega
  | s :: l, b, h => by
    have h1 := GL_length h.2.2.2
    have := h.1; have := h.2.1; have := h.2.2.1
    simp only [List.length_cons]
    omega
theorem spec_l1Of_l (x : List Bool) (hx : x.length ≤ 48) : ∀ (d i : Nat) (out : List S40), i + d = x.length → GL 0 out → (∀ s ∈ out, s.f1 ≤ (i : Int)) → (∀ p, p < 48 → inL out p = (decide (p < i) && x.getD p false)) →
    Ev (fun k => spec_l1Of.l0 k x out (i : Int)) (runs x) := by
  intro d
  induction d with
  | zero =>
    intro i out hi hg hb hc
    refine Ev.end_ (fun k => ?_)
    simp only [spec_l1Of.l0]
    rw [if_neg (by omega)]
    congr 1
    refine (runs_eq hg (fun p hp => ?_)).symm
    rw [hc p hp]
    by_cases h : p < i
    · rw [decide_eq_true h, Bool.true_and]
    · rw [decide_eq_false h, Bool.false_and, List.getD_eq_getElem?_getD, List.getElem?_eq_none (by omega)]
      rfl
  | succ d ih =>
    intro i out hi hg hb hc
    have hrd : rdOf false x (i : Int) = x.getD i false := rfl
    cases hxi : x.getD i false with
    | false =>
      refine Ev.cut (f := fun k => spec_l1Of.l0 k x out ((i + 1 : Nat) : Int)) (ih (i + 1) out (by omega) hg (fun s hs => by have := hb s hs; omega) (fun p hp => ?_)) (fun k => ?_)
      · rw [hc p hp]
        by_cases e : p = i
        · subst e
          rw [hxi]
          simp
        · congr 1
          exact decide_eq_decide.2 (by omega)
      · simp only [spec_l1Of.l0]
        rw [if_pos (by omega), if_pos (by omega), hrd, hxi, if_neg (by decide), wsucc i (by omega)]
    | true =>
      have hnew : ∀ M : List S40, (∀ p, p < 48 → inL M p = (inL out p || decide (p = i))) → ∀ p, p < 48 → inL M p = (decide (p < i + 1) && x.getD p false) := by
        intro M hM p hp
        rw [hM p hp, hc p hp]
        by_cases e : p = i
        · subst e
          rw [hxi]
          simp
        · rw [decide_eq_false e, Bool.or_false]
          congr 1
          exact decide_eq_decide.2 (by omega)
      have happ : (∀ s ∈ out, s.f1 < (i : Int)) → Ev (fun k => spec_l1Of.l0 k x (out ++ [⟨(i : Int), ((i + 1 : Nat) : Int)⟩]) ((i + 1 : Nat) : Int)) (runs x) := by
        intro hlt
        refine ih (i + 1) _ (by omega) (GL_snoc.2 ⟨hg, hlt, by show (0 : Int) ≤ (i : Int); omega, by show (i : Int) < ((i + 1 : Nat) : Int); omega, by show ((i + 1 : Nat) : Int) ≤ 48; omega⟩) (fun s hs => ?_) (hnew _ (fun p hp => ?_))
        · rcases List.mem_append.1 hs with hs | hs
          · have := hb s hs; omega
          · simp at hs; subst hs; show ((i + 1 : Nat) : Int) ≤ ((i + 1 : Nat) : Int); omega
        · rw [inL_app, inL_one]
          congr 1
          rw [Bool.eq_iff_iff, inS_iff, decide_eq_true_iff]
          omega
      have hol : (out.length : Int) ≤ 49 := by have := GL_length hg; omega
      rcases List.eq_nil_or_concat out with e | ⟨L0, t, e⟩
      · subst e
        refine Ev.cut (happ (fun s hs => by simp at hs)) (fun k => ?_)
        simp only [spec_l1Of.l0]
        rw [if_pos (by omega), if_pos (by omega), hrd, hxi, if_pos rfl, if_neg (by simp), if_pos (by simp), wsucc i (by omega)]
      · rw [List.concat_eq_append] at e
        have hlen : out.length = L0.length + 1 := by rw [e]; simp
        have hlast : rd_T40 out (wrap64 ((out.length : Int) - 1)) = t := by
          rw [wpred _ (by omega) (by omega), rdSpan_nat, e, List.getD_eq_getElem?_getD]
          simp
        have hgs := GL_snoc.1 (e ▸ hg)
        have hbt := hb t (by rw [e]; simp)
        by_cases ht : t.f1 = (i : Int)
        · have hset : out.set (wrap64 ((out.length : Int) - 1)).toNat (⟨t.f0, ((i + 1 : Nat) : Int)⟩ : S40) = L0 ++ [⟨t.f0, ((i + 1 : Nat) : Int)⟩] := by
            rw [wpred _ (by omega) (by omega), Int.toNat_natCast, e]
            simp
          refine Ev.cut (f := fun k => spec_l1Of.l0 k x (L0 ++ [⟨t.f0, ((i + 1 : Nat) : Int)⟩]) ((i + 1 : Nat) : Int)) (ih (i + 1) _ (by omega) ((GL_snoc (t := ⟨t.f0, ((i + 1 : Nat) : Int)⟩)).2 ⟨hgs.1, hgs.2.1, hgs.2.2.1, by have := hgs.2.2.2.1; show t.f0 < ((i + 1 : Nat) : Int); omega, by show ((i + 1 : Nat) : Int) ≤ 48; omega⟩) (fun s hs => ?_) (hnew _ (fun p hp => ?_))) (fun k => ?_)
          · rcases List.mem_append.1 hs with hs | hs
            · have := hb s (by rw [e]; simp [hs]); omega
            · simp at hs; subst hs; show ((i + 1 : Nat) : Int) ≤ ((i + 1 : Nat) : Int); omega
          · rw [e, inL_app, inL_app, inL_one]
            have : inL [t] p = inS t.f0 t.f1 p := by cases t; exact inL_one _ _ p
            rw [this, Bool.or_assoc]
            congr 1
            have := hgs.2.2.2.1
            rw [Bool.eq_iff_iff, Bool.or_eq_true, inS_iff, inS_iff, decide_eq_true_iff]
            omega
          · simp only [spec_l1Of.l0]
            rw [if_pos (by omega), if_pos (by omega), hrd, hxi, if_pos rfl, if_pos (by omega), hlast, wsucc i (by omega), hset, if_pos ht]
            rw [wpred _ (by omega) (by omega), if_pos (by omega), if_pos (by omega)]
        · refine Ev.cut (happ (fun s hs => ?_)) (fun k => ?_)
          · rw [e] at hs
            rcases List.mem_append.1 hs with hs | hs
            · have := hgs.2.1 s hs
              have := hgs.2.2.2.1
              omega
            · simp at hs
              subst hs
              omega
          · simp only [spec_l1Of.l0]
            rw [if_pos (by omega), if_pos (by omega), hrd, hxi, if_pos rfl, if_pos (by omega), hlast, if_neg ht, wsucc i (by omega), if_pos (show out.length < 8796093022208 by omega)]
            rw [wpred _ (by omega) (by omega), if_pos (by omega), if_pos (by omega)]
theorem spec_l1Of_is (x : List Bool) (hx : x.length ≤ 48) : Ev (fun k => spec_l1Of.f k x) (runs x) :=
  spec_l1Of_l x hx x.length 0 [] (by omega) trivial (fun s hs => by simp at hs) (fun p hp => by rw [decide_eq_false (by omega)]; rfl)
theorem l1Max_is (a b : Int) : spec_l1Max.f a b = some (mx a b) := by
  unfold spec_l1Max.f mx
  split <;> split <;> first | rfl | (congr 1; omega)

theorem GL_take : ∀ {L : List S40} {b : Int} (n : Nat), GL b L → GL b (L.take n)
  | [], _, _, _ => by simp [GL]
  | s :: l, b, 0, _ => trivial
  | s :: l, b, n + 1, h => ⟨h.1, h.2.1, h.2.2.1, GL_take n h.2.2.2⟩
theorem GL_drop : ∀ {L : List S40} {b : Int} (n : Nat), 0 ≤ b → GL b L → GL b (L.drop n)
  | [], _, _, _, _ => by simp [GL]
  | s :: l, b, 0, _, h => h
  | s :: l, b, n + 1, hb, h => GL_drop n hb (GL_mono h.2.2.2 (by have := h.1; have := h.2.1; omega))
theorem take_snoc (L : List S40) (i : Nat) (h : i < L.length) : L.take (i + 1) = L.take i ++ [L.getD i z40] := by
  rw [List.take_succ_eq_append_getElem h, List.getD_eq_getElem?_getD, List.getElem?_eq_getElem h]
  rfl
theorem GL_at {L : List S40} {b : Int} (h : GL b L) (i : Nat) (hi : i < L.length) : (∀ s ∈ L.take i, s.f1 < (L.getD i z40).f0) ∧ b ≤ (L.getD i z40).f0 ∧ (L.getD i z40).f0 < (L.getD i z40).f1 ∧ (L.getD i z40).f1 ≤ 48 := by
  have h1 := GL_take (i + 1) h
  rw [take_snoc L i hi] at h1
  exact (GL_snoc.1 h1).2
theorem inS_meet (a b x y : Int) (p : Nat) : (inS a b p && inS x y p) = inS (mx a x) (mn b y) p := by
  rw [Bool.eq_iff_iff, Bool.and_eq_true, inS_iff, inS_iff, inS_iff]
  unfold mx mn
  split <;> split <;> omega
theorem addL_ok (L : List S40) (x y : Int) : SpsOk (addL L x y) := by
  unfold addL
  split
  · exact fewL_ok (setL_GL _)
  · exact SpsOk.nil
theorem cutL_ok (L : List S40) (x y : Int) : SpsOk (cutL L x y) := by
  unfold cutL
  split
  · exact fewL_ok (setL_GL _)
  · exact SpsOk.nil
theorem metL_ok (L : List S40) (x y : Int) : SpsOk (metL L x y) := by
  unfold metL
  split
  · exact fewL_ok (setL_GL _)
  · exact SpsOk.nil

theorem wpSpans_l (L : List S40) (hL : L.length < 4611686018427387904) : ∀ (d i : Nat), i + d = L.length → Ev (fun k => laws_wpSpans.l0 k L L (i : Int)) true := by
  intro d
  induction d with
  | zero =>
    intro i hi
    refine Ev.end_ (fun k => ?_)
    simp only [laws_wpSpans.l0]
    rw [if_neg (by omega)]
  | succ d ih =>
    intro i hi
    refine Ev.cut (f := fun k => laws_wpSpans.l0 k L L ((i + 1 : Nat) : Int)) (ih (i + 1) (by omega)) (fun k => ?_)
    simp only [laws_wpSpans.l0]
    rw [if_pos (by omega), if_pos (by omega), if_pos (by omega), if_neg (by simp), wsucc i (by omega)]
theorem wpSpans_refl (L : List S40) (hL : L.length < 4611686018427387904) : Ev (fun k => laws_wpSpans.f k L L) true := by
  unfold laws_wpSpans.f
  simp only [if_true]
  exact wpSpans_l L hL L.length 0 (by omega)

/-! Where two texts differ. -/
theorem diffR_get (a b : ByteArray) (p : Nat) : ∀ (d i : Nat) (z : List Bool), z.length = 48 → i + d ≤ 48 → (diffR a b d z (i : Int)).getD p false = if i ≤ p ∧ p < i + d then diffAt a b (p : Int) else z.getD p false
  | 0, i, z, hz, hi => by
    rw [diffR, if_neg (by omega)]
  | d + 1, i, z, hz, hi => by
    rw [diffR, show (i : Int) + 1 = ((i + 1 : Nat) : Int) by omega, diffR_get a b p d (i + 1) _ (by simp [hz]) (by omega), getD_set', Int.toNat_natCast]
    by_cases e : p = i
    · subst e
      rw [if_neg (by omega), if_pos ⟨rfl, by omega⟩, if_pos (by omega)]
    · rw [if_neg (show ¬ (p = i ∧ i < z.length) from fun h => e h.1)]
      by_cases h : i + 1 ≤ p ∧ p < i + 1 + d
      · rw [if_pos h, if_pos (by omega)]
      · rw [if_neg h, if_neg (by omega)]
def dB (a b : ByteArray) : List Bool := diffR a b (max a.size b.size) (List.replicate 48 false) 0
def diffP (a b : ByteArray) (p : Nat) : Bool := decide (p < max a.size b.size) && diffAt a b (p : Int)
theorem dB_get (a b : ByteArray) (ha : a.size ≤ 48) (hb : b.size ≤ 48) (p : Nat) (hp : p < 48) : (dB a b).getD p false = diffP a b p := by
  unfold dB diffP
  have h := diffR_get a b p (max a.size b.size) 0 (List.replicate 48 false) (by simp) (by omega)
  rw [show ((0 : Nat) : Int) = 0 from rfl] at h
  rw [h]
  by_cases hq : p < max a.size b.size
  · rw [if_pos ⟨Nat.zero_le _, by omega⟩, decide_eq_true hq, Bool.true_and]
  · rw [if_neg (by omega), decide_eq_false hq, Bool.false_and, List.getD_eq_getElem?_getD, List.getElem?_replicate, if_pos hp]
    rfl
theorem diffAt_comm (a b : ByteArray) (p : Int) : diffAt a b p = diffAt b a p := by
  unfold diffAt
  by_cases h1 : (a.size : Int) ≤ p
  · rw [if_pos h1]
    by_cases h2 : (b.size : Int) ≤ p
    · rw [if_pos h2]
    · rw [if_neg h2, if_pos h1]
  · rw [if_neg h1]
    by_cases h2 : (b.size : Int) ≤ p
    · rw [if_pos h2, if_pos h2]
    · rw [if_neg h2, if_neg h2, if_neg h1, Bool.eq_iff_iff, bne_iff_ne, bne_iff_ne]
      exact ⟨Ne.symm, Ne.symm⟩
def difL (a b : ByteArray) : List S40 := if tOk (B a) = true ∧ tOk (B b) = true then runs (dB a b) else []
theorem difL_on {a b : ByteArray} (h1 : tOk (B a) = true) (h2 : tOk (B b) = true) : difL a b = runs (dB a b) := if_pos ⟨h1, h2⟩
theorem difL_off {a b : ByteArray} (h : ¬ (tOk (B a) = true ∧ tOk (B b) = true)) : difL a b = [] := if_neg h
theorem difL_GL (a b : ByteArray) : GL 0 (difL a b) := by
  unfold difL
  split
  · exact runs_GL _
  · trivial
theorem difL_comm (a b : ByteArray) : difL a b = difL b a := by
  unfold difL
  by_cases h : tOk (B a) = true ∧ tOk (B b) = true
  · rw [if_pos h, if_pos ⟨h.2, h.1⟩]
    have ha := tOk_len h.1
    have hb := tOk_len h.2
    rw [← B_size] at ha hb
    refine runs_congr (fun p hp => ?_)
    rw [dB_get a b ha hb p hp, dB_get b a hb ha p hp]
    unfold diffP
    rw [diffAt_comm, Nat.max_comm]
  · rw [if_neg h, if_neg (fun hh => h ⟨hh.2, hh.1⟩)]
theorem impl_TextDiff_is (a b : ByteArray) (ha : a.size < 4611686018427387904) (hb : b.size < 4611686018427387904) : Ev (fun k => impl_TextDiff.f k a b) (difL a b) := by
  unfold impl_TextDiff.f
  refine Ev.bind (impl_TextOk_is a ha) ?_
  cases h1 : tOk (B a) with
  | false =>
    rw [difL_off (by rw [h1]; simp)]
    exact Ev.all fun k => by rw [if_neg (by decide)]
  | true =>
    simp only [if_true]
    refine Ev.bind (impl_TextOk_is b hb) ?_
    cases h2 : tOk (B b) with
    | false =>
      rw [difL_off (by rw [h2]; simp)]
      exact Ev.all fun k => by rw [if_neg (by decide)]
    | true =>
      have ha' := tOk_len h1
      have hb' := tOk_len h2
      rw [← B_size] at ha' hb'
      rw [difL_on h1 h2]
      refine Ev.all fun k => ?_
      rw [if_pos rfl, if_pos ha', if_pos hb']
      rfl
theorem spec_TextDiff_l (a b : ByteArray) (ha : a.size ≤ 48) (hb : b.size ≤ 48) : ∀ (d i : Nat), i + d = max a.size b.size → Ev (fun k => spec_TextDiff.l0 k a b ((List.range i).map fun (p : Nat) => diffAt a b (p : Int)) (i : Int)) (runs (dB a b)) := by
  have hmx : mx (a.size : Int) (b.size : Int) = ((max a.size b.size : Nat) : Int) := by unfold mx; split <;> omega
  intro d
  induction d with
  | zero =>
    intro i hi
    have h := spec_l1Of_is ((List.range i).map fun (p : Nat) => diffAt a b (p : Int)) (by simp; omega)
    have e : runs ((List.range i).map fun (p : Nat) => diffAt a b (p : Int)) = runs (dB a b) := by
      refine runs_congr (fun p hp => ?_)
      rw [dB_get a b ha hb p hp, List.getD_eq_getElem?_getD]
      unfold diffP
      by_cases hq : p < max a.size b.size
      · rw [decide_eq_true hq, Bool.true_and, List.getElem?_map, List.getElem?_range (by omega)]
        rfl
      · rw [decide_eq_false hq, Bool.false_and, List.getElem?_eq_none (by simp; omega)]
        rfl
    rw [e] at h
    refine Ev.cut (f := fun k => (spec_l1Of.f k ((List.range i).map fun (p : Nat) => diffAt a b (p : Int))).bind fun t132 => (some t132)) (Ev.bind h (Ev.now _)) (fun k => ?_)
    simp only [spec_TextDiff.l0, l1Max_is, Option.bind_some, hmx]
    rw [if_neg (by omega)]
  | succ d ih =>
    intro i hi
    have h := ih (i + 1) (by omega)
    rw [List.range_succ, List.map_append] at h
    refine Ev.cut h (fun k => ?_)
    have hlen : ((List.range i).map fun (p : Nat) => diffAt a b (p : Int)).length < 140737488355328 := by simp; omega
    simp only [spec_TextDiff.l0, l1Max_is, Option.bind_some, hmx]
    rw [if_pos (by omega), wsucc i (by omega)]
    show _ = spec_TextDiff.l0 k a b (((List.range i).map fun (p : Nat) => diffAt a b (p : Int)) ++ [diffAt a b (i : Int)]) ((i + 1 : Nat) : Int)
    generalize ((List.range i).map fun (p : Nat) => diffAt a b (p : Int)) = M at hlen
    by_cases c1 : (i : Int) ≥ (a.size : Int)
    · rw [if_pos c1, if_pos hlen]
      have : diffAt a b (i : Int) = true := by unfold diffAt; rw [if_pos (by omega)]
      rw [this]
    · rw [if_neg c1]
      by_cases c2 : (i : Int) ≥ (b.size : Int)
      · rw [if_pos c2, if_pos hlen]
        have : diffAt a b (i : Int) = true := by unfold diffAt; rw [if_neg (by omega), if_pos (by omega)]
        rw [this]
      · rw [if_neg c2, if_pos (by omega), if_pos (by omega), if_pos (by omega), if_pos hlen]
        have : diffAt a b (i : Int) = (bt a (i : Int) != bt b (i : Int)) := by unfold diffAt; rw [if_neg (by omega), if_neg (by omega)]
        rw [this]
theorem spec_TextDiff_is (a b : ByteArray) (ha : a.size < 4611686018427387904) (hb : b.size < 4611686018427387904) : Ev (fun k => spec_TextDiff.f k a b) (difL a b) := by
  unfold spec_TextDiff.f
  have hbad : Ev (fun k => spec_TextDiff.j0 k a b true) ([] : List S40) := Ev.end_ (fun k => by simp only [spec_TextDiff.j0, if_true])
  refine Ev.bind (spec_TextOk_is a ha) ?_
  cases h1 : tOk (B a) with
  | false =>
    rw [difL_off (by rw [h1]; simp)]
    simp only [Bool.false_eq_true, if_false]
    exact hbad
  | true =>
    simp only [if_true]
    refine Ev.bind (spec_TextOk_is b hb) ?_
    cases h2 : tOk (B b) with
    | false =>
      rw [difL_off (by rw [h2]; simp)]
      exact hbad
    | true =>
      have ha' := tOk_len h1
      have hb' := tOk_len h2
      rw [← B_size] at ha' hb'
      rw [difL_on h1 h2]
      refine Ev.cut (spec_TextDiff_l a b ha' hb' (max a.size b.size) 0 (by omega)) (fun k => ?_)
      simp only [spec_TextDiff.j0, Bool.not_true, Bool.false_eq_true, if_false]
      rfl

/-! The reader of draws. -/
def RB (b : List Int) : Prop := b.length ≤ 2000 ∧ ∀ x ∈ b, 0 ≤ x ∧ x ≤ 255
theorem rd_byte {b : List Int} (hb : RB b) (i : Int) : 0 ≤ rd b i ∧ rd b i ≤ 255 := by
  unfold rd
  rw [List.getD_eq_getElem?_getD]
  cases e : b[i.toNat]? with
  | none => simp
  | some x => exact hb.2 x (List.mem_of_getElem? e)
theorem open_is (l : List Int) (hw : ∀ x ∈ l, (Lit.int .u8 x).wf = true) : ∃ b, spec_l10Open.f l = some (b, 0) ∧ RB b := by
  have h : ∀ x ∈ l, 0 ≤ x ∧ x ≤ 255 := fun x hx => bounds_u8 (hw x hx)
  unfold spec_l10Open.f
  by_cases hl : (l.length : Int) > 2000
  · rw [if_pos hl, if_pos (by omega)]
    exact ⟨_, rfl, by rw [List.length_take]; omega, fun x hx => h x (List.mem_of_mem_take hx)⟩
  · rw [if_neg hl]
    exact ⟨_, rfl, by omega, h⟩
theorem xor_nonneg (a b : Int) (ha0 : 0 ≤ a) (ha : a < 1152921504606846976) (hb0 : 0 ≤ b) (hb : b < 1152921504606846976) : 0 ≤ Go.bits .xor .i64 a b := by
  obtain ⟨m, rfl⟩ := Int.eq_ofNat_of_zero_le ha0
  obtain ⟨n, rfl⟩ := Int.eq_ofNat_of_zero_le hb0
  have hm : m < 2 ^ 60 := by omega
  have hn : n < 2 ^ 60 := by omega
  have hx : m ^^^ n < 2 ^ 60 := Nat.xor_lt_two_pow hm hn
  have hm' : m % 2 ^ IntKind.i64.bits = m := Nat.mod_eq_of_lt (show m < 2 ^ 64 by omega)
  have hn' : n % 2 ^ IntKind.i64.bits = n := Nat.mod_eq_of_lt (show n < 2 ^ 64 by omega)
  have e : Go.bits .xor .i64 (m : Int) (n : Int) = IntKind.i64.wrap ((m ^^^ n : Nat) : Int) := by
    simp only [bits, BitVec.ofInt_natCast, BitVec.toNat_xor, BitVec.toNat_ofNat, hm', hn']
  rw [e, IntKind.wrap_i64]
  omega
theorem pick_is {b : List Int} (hb : RB b) (p n : Int) (h0 : 0 ≤ p) (h1 : p ≤ 1099511627776) (hn1 : 1 ≤ n) : ∃ v, Ev (fun k => spec_l10Rd_pick.f k b p n) (v, p + 1) ∧ 0 ≤ v ∧ v < n := by
  have e1 : wrap64 (p + 1) = p + 1 := wid (by omega) (by omega)
  have e2 : wrap64 (p + 1 - 1) = p := by rw [show p + 1 - 1 = p by omega]; exact wid (by omega) (by omega)
  have hl := hb.1
  by_cases hz : (b.length : Int) = 0
  · refine ⟨0, Ev.end_ (fun k => ?_), by omega, by omega⟩
    unfold spec_l10Rd_pick.f
    rw [if_neg (by omega), e1]
    simp only [spec_l10Rd_pick.j0]
    rw [if_pos (by simpa using hz)]
  · by_cases hlt : p < (b.length : Int)
    · have hr := rd_byte hb p
      refine ⟨Int.tmod (rd b p) n, Ev.end_ (fun k => ?_), ?_, ?_⟩
      · unfold spec_l10Rd_pick.f
        rw [if_neg (by omega), e1]
        simp only [spec_l10Rd_pick.j0]
        rw [if_neg (by simpa using hz), e2, if_pos hlt, if_pos h0, if_neg (by omega), wid (by omega) (by omega)]
      · rw [Int.tmod_eq_emod_of_nonneg hr.1]; exact Int.emod_nonneg _ (by omega)
      · rw [Int.tmod_eq_emod_of_nonneg hr.1]; exact Int.emod_lt_of_pos _ (by omega)
    · have e3 : wrap64 (p * 7) = p * 7 := wid (by omega) (by omega)
      have e4 : wrap64 (p * 7 + 3) = p * 7 + 3 := wid (by omega) (by omega)
      have q0 : 0 ≤ p % (b.length : Int) := Int.emod_nonneg _ hz
      have q1 : p % (b.length : Int) < (b.length : Int) := Int.emod_lt_of_pos _ (by omega)
      have q2 : 0 ≤ (p * 7 + 3) % (b.length : Int) := Int.emod_nonneg _ hz
      have q3 : (p * 7 + 3) % (b.length : Int) < (b.length : Int) := Int.emod_lt_of_pos _ (by omega)
      have q4 : 0 ≤ p / (b.length : Int) := Int.ediv_nonneg h0 (by omega)
      have q5 : p / (b.length : Int) ≤ p := Int.ediv_le_self _ h0
      have r1 := rd_byte hb (p % (b.length : Int))
      have r2 := rd_byte hb ((p * 7 + 3) % (b.length : Int))
      obtain ⟨X, hX⟩ : ∃ X, X = rd b (p % (b.length : Int)) * 131 + rd b ((p * 7 + 3) % (b.length : Int)) * 1117 + p * 29 + p / (b.length : Int) * 53 := ⟨_, rfl⟩
      have x0 : 0 ≤ X := by omega
      have x1 : X < 1152921504606846976 := by omega
      have y := xor_nonneg X (X / 64) x0 x1 (by omega) (by omega)
      refine ⟨Int.tmod (Go.bits .xor .i64 X (X / 64)) n, Ev.end_ (fun k => ?_), ?_, ?_⟩
      · unfold spec_l10Rd_pick.f
        rw [if_neg (by omega), e1]
        simp only [spec_l10Rd_pick.j0]
        rw [if_neg (by simpa using hz), e2, if_neg hlt, if_neg hz, Int.tmod_eq_emod_of_nonneg h0, if_pos q0, if_pos q1, e3, e4, Int.tmod_eq_emod_of_nonneg (show 0 ≤ p * 7 + 3 by omega), if_pos q2, if_pos q3, if_neg (by omega), Int.tdiv_eq_ediv_of_nonneg h0,
          wid (x := rd b (p % (b.length : Int))) (by omega) (by omega), wid (x := rd b ((p * 7 + 3) % (b.length : Int))) (by omega) (by omega), wid (x := rd b (p % (b.length : Int)) * 131) (by omega) (by omega), wid (x := rd b ((p * 7 + 3) % (b.length : Int)) * 1117) (by omega) (by omega),
          wid (x := rd b (p % (b.length : Int)) * 131 + rd b ((p * 7 + 3) % (b.length : Int)) * 1117) (by omega) (by omega), wid (x := p * 29) (by omega) (by omega), wid (x := rd b (p % (b.length : Int)) * 131 + rd b ((p * 7 + 3) % (b.length : Int)) * 1117 + p * 29) (by omega) (by omega),
          wid (x := p / (b.length : Int)) (by omega) (by omega), wid (x := p / (b.length : Int) * 53) (by omega) (by omega), ← hX, wid (x := X) (by omega) (by omega), Int.tdiv_eq_ediv_of_nonneg x0, wid (x := X / 64) (by omega) (by omega)]
      · rw [Int.tmod_eq_emod_of_nonneg y]; exact Int.emod_nonneg _ (by omega)
      · rw [Int.tmod_eq_emod_of_nonneg y]; exact Int.emod_lt_of_pos _ (by omega)

/-! One of a list of numbers. -/
theorem rd_mem (l : List Int) (i : Int) (h0 : 0 ≤ i) (h1 : i < (l.length : Int)) : rd l i ∈ l := by
  unfold rd
  rw [List.getD_eq_getElem?_getD, List.getElem?_eq_getElem (by omega)]
  exact List.getElem_mem _
theorem num_is {b : List Int} (hb : RB b) (p : Int) (l : List Int) (h0 : 0 ≤ p) (h1 : p ≤ 1099511627776) (hn1 : 1 ≤ (l.length : Int)) : ∃ v, Ev (fun k => spec_l10Rd_num.f k b p l) (v, p + 1) ∧ v ∈ l := by
  obtain ⟨i, hi, i0, i1⟩ := pick_is hb p (l.length : Int) h0 h1 hn1
  refine ⟨rd l i, Ev.bind hi (Ev.all fun k => ?_), rd_mem l i i0 i1⟩
  rw [if_pos i0, if_pos i1]

theorem rdOf_mem (l : List ByteArray) (i : Int) (h0 : 0 ≤ i) (h1 : i < (l.length : Int)) : rdOf ByteArray.empty l i ∈ l := by
  unfold rdOf
  rw [List.getD_eq_getElem?_getD, List.getElem?_eq_getElem (by omega)]
  exact List.getElem_mem _

/-! One of a list of strings. -/
theorem of_is {b : List Int} (hb : RB b) (p : Int) (l : List ByteArray) (h0 : 0 ≤ p) (h1 : p ≤ 1099511627776) (hn1 : 1 ≤ (l.length : Int)) : ∃ v, Ev (fun k => spec_l10Rd_of.f k b p l) (v, p + 1) ∧ v ∈ l := by
  obtain ⟨i, hi, i0, i1⟩ := pick_is hb p (l.length : Int) h0 h1 hn1
  refine ⟨rdOf ByteArray.empty l i, Ev.bind hi (Ev.all fun k => ?_), rdOf_mem l i i0 i1⟩
  rw [if_pos i0, if_pos i1]

/-! A file, drawn. -/
theorem l2Text_l {b : List Int} (hb : RB b) : ∀ (n : Nat) (s : ByteArray) (p : Int), n ≤ 1000 → s.size + n ≤ 1000 → 0 ≤ p → p + n ≤ 1000000000000 → ∃ t, Ev (fun k => spec_l2Text.l0 k s (n : Int) b p) (t, p + n) ∧ t.size = s.size + n := by
  intro n
  induction n with
  | zero =>
    intro s p hn hs h0 h1
    refine ⟨s, Ev.end_ (fun k => ?_), by omega⟩
    simp only [spec_l2Text.l0]
    rw [if_neg (by omega)]
    simp
  | succ n ih =>
    intro s p hn hs h0 h1
    obtain ⟨v, hv, vm⟩ := of_is hb p [(⟨#[97]⟩ : ByteArray), (⟨#[98]⟩ : ByteArray), (⟨#[99]⟩ : ByteArray), (⟨#[55]⟩ : ByteArray), (⟨#[46]⟩ : ByteArray), (⟨#[122]⟩ : ByteArray)] h0 (by omega) (by simp)
    have hv1 : v.size = 1 := by
      simp only [List.mem_cons, List.not_mem_nil, or_false] at vm
      rcases vm with rfl | rfl | rfl | rfl | rfl | rfl <;> rfl
    have hz : (s ++ v).size = s.size + 1 := by rw [B_size, B_app, List.length_append, ← B_size, ← B_size, hv1]
    obtain ⟨t, ht, tz⟩ := ih (s ++ v) (p + 1) (by omega) (by omega) (by omega) (by omega)
    refine ⟨t, ?_, by omega⟩
    rw [show p + ((n + 1 : Nat) : Int) = p + 1 + (n : Int) by omega]
    refine Ev.cut (f := fun k => (spec_l10Rd_of.f k b p [(⟨#[97]⟩ : ByteArray), (⟨#[98]⟩ : ByteArray), (⟨#[99]⟩ : ByteArray), (⟨#[55]⟩ : ByteArray), (⟨#[46]⟩ : ByteArray), (⟨#[122]⟩ : ByteArray)]).bind fun r => if s.size + r.1.size ≤ 9223372036854775807 then spec_l2Text.l0 k (s ++ r.1) (wrap64 (((n + 1 : Nat) : Int) - 1)) b r.2 else none) (Ev.bind hv ?_) (fun k => ?_)
    · simp only [if_pos (show s.size + v.size ≤ 9223372036854775807 by omega)]
      rw [show wrap64 (((n + 1 : Nat) : Int) - 1) = (n : Int) by rw [wid (by omega) (by omega)]; omega]
      exact ht
    · simp only [spec_l2Text.l0]
      rw [if_pos (by omega)]
theorem l2Text_is {b : List Int} (hb : RB b) (p m : Int) (h0 : 0 ≤ p) (h1 : p ≤ 100000000000) (m0 : 0 ≤ m) (m1 : m ≤ 100) : ∃ t q, Ev (fun k => spec_l2Text.f k b p m) (t, q) ∧ t.size ≤ 100 ∧ p ≤ q ∧ q ≤ p + 102 := by
  obtain ⟨i, hi, i0, i1⟩ := pick_is hb p (m + 1) h0 (by omega) (by omega)
  obtain ⟨t, ht, tz⟩ := l2Text_l hb i.toNat (⟨#[]⟩ : ByteArray) (p + 1) (by omega) (by show 0 + _ ≤ _; omega) (by omega) (by omega)
  rw [Int.toNat_of_nonneg i0] at ht
  refine ⟨t, p + 1 + i, ?_, by rw [tz]; show 0 + _ ≤ _; omega, by omega, by omega⟩
  unfold spec_l2Text.f
  rw [wid (x := m + 1) (by omega) (by omega)]
  exact Ev.bind hi ht
theorem l2Some_is {b : List Int} (hb : RB b) (p : Int) (h0 : 0 ≤ p) (h1 : p ≤ 10000000000) : ∃ s q, Ev (fun k => spec_l2Some.f k b p) (s, q) ∧ s.size ≤ 200 ∧ p ≤ q ∧ q ≤ p + 110 := by
  obtain ⟨v, hv, vm⟩ := num_is hb p [6, 12, 20, 30, 48] h0 (by omega) (by simp)
  have hv2 : 0 ≤ v ∧ v ≤ 48 := by simp at vm; omega
  obtain ⟨t, q, ht, tz, q0, q1⟩ := l2Text_is hb (p + 1) v (by omega) (by omega) hv2.1 (by omega)
  obtain ⟨u, hu, u0, u1⟩ := pick_is hb q 60 (by omega) (by omega) (by omega)
  by_cases c0 : u = 0
  · exact ⟨t ++ (⟨#[65]⟩ : ByteArray), q + 1, Ev.bind hv (Ev.bind ht (Ev.bind hu (Ev.all fun k => by rw [if_pos c0, if_pos (show t.size + 1 ≤ 9223372036854775807 by omega)]))), by rw [B_size, B_app, List.length_append, ← B_size, ← B_size]; show t.size + 1 ≤ _; omega, by omega, by omega⟩
  by_cases c1 : u = 1
  · exact ⟨t ++ (⟨#[32]⟩ : ByteArray), q + 1, Ev.bind hv (Ev.bind ht (Ev.bind hu (Ev.all fun k => by rw [if_neg c0, if_pos c1, if_pos (show t.size + 1 ≤ 9223372036854775807 by omega)]))), by rw [B_size, B_app, List.length_append, ← B_size, ← B_size]; show t.size + 1 ≤ _; omega, by omega, by omega⟩
  by_cases c2 : u = 2
  · refine ⟨mkB (padL (B t) 49), q + 1, Ev.bind hv (Ev.bind ht (Ev.bind hu ?_)), by rw [mkB_size, padL_length, ← B_size]; omega, by omega, by omega⟩
    simp only [if_neg c0, if_neg c1, if_pos c2]
    exact Ev.bind (l2Long_is t 49 (by omega) (by omega)) (Ev.now _)
  · exact ⟨t, q + 1, Ev.bind hv (Ev.bind ht (Ev.bind hu (Ev.all fun k => by rw [if_neg c0, if_neg c1, if_neg c2]))), by omega, by omega, by omega⟩

/-! A file, a place and bytes, drawn. -/
theorem l2Data_is {b : List Int} (hb : RB b) (p : Int) (h0 : 0 ≤ p) (h1 : p ≤ 10000000000) : ∃ d q, Ev (fun k => spec_l2Data.f k b p) (d, q) ∧ d.size ≤ 200 ∧ p ≤ q ∧ q ≤ p + 110 := by
  obtain ⟨u, hu, u0, u1⟩ := pick_is hb p 24 h0 (by omega) (by omega)
  by_cases c0 : u = 0
  · have hl := l2Long_is (⟨#[97]⟩ : ByteArray) 49 (by show 1 < _; omega) (by omega)
    obtain ⟨v, hv, vm⟩ := of_is hb (p + 1) [(⟨#[]⟩ : ByteArray), (⟨#[65]⟩ : ByteArray), (⟨#[97, 32, 98]⟩ : ByteArray), mkB (padL (B (⟨#[97]⟩ : ByteArray)) (49 : Int).toNat)] (by omega) (by omega) (by simp)
    have hz : v.size ≤ 200 := by
      simp only [List.mem_cons, List.not_mem_nil, or_false] at vm
      rcases vm with rfl | rfl | rfl | rfl
      · show 0 ≤ _; omega
      · show 1 ≤ _; omega
      · show 3 ≤ _; omega
      · rw [mkB_size, padL_length]
        show max 1 49 ≤ _
        omega
    exact ⟨v, p + 1 + 1, Ev.bind hu (by simp only [if_pos c0]; exact Ev.bind hl (Ev.bind hv (Ev.now _))), hz, by omega, by omega⟩
  · obtain ⟨v, hv, vm⟩ := of_is hb (p + 1) [(⟨#[120]⟩ : ByteArray), (⟨#[120, 121]⟩ : ByteArray), (⟨#[113, 57, 46]⟩ : ByteArray), (⟨#[48, 49, 50, 51, 52, 53, 54]⟩ : ByteArray), (⟨#[109]⟩ : ByteArray)] (by omega) (by omega) (by simp)
    have hz : v.size ≤ 7 := by
      simp only [List.mem_cons, List.not_mem_nil, or_false] at vm
      rcases vm with rfl | rfl | rfl | rfl | rfl
      · show 1 ≤ _; omega
      · show 2 ≤ _; omega
      · show 3 ≤ _; omega
      · show 7 ≤ _; omega
      · show 1 ≤ _; omega
    obtain ⟨t, q, ht, tz, q0, q1⟩ := l2Text_is hb (p + 1 + 1) 6 (by omega) (by omega) (by omega) (by omega)
    refine ⟨v ++ t, q, Ev.bind hu (by simp only [if_neg c0]; exact Ev.bind hv (Ev.bind ht (Ev.all fun k => by rw [if_pos (show v.size + t.size ≤ 9223372036854775807 by omega)]))), ?_, by omega, by omega⟩
    rw [B_size, B_app, List.length_append, ← B_size, ← B_size]
    omega

theorem diff_draw (l : List Int) (hw : ∀ x ∈ l, (Lit.int .u8 x).wf = true) : ∃ a b, Ev (fun k => spec_DrawTextDiff.f k l) (a, b) ∧ a.size < 4611686018427387904 ∧ b.size < 4611686018427387904 := by
  obtain ⟨b, hbe, hb⟩ := open_is l hw
  obtain ⟨s, q, hs, s1, q0, q1⟩ := l2Some_is hb 0 (by omega) (by omega)
  obtain ⟨v, hv, v0, v1⟩ := pick_is hb q 3 (by omega) (by omega) (by omega)
  unfold spec_DrawTextDiff.f
  simp only [hbe, Option.bind_some]
  by_cases hz : v = 0
  · obtain ⟨t, q2, ht, t1, _, _⟩ := l2Some_is hb (q + 1) (by omega) (by omega)
    refine ⟨s, t, Ev.bind hs (Ev.bind hv ?_), by omega, by omega⟩
    simp only [if_pos hz]
    exact Ev.bind ht (Ev.now _)
  · obtain ⟨u, hu, u0, u1⟩ := pick_is hb (q + 1) 20 (by omega) (by omega) (by omega)
    obtain ⟨d, q2, hd, d1, _, _⟩ := l2Data_is hb (q + 1 + 1) (by omega) (by omega)
    have hW := spec_TextWrite_is s u d (by omega) (by omega)
    have hlen : (mkB (tWrite (B s) u (B d)).1).size ≤ 200 := by
      rw [B_size, B_mkB]
      cases hq : (tWrite (B s) u (B d)).2 with
      | true =>
        obtain ⟨k1, k2, k3, k4, k5, k6, k7⟩ := tWrite_true hq
        rw [k7, wrL_length]
        have := tOk_len k1
        omega
      | false =>
        rcases tWrite_false hq with ⟨_, e⟩ | ⟨_, e⟩
        · rw [e, ← B_size]; omega
        · rw [e]; simp
    refine ⟨s, mkB (tWrite (B s) u (B d)).1, Ev.bind hs (Ev.bind hv ?_), by omega, by omega⟩
    simp only [if_neg hz]
    exact Ev.bind hu (Ev.bind hd (Ev.bind hW (Ev.now _)))
theorem bt_eq {a b : ByteArray} {p : Nat} (h1 : p < (B a).length) (h2 : p < (B b).length) (h : bt a (p : Int) = bt b (p : Int)) : (B a).getD p 46 = (B b).getD p 46 := by
  rw [bt_B a p h1, bt_B b p h2] at h
  rw [List.getD_eq_getElem?_getD, List.getD_eq_getElem?_getD, List.getElem?_eq_getElem h1, List.getElem?_eq_getElem h2]
  show (B a)[p] = (B b)[p]
  exact UInt8.toNat_inj.1 (by omega)
theorem diff_none {a b : ByteArray} {p : Nat} (h : diffP a b p = false) (hp : p < max a.size b.size) : p < a.size ∧ p < b.size ∧ (B a).getD p 46 = (B b).getD p 46 := by
  unfold diffP diffAt at h
  rw [decide_eq_true hp, Bool.true_and] at h
  by_cases h1 : (a.size : Int) ≤ (p : Int)
  · rw [if_pos h1] at h
    cases h
  · rw [if_neg h1] at h
    by_cases h2 : (b.size : Int) ≤ (p : Int)
    · rw [if_pos h2] at h
      cases h
    · rw [if_neg h2, bne_eq_false_iff_eq] at h
      exact ⟨by omega, by omega, bt_eq (by rw [← B_size]; omega) (by rw [← B_size]; omega) h⟩
theorem ext46 {X Y : List UInt8} (h : X.length = Y.length) (hg : ∀ p, p < Y.length → X.getD p 46 = Y.getD p 46) : X = Y := by
  apply List.ext_getElem h
  intro i h1 h2
  have := hg i h2
  rw [List.getD_eq_getElem?_getD, List.getD_eq_getElem?_getD, List.getElem?_eq_getElem h1, List.getElem?_eq_getElem h2] at this
  exact this
theorem diff_loop (a b : ByteArray) (ha : tOk (B a) = true) (hb : tOk (B b) = true) (A0 : List UInt8) (hA0 : ∀ p, p < (B b).length → p < (B a).length → A0.getD p 46 = (B a).getD p 46) :
    ∀ (d i : Nat) (x : ByteArray), i + d = (difL a b).length → tOk (B x) = true → (B x).length = (B b).length → (∀ p, p < (B b).length → (B x).getD p 46 = if inL ((difL a b).take i) p = true then (B b).getD p 46 else A0.getD p 46) →
    Ev (fun k => laws_FnTextDiff.l0 k a b (difL a b) x (i : Int)) true := by
  have hla := tOk_len ha
  have hlb := tOk_len hb
  have hg := difL_GL a b
  have hgl := GL_length hg
  have hin : ∀ p, p < 48 → inL (difL a b) p = diffP a b p := fun p hp => by
    rw [difL_on ha hb, runs_in _ p hp]
    exact dB_get a b (by rw [B_size]; omega) (by rw [B_size]; omega) p hp
  have hsa : a.size = (B a).length := B_size a
  have hsb : b.size = (B b).length := B_size b
  intro d
  induction d with
  | zero =>
    intro i x hi hxo hxl hx
    rw [List.take_of_length_le (by omega)] at hx
    have e : B x = B b := by
      refine ext46 hxl (fun p hp => ?_)
      rw [hx p hp]
      by_cases h : inL (difL a b) p = true
      · rw [if_pos h]
      · rw [if_neg h]
        rw [hin p (by omega)] at h
        obtain ⟨h1, h2, h3⟩ := diff_none (by simpa using h) (p := p) (by omega)
        rw [hA0 p hp (by omega), h3]
    have e2 : (((difL a b).length : Int) == 0) = (a.toList == b.toList) := by
      rw [Bool.eq_iff_iff, beq_iff_eq, beq_iff_eq, B_toList, B_toList]
      constructor
      · intro h
        have hnil : difL a b = [] := List.length_eq_zero_iff.1 (by omega)
        have hno : ∀ p, p < 48 → diffP a b p = false := fun p hp => by rw [← hin p hp, hnil, inL_nil]
        have hlen : (B a).length = (B b).length := by
          by_cases h1 : (B a).length < (B b).length
          · have := diff_none (hno (B a).length (by omega)) (by omega)
            omega
          · by_cases h2 : (B b).length < (B a).length
            · have := diff_none (hno (B b).length (by omega)) (by omega)
              omega
            · omega
        exact ext46 hlen (fun p hp => (diff_none (hno p (by omega)) (by omega)).2.2)
      · intro h
        have : difL a b = [] := by
          rw [difL_on ha hb]
          refine runs_eq trivial (fun p hp => ?_)
          rw [inL_nil, dB_get a b (by omega) (by omega) p hp]
          have hab : a = b := B_inj h
          subst hab
          unfold diffP diffAt
          by_cases h1 : (a.size : Int) ≤ (p : Int)
          · rw [decide_eq_false (by omega)]; rfl
          · rw [if_neg h1, if_neg h1, bne_self_eq_false, Bool.and_false]
        rw [this]
        rfl
    refine Ev.end_ (fun k => ?_)
    simp only [laws_FnTextDiff.l0]
    rw [if_neg (by omega), if_pos (by rw [B_toList, B_toList, e]), e2, beq_self_eq_true]
  | succ d ih =>
    intro i x hi hxo hxl hx
    have hi1 : i < (difL a b).length := by omega
    have hat := GL_at hg i hi1
    have hts := take_snoc (difL a b) i hi1
    generalize hs : (difL a b).getD i z40 = s at hat hts
    have hrd : rd_T40 (difL a b) (i : Int) = s := hs
    have hok : spOk s.f0 s.f1 = true := decide_eq_true ⟨hat.2.1, hat.2.2.1, hat.2.2.2⟩
    obtain ⟨r, hr, hrB⟩ := impl_TextRead_is b (by omega) s.f0 s.f1
    have hD : B r = ((B b).take s.f1.toNat).drop s.f0.toNat := by rw [hrB]; unfold tRead; rw [if_pos ⟨hb, hok⟩]
    have hone : ∀ p, inL [s] p = inS s.f0 s.f1 p := fun p => by cases s; exact inL_one _ _ p
    have hDl : (B r).length = min s.f1.toNat (B b).length - s.f0.toNat := by rw [hD, List.length_drop, List.length_take]
    have hcut : ∀ {y : ByteArray}, (B r = [] → y = x) → (B r ≠ [] → Ev (fun k => impl_TextWrite.f k x s.f0 r) (y, true)) → Ev (fun k => laws_FnTextDiff.l0 k a b (difL a b) y ((i + 1 : Nat) : Int)) true → Ev (fun k => laws_FnTextDiff.l0 k a b (difL a b) x (i : Int)) true := by
      intro y hy1 hy2 h
      refine Ev.cut (f := fun k => (impl_TextRead.f k b s.f0 s.f1).bind fun t256 => (if t256.toList = ([] : List UInt8) then (laws_FnTextDiff.l0 k a b (difL a b) x ((i + 1 : Nat) : Int)) else ((impl_TextWrite.f k x s.f0 t256).bind fun bt258 => (laws_FnTextDiff.l0 k a b (difL a b) bt258.1 ((i + 1 : Nat) : Int))))) (Ev.bind hr ?_) (fun k => ?_)
      · by_cases hn : B r = []
        · simp only [if_pos ((toList_nil r).2 hn)]
          rw [← hy1 hn]
          exact h
        · simp only [if_neg (fun hh => hn ((toList_nil r).1 hh))]
          exact Ev.bind (hy2 hn) h
      · simp only [laws_FnTextDiff.l0]
        rw [if_pos (by omega), if_pos (by omega), hrd, wsucc i (by omega)]
    by_cases hn : B r = []
    · refine hcut (y := x) (fun _ => rfl) (fun h => absurd hn h) (ih (i + 1) x (by omega) hxo hxl (fun p hp => ?_))
      rw [hx p hp, hts, inL_app, hone]
      have hz : (B r).length = 0 := by rw [hn]; rfl
      have : inS s.f0 s.f1 p = false := by
        rw [Bool.eq_false_iff]
        intro h
        have := (inS_iff _ _ _).1 h
        omega
      rw [this, Bool.or_false]
    · have hpos : 0 < (B r).length := List.length_pos_iff.2 hn
      have hro : tOk (B r) = true := by
        unfold tOk at hb ⊢
        rw [Bool.and_eq_true, List.all_eq_true] at hb ⊢
        refine ⟨fun c hc => hb.1 c ?_, decide_eq_true (by omega)⟩
        rw [hD] at hc
        exact List.mem_of_mem_take (List.mem_of_mem_drop hc)
      have hW := impl_TextWrite_is x s.f0 r (by rw [B_size]; omega) (by rw [B_size]; omega)
      rw [tWrite_mk hxo hat.2.1 (by omega) hn hro (by omega)] at hW
      have hyB : B (mkB (wrL (B x) s.f0.toNat (B r))) = wrL (B x) s.f0.toNat (B r) := B_mkB _
      refine hcut (y := mkB (wrL (B x) s.f0.toNat (B r))) (fun h => absurd h hn) (fun _ => hW) (ih (i + 1) _ (by omega) ?_ ?_ (fun p hp => ?_))
      · rw [hyB]; exact wrL_tOk hxo hro (by omega)
      · rw [hyB, wrL_length]; omega
      · rw [hyB, wrL_getD, hts, inL_app, hone]
        by_cases hps : s.f0.toNat ≤ p ∧ p < s.f0.toNat + (B r).length
        · have h1 : inS s.f0 s.f1 p = true := (inS_iff _ _ _).2 (by omega)
          rw [if_pos hps, h1, Bool.or_true, if_pos rfl, hD, List.getD_eq_getElem?_getD, List.getD_eq_getElem?_getD, List.getElem?_drop, show s.f0.toNat + (p - s.f0.toNat) = p by omega, List.getElem?_take, if_pos (by omega)]
        · have h1 : inS s.f0 s.f1 p = false := by
            rw [Bool.eq_false_iff]
            intro h
            have := (inS_iff _ _ _).1 h
            omega
          rw [if_neg hps, h1, Bool.or_false, hx p hp]

theorem FnTextDiff (l0 : List Int) (hm0 : l0.length ≤ maxLen) (hw0 : ∀ x ∈ l0, (Lit.int .u8 x).wf = true) : ∃ k, laws_FnTextDiff.f k l0 = some true := by
  have hw := hw0
  by_cases h : (l0.length : Int) > 1048576
  · exact ⟨0, by unfold laws_FnTextDiff.f; rw [if_pos h]⟩
  refine Ev.rounds (r := true) (g := fun k => laws_FnTextDiff.f k l0) ?_
  unfold laws_FnTextDiff.f
  simp only [if_neg h]
  obtain ⟨a, b, hd, ha, hb⟩ := diff_draw l0 hw
  have hgl := GL_length (difL_GL a b)
  have h1 := impl_TextDiff_is a b ha hb
  have h2 := spec_TextDiff_is a b ha hb
  have h3 := impl_TextDiff_is b a hb ha
  rw [← difL_comm a b] at h3
  have hwp := wpSpans_refl (difL a b) (by omega)
  refine Ev.bind hd (Ev.bind h1 (Ev.bind h2 (Ev.bind hwp ?_)))
  simp only [if_true]
  refine Ev.bind h3 (Ev.bind hwp ?_)
  refine Ev.step (fun k => by simp only [laws_FnTextDiff.j0, Bool.not_true, Bool.false_eq_true, if_false]; rfl) ?_
  have hbad : difL a b = [] → Ev (fun k => laws_FnTextDiff.j1 k a b (difL a b) true) true := fun e => Ev.end_ (fun k => by simp only [laws_FnTextDiff.j1, if_true, e]; rfl)
  refine Ev.bind (spec_TextOk_is a ha) ?_
  cases ho1 : tOk (B a) with
  | false =>
    simp only [Bool.false_eq_true, if_false]
    exact hbad (difL_off (by rw [ho1]; simp))
  | true =>
    simp only [if_true]
    refine Ev.bind (spec_TextOk_is b hb) ?_
    cases ho2 : tOk (B b) with
    | false => exact hbad (difL_off (by rw [ho2]; simp))
    | true =>
      refine Ev.step (fun k => by simp only [laws_FnTextDiff.j1, Bool.not_true, Bool.false_eq_true, if_false]; rfl) ?_
      have hlb := tOk_len ho2
      have hC := impl_TextCut_is a (b.size : Int) ha
      have eC : tCut (B a) (b.size : Int) = ((padL (B a) b.size).take b.size, true) := by
        unfold tCut
        rw [if_pos ho1, if_pos (by rw [B_size]; omega), Int.toNat_natCast]
      rw [eC] at hC
      refine Ev.bind hC ?_
      have hBx : B (mkB ((padL (B a) b.size).take b.size)) = (padL (B a) b.size).take b.size := B_mkB _
      have hpl : b.size ≤ (padL (B a) b.size).length := by
        by_cases hz : b.size = 0
        · omega
        · have := padL_get (B a) b.size (b.size - 1) (by omega)
          have := (List.getElem?_eq_some_iff.1 this).1
          omega
      refine diff_loop a b ho1 ho2 ((padL (B a) b.size).take b.size) (fun p hp hq => ?_) (difL a b).length 0 _ (by omega) ?_ ?_ (fun p hp => ?_)
      · rw [List.getD_eq_getElem?_getD, List.getElem?_take, if_pos (by rw [B_size]; exact hp), padL_get (B a) b.size p (by omega)]
        rfl
      · rw [hBx]; exact cut_tOk ho1 (by rw [B_size]; omega)
      · rw [hBx, List.length_take, ← B_size]; omega
      · rw [hBx, List.take_zero, inL_nil, if_neg (by decide)]

end Go.Proofs.Ytfomnpbhpncpaaa.Pure
