/- The law FnTextWrite over numbers and lists, as the program's text computes it: it answers true. Conditions: the arguments are of their kinds, lengths fit. -/
import Derived.Test.YtfomnpbhpncpaaaQx29
import Derived.OpenShut
import Derived.Laws.Strings
namespace Go.Proofs.Ytfomnpbhpncpaaa.Pure
open Go.RowKit Go.Proofs.Ytfomnpbhpncpaaa.Q Go.Proofs.YtfomnpbhpncpaaaW.PrintWords Go.Proofs.YtfomnpbhpncpaaaW.PrintLast
set_option linter.unusedVariables false
set_option linter.unusedSimpArgs false

/-! Words for the pure side: strings as lists of bytes, counters as natural numbers, what is answered from some round on. -/
def B (s : ByteArray) : List UInt8 := s.data.toList
theorem B_size (s : ByteArray) : s.size = (B s).length := (Array.length_toList).symm
theorem B_toList (s : ByteArray) : s.toList = B s := Go.ByteArray.toList_eq s
theorem B_inj {s t : ByteArray} (h : B s = B t) : s = t := by
  cases s; cases t
  simp only [B] at h
  congr 1
  exact Array.ext' h
theorem B_app (s t : ByteArray) : B (s ++ t) = B s ++ B t := by simp [B, ByteArray.data_append]
theorem app_size (s t : ByteArray) : (s ++ t).size = s.size + t.size := by rw [B_size, B_app, List.length_append, ← B_size, ← B_size]
theorem B_ext (s : ByteArray) (i j : Nat) : B (s.extract i j) = ((B s).take j).drop i := by
  simp [B, ByteArray.data_extract, List.extract_eq_take_drop, List.drop_take]
theorem B_nil : B (⟨#[]⟩ : ByteArray) = [] := rfl
theorem bt_B (s : ByteArray) (i : Nat) (h : i < (B s).length) : bt s (i : Int) = (((B s)[i]'h).toNat : Int) := by
  have h' : (i : Int).toNat < s.size := by rw [B_size]; simpa using h
  unfold bt
  rw [dif_pos h']
  rfl
theorem wsucc (i : Nat) (h : i < 4611686018427387904) : wrap64 ((i : Int) + 1) = ((i + 1 : Nat) : Int) := by unfold wrap64; omega
theorem wpred (i : Nat) (h : i < 4611686018427387904) (h0 : 0 < i) : wrap64 ((i : Int) - 1) = ((i - 1 : Nat) : Int) := by unfold wrap64; omega
theorem wid {x : Int} (h0 : -9223372036854775808 ≤ x) (h1 : x ≤ 9223372036854775807) : wrap64 x = x := by unfold wrap64; omega
theorem Ev.cut {α : Type} {g f : Nat → Option α} {r : α} (k : Ev f r) (h : ∀ k, g (k + 1) = f k) : Ev g r := Ev.step h k
theorem Ev.end_ {α : Type} {g : Nat → Option α} {r : α} (h : ∀ k, g (k + 1) = some r) : Ev g r := Ev.step h (Ev.now r)
theorem Ev.all {α : Type} {g : Nat → Option α} {r : α} (h : ∀ k, g k = some r) : Ev g r := ⟨0, fun k _ => h k⟩
theorem Ev.uniq {α : Type} {g : Nat → Option α} {r q : α} (h : Ev g r) (h' : Ev g q) : r = q := by
  obtain ⟨K, h⟩ := h
  obtain ⟨K', h'⟩ := h'
  have h1 := h (max K K') (by omega)
  rw [h' (max K K') (by omega)] at h1
  exact (Option.some.inj h1).symm
theorem dec_eq {p q : Prop} [Decidable p] [Decidable q] (h : p ↔ q) : (some (decide p) : Option Bool) = some (decide q) := by rw [decide_eq_decide.2 h]
theorem dec_false {q : Prop} [Decidable q] (h : ¬ q) : (some false : Option Bool) = some (decide q) := by rw [decide_eq_false h]
theorem dec_true {q : Prop} [Decidable q] (h : q) : (some true : Option Bool) = some (decide q) := by rw [decide_eq_true h]

def mkB (L : List UInt8) : ByteArray := ⟨L.toArray⟩
theorem B_mkB (L : List UInt8) : B (mkB L) = L := by simp [B, mkB]
theorem eq_mkB {r : ByteArray} {X : List UInt8} (h : B r = X) : r = mkB X := B_inj (by rw [h, B_mkB])
theorem mkB_B (s : ByteArray) : mkB (B s) = s := (eq_mkB rfl).symm
theorem mkB_size (L : List UInt8) : (mkB L).size = L.length := by rw [B_size, B_mkB]

/-! Ranges, valid. -/
def spOk (a b : Int) : Bool := decide (0 ≤ a ∧ a < b ∧ b ≤ 48)
theorem impl_SpanOk_is (a b : Int) : impl_SpanOk.f a b = some (spOk a b) := by
  unfold impl_SpanOk.f spOk
  repeat' split
  all_goals first | exact dec_eq (by omega) | exact dec_false (by omega)

theorem l1Min_is (a b : Int) : spec_l1Min.f a b = some (mn a b) := by
  unfold spec_l1Min.f mn
  split <;> split <;> first | rfl | (congr 1; omega)

/-! Files, valid. -/
def cOk (c : UInt8) : Bool := decide (c.toNat = 46 ∨ (97 ≤ c.toNat ∧ c.toNat ≤ 122) ∨ (48 ≤ c.toNat ∧ c.toNat ≤ 57))
def tOk (l : List UInt8) : Bool := l.all cOk && decide (l.length ≤ 48)
theorem spec_l2Byte_is (c : UInt8) : spec_l2Byte.f (c.toNat : Int) = some (cOk c) := by
  unfold spec_l2Byte.f cOk
  repeat' split
  all_goals first | exact dec_true (by omega) | exact dec_eq (by omega) | exact dec_false (by omega)
theorem all_drop (l : List UInt8) (i : Nat) (h : i < l.length) : (l.drop i).all cOk = (cOk l[i] && (l.drop (i + 1)).all cOk) := by
  rw [List.drop_eq_getElem_cons h, List.all_cons]
theorem spec_TextOk_l (s : ByteArray) (hs : s.size < 4611686018427387904) : ∀ (d i : Nat), i + d = (B s).length → Ev (fun k => spec_TextOk.l0 k s (i : Int)) ((((B s).drop i).all cOk) && decide ((B s).length ≤ 48)) := by
  have hz : (s.size : Int) = ((B s).length : Int) := by rw [B_size]
  have hs' : (B s).length < 4611686018427387904 := by rw [← B_size]; exact hs
  intro d
  induction d with
  | zero =>
    intro i hi
    refine Ev.end_ (fun k => ?_)
    simp only [spec_TextOk.l0]
    rw [hz, if_neg (by omega), List.drop_of_length_le (by omega)]
    simp
    omega
  | succ d ih =>
    intro i hi
    have hlt : i < (B s).length := by omega
    have hr : (((B s).drop i).all cOk) = (cOk ((B s)[i]) && ((B s).drop (i + 1)).all cOk) := all_drop _ _ hlt
    rw [hr]
    cases hc : cOk ((B s)[i]) with
    | true =>
      refine Ev.cut (f := fun k => spec_TextOk.l0 k s ((i + 1 : Nat) : Int)) ?_ (fun k => ?_)
      · simpa using ih (i + 1) (by omega)
      · simp only [spec_TextOk.l0]
        rw [hz, if_pos (by omega), if_pos (by omega), bt_B s i hlt, spec_l2Byte_is, wsucc i (by omega), hc]
        rfl
    | false =>
      refine Ev.end_ (fun k => ?_)
      simp only [spec_TextOk.l0]
      rw [hz, if_pos (by omega), if_pos (by omega), bt_B s i hlt, spec_l2Byte_is, hc]
      simp
theorem spec_TextOk_is (s : ByteArray) (hs : s.size < 4611686018427387904) : Ev (fun k => spec_TextOk.f k s) (tOk (B s)) := by
  have h := spec_TextOk_l s hs (B s).length 0 (by omega)
  simpa [spec_TextOk.f, tOk] using h
theorem impl_TextOk_l (s : ByteArray) (hs : s.size < 4611686018427387904) : ∀ (d i : Nat), i + d = (B s).length → Ev (fun k => impl_TextOk.l0 k s (s.size : Int) (i : Int)) ((((B s).drop i).all cOk) && decide ((B s).length ≤ 48)) := by
  have hz : (s.size : Int) = ((B s).length : Int) := by rw [B_size]
  have hs' : (B s).length < 4611686018427387904 := by rw [← B_size]; exact hs
  intro d
  induction d with
  | zero =>
    intro i hi
    refine Ev.end_ (fun k => ?_)
    simp only [impl_TextOk.l0]
    rw [hz, if_neg (by omega), List.drop_of_length_le (by omega)]
    simp
    omega
  | succ d ih =>
    intro i hi
    have hlt : i < (B s).length := by omega
    have hr : (((B s).drop i).all cOk) = (cOk ((B s)[i]) && ((B s).drop (i + 1)).all cOk) := all_drop _ _ hlt
    rw [hr]
    cases hc : cOk ((B s)[i]) with
    | true =>
      have hc' := of_decide_eq_true hc
      refine Ev.cut (f := fun k => impl_TextOk.l0 k s (s.size : Int) ((i + 1 : Nat) : Int)) ?_ (fun k => ?_)
      · simpa using ih (i + 1) (by omega)
      · simp only [impl_TextOk.l0]
        rw [if_pos (by omega), if_pos (by omega), if_pos (by omega), bt_B s i hlt, wsucc i (by omega)]
        repeat' split
        all_goals first | rfl | (exfalso; omega)
    | false =>
      have hc' := of_decide_eq_false hc
      refine Ev.end_ (fun k => ?_)
      simp only [impl_TextOk.l0]
      rw [if_pos (by omega), if_pos (by omega), if_pos (by omega), bt_B s i hlt]
      simp only [Bool.false_and]
      repeat' split
      all_goals first | rfl | (exfalso; omega)
theorem impl_TextOk_is (s : ByteArray) (hs : s.size < 4611686018427387904) : Ev (fun k => impl_TextOk.f k s) (tOk (B s)) := by
  have h := impl_TextOk_l s hs (B s).length 0 (by omega)
  simpa [impl_TextOk.f, tOk] using h

theorem tOk_len {L : List UInt8} (h : tOk L = true) : L.length ≤ 48 := by
  simp [tOk] at h
  exact h.2

/-! Reads. -/
def tRead (l : List UInt8) (a b : Int) : List UInt8 := if tOk l = true ∧ spOk a b = true then (l.take b.toNat).drop a.toNat else []
theorem impl_TextRead_is (s : ByteArray) (hs : s.size < 4611686018427387904) (a b : Int) : ∃ r, Ev (fun k => impl_TextRead.f k s a b) r ∧ B r = tRead (B s) a b := by
  have h := impl_TextOk_is s hs
  cases ht : tOk (B s) with
  | false =>
    rw [ht] at h
    refine ⟨⟨#[]⟩, Ev.bind h (Ev.all fun k => rfl), by simp [tRead, ht, B_nil]⟩
  | true =>
    rw [ht] at h
    cases hp : spOk a b with
    | false => refine ⟨⟨#[]⟩, Ev.bind h (Ev.all fun k => by simp [impl_SpanOk_is, hp]), by simp [tRead, hp, B_nil]⟩
    | true =>
      have hp' := of_decide_eq_true hp
      refine ⟨s.extract (mn a s.size).toNat (mn b s.size).toNat, Ev.bind h (Ev.all fun k => ?_), ?_⟩
      · simp only [impl_SpanOk_is, hp, if_true, Option.bind_some]
        rw [if_pos (by unfold mn; split <;> omega), if_pos (by unfold mn; split <;> split <;> omega), if_pos (by unfold mn; split <;> omega)]
      · rw [B_ext, tRead, if_pos ⟨ht, hp⟩]
        have hz : (s.size : Int) = ((B s).length : Int) := by rw [B_size]
        rw [hz]
        unfold mn
        split <;> split
        · rw [List.take_of_length_le (by omega), List.drop_of_length_le (by omega), List.drop_of_length_le (by rw [List.length_take]; omega)]
        · rw [List.drop_of_length_le (by rw [List.length_take]; omega), List.drop_of_length_le (by rw [List.length_take]; omega)]
        · rw [List.take_of_length_le (by omega), List.take_of_length_le (by omega)]
        · rfl

/-! A file made longer. -/
def padL (L : List UInt8) (n : Nat) : List UInt8 := L ++ List.replicate (n - L.length) 46
theorem padL_length (L : List UInt8) (n : Nat) : (padL L n).length = max L.length n := by simp [padL]; omega
theorem padL_short (L : List UInt8) (n : Nat) (h : n ≤ L.length) : padL L n = L := by simp [padL, Nat.sub_eq_zero_of_le h]
theorem l2Long_l : ∀ (d : Nat) (s : ByteArray) (n : Int), n.toNat - (B s).length = d → s.size < 4611686018427387904 → n < 4611686018427387904 → Ev (fun k => spec_l2Long.l0 k s n) (mkB (padL (B s) n.toNat)) := by
  intro d
  induction d with
  | zero =>
    intro s n hd hs hn
    refine Ev.end_ (fun k => ?_)
    simp only [spec_l2Long.l0]
    rw [if_neg (by rw [B_size]; omega), padL_short _ _ (by omega), mkB_B]
  | succ d ih =>
    intro s n hd hs hn
    have hb : B (s ++ (⟨#[46]⟩ : ByteArray)) = B s ++ [46] := by rw [B_app]; rfl
    have hz : (B s).length = s.size := (B_size s).symm
    have h := ih (s ++ (⟨#[46]⟩ : ByteArray)) n (by rw [hb]; simp; omega) (by rw [B_size, hb]; simp; omega) hn
    have e : padL (B (s ++ (⟨#[46]⟩ : ByteArray))) n.toNat = padL (B s) n.toNat := by
      rw [hb]
      unfold padL
      rw [List.append_assoc, List.length_append]
      congr 1
      rw [show n.toNat - (B s).length = (n.toNat - ((B s).length + [46].length)) + 1 by simp; omega, List.replicate_succ]
      rfl
    rw [e] at h
    refine Ev.cut h (fun k => ?_)
    simp only [spec_l2Long.l0]
    rw [if_pos (by rw [B_size]; omega), if_pos (by omega)]
theorem l2Long_is (s : ByteArray) (n : Int) (hs : s.size < 4611686018427387904) (hn : n < 4611686018427387904) : Ev (fun k => spec_l2Long.f k s n) (mkB (padL (B s) n.toNat)) := l2Long_l _ s n rfl hs hn

/-! A file cut, or made longer: the two programs'. -/
theorem sized_is (s : ByteArray) (n : Int) (h0 : 0 ≤ n) (hn : n ≤ 1000) (hs : s.size ≤ 1000) : impl_sized.f s n = some (mkB ((padL (B s) n.toNat).take n.toNat)) := by
  have hz : (B s).length = s.size := (B_size s).symm
  unfold impl_sized.f
  by_cases h : n ≤ (s.size : Int)
  · rw [if_pos h, if_pos h0]
    congr 1
    refine eq_mkB ?_
    rw [B_ext, padL_short _ _ (by omega)]
    rfl
  · have hw : wrap64 (n - (s.size : Int)) = n - (s.size : Int) := wid (by omega) (by omega)
    have hrep : Lib.repeatL (⟨#[46]⟩ : ByteArray).data.toList (n - (s.size : Int)).toNat = List.replicate (n - (s.size : Int)).toNat 46 := by
      have := Lib.repeatL_replicate 46 1 (n - (s.size : Int)).toNat
      rw [Nat.mul_one] at this
      exact this
    rw [if_neg h, hw]
    unfold strings_Repeat.f
    rw [if_pos (by omega), if_pos (by omega), if_pos (by show 1 * _ ≤ _; omega), Option.bind_some, hrep]
    have e : B (⟨(List.replicate (n - (s.size : Int)).toNat (46 : UInt8)).toArray⟩ : ByteArray) = List.replicate (n - (s.size : Int)).toNat 46 := B_mkB _
    have e2 : (⟨(List.replicate (n - (s.size : Int)).toNat (46 : UInt8)).toArray⟩ : ByteArray).size = (n - (s.size : Int)).toNat := by rw [B_size, e, List.length_replicate]
    rw [if_pos (by rw [e2]; omega)]
    congr 1
    refine eq_mkB ?_
    rw [B_app, e, List.take_of_length_le (by rw [padL_length]; omega)]
    unfold padL
    rw [show n.toNat - (B s).length = (n - (s.size : Int)).toNat by omega]
def tCut (L : List UInt8) (n : Int) : List UInt8 × Bool := if tOk L = true then (if 0 ≤ n ∧ n ≤ 48 then ((padL L n.toNat).take n.toNat, true) else (L, false)) else ([], false)
theorem impl_TextCut_is (s : ByteArray) (n : Int) (hz : s.size < 4611686018427387904) : Ev (fun k => impl_TextCut.f k s n) (mkB (tCut (B s) n).1, (tCut (B s) n).2) := by
  unfold impl_TextCut.f tCut
  refine Ev.bind (impl_TextOk_is s hz) ?_
  cases ht : tOk (B s) with
  | false => exact Ev.all fun k => rfl
  | true =>
    have hl := tOk_len ht
    have hzz : (B s).length = s.size := (B_size s).symm
    simp only [if_true]
    refine Ev.all fun k => ?_
    by_cases h0 : n < 0
    · rw [if_pos h0, if_neg (by omega), mkB_B]
    rw [if_neg h0]
    by_cases h1 : n > 48
    · rw [if_pos h1, if_neg (by omega), mkB_B]
    rw [if_neg h1, if_pos ⟨by omega, by omega⟩, sized_is s n (by omega) (by omega) (by omega)]
    rfl
theorem spec_TextCut_is (s : ByteArray) (n : Int) (hz : s.size < 4611686018427387904) : Ev (fun k => spec_TextCut.f k s n) (mkB (tCut (B s) n).1, (tCut (B s) n).2) := by
  unfold spec_TextCut.f tCut
  refine Ev.bind (spec_TextOk_is s hz) ?_
  cases ht : tOk (B s) with
  | false => exact Ev.all fun k => rfl
  | true =>
    simp only [if_true]
    by_cases h0 : n < 0
    · exact Ev.all fun k => by rw [if_pos h0, if_neg (by omega), mkB_B]
    simp only [if_neg h0]
    by_cases h1 : n > 48
    · exact Ev.all fun k => by rw [if_pos h1, if_neg (by omega), mkB_B]
    simp only [if_neg h1, if_pos (show 0 ≤ n ∧ n ≤ 48 by omega)]
    refine Ev.bind (l2Long_is s n hz (by omega)) (Ev.all fun k => ?_)
    rw [if_pos (by omega), if_pos (by rw [mkB_size, padL_length]; omega)]
    congr 2
    refine eq_mkB ?_
    rw [B_ext, B_mkB]
    rfl

/-! Bytes put into a file: the two programs'. -/
def wrL (L : List UInt8) (a : Nat) (D : List UInt8) : List UInt8 := (padL L a).take a ++ D ++ L.drop (a + D.length)
def tWrite (L : List UInt8) (a : Int) (D : List UInt8) : List UInt8 × Bool := if tOk L = true then (if 0 ≤ a ∧ a ≤ 48 ∧ D ≠ [] ∧ tOk D = true ∧ a + D.length ≤ 48 then (wrL L a.toNat D, true) else (L, false)) else ([], false)

theorem padL_take (L : List UInt8) {a b : Nat} (h : a ≤ b) : (padL L b).take a = (padL L a).take a := by
  unfold padL
  by_cases hl : a ≤ L.length
  · rw [List.take_append_of_le_length hl, List.take_append_of_le_length hl]
  · rw [List.take_append, List.take_append, List.take_replicate, List.take_replicate]
    congr 2
    omega
theorem padL_drop (L : List UInt8) {a b : Nat} (h : a ≤ b) : (padL L a).drop b = L.drop b := by
  by_cases hl : a ≤ L.length
  · rw [padL_short _ _ hl]
  · rw [List.drop_of_length_le (by rw [padL_length]; omega), List.drop_of_length_le (by omega)]
theorem toList_nil (d : ByteArray) : d.toList = ([] : List UInt8) ↔ B d = [] := by rw [B_toList]
theorem impl_TextWrite_is (s : ByteArray) (a : Int) (d : ByteArray) (hz : s.size < 4611686018427387904) (hd : d.size < 4611686018427387904) :
    Ev (fun k => impl_TextWrite.f k s a d) (mkB (tWrite (B s) a (B d)).1, (tWrite (B s) a (B d)).2) := by
  unfold impl_TextWrite.f tWrite
  refine Ev.bind (impl_TextOk_is s hz) ?_
  cases ht : tOk (B s) with
  | false => exact Ev.all fun k => rfl
  | true =>
    have hl := tOk_len ht
    have hzz : s.size = (B s).length := B_size s
    have hdz : d.size = (B d).length := B_size d
    simp only [if_true]
    by_cases h0 : a < 0
    · exact Ev.all fun k => by rw [if_pos h0, if_neg (by omega), mkB_B]
    simp only [if_neg h0]
    by_cases h1 : a > 48
    · exact Ev.all fun k => by rw [if_pos h1, if_neg (by omega), mkB_B]
    simp only [if_neg h1]
    by_cases h2 : B d = []
    · exact Ev.all fun k => by rw [if_pos ((toList_nil d).2 h2), if_neg (fun h => h.2.2.1 h2), mkB_B]
    simp only [if_neg (fun h => h2 ((toList_nil d).1 h))]
    refine Ev.bind (impl_TextOk_is d hd) ?_
    cases h3 : tOk (B d) with
    | false => exact Ev.all fun k => by rw [if_neg (by simp), if_neg (by simp), mkB_B]
    | true =>
      simp only [if_true]
      have hdl := tOk_len h3
      have hw : wrap64 (a + (d.size : Int)) = a + ((B d).length : Int) := by rw [wid (by omega) (by omega), hdz]
      simp only [hw]
      by_cases h4 : a + ((B d).length : Int) > 48
      · exact Ev.all fun k => by rw [if_pos h4, if_neg (by omega), mkB_B]
      simp only [if_neg h4]
      refine Ev.all fun k => ?_
      have hmx : mx (s.size : Int) (a + ((B d).length : Int)) = max ((B s).length : Int) (a + ((B d).length : Int)) := by unfold mx; rw [hzz]; split <;> omega
      have hmn : mn (a + ((B d).length : Int)) (s.size : Int) = min (a + ((B d).length : Int)) ((B s).length : Int) := by unfold mn; rw [hzz]; split <;> omega
      rw [hmx, hmn, sized_is s _ (by omega) (by omega) (by omega), Option.bind_some, if_pos (show 0 ≤ a ∧ a ≤ 48 ∧ B d ≠ [] ∧ True ∧ a + ((B d).length : Int) ≤ 48 from ⟨by omega, by omega, h2, trivial, by omega⟩)]
      generalize hT : (padL (B s) (max ((B s).length : Int) (a + ((B d).length : Int))).toNat).take (max ((B s).length : Int) (a + ((B d).length : Int))).toNat = T
      have hTl : T.length = (max ((B s).length : Int) (a + ((B d).length : Int))).toNat := by rw [← hT, List.length_take, padL_length]; omega
      have hTt : T.take a.toNat = (padL (B s) a.toNat).take a.toNat := by
        rw [← hT, List.take_take, Nat.min_eq_left (by omega), padL_take _ (by omega)]
      have e1 : B ((mkB T).extract 0 a.toNat) = (padL (B s) a.toNat).take a.toNat := by rw [B_ext, B_mkB]; exact hTt
      have e1l : ((mkB T).extract 0 a.toNat).size ≤ 48 := by rw [B_size, e1, List.length_take, padL_length]; omega
      have e2 : B (s.extract (min (a + ((B d).length : Int)) ((B s).length : Int)).toNat s.size) = (B s).drop (a.toNat + (B d).length) := by
        rw [B_ext, hzz, List.take_length]
        by_cases hle : a + ((B d).length : Int) ≤ ((B s).length : Int)
        · rw [Int.min_eq_left hle, show (a + ((B d).length : Int)).toNat = a.toNat + (B d).length by omega]
        · rw [Int.min_eq_right (by omega), List.drop_of_length_le (by omega), List.drop_of_length_le (by omega)]
      have e2l : (s.extract (min (a + ((B d).length : Int)) ((B s).length : Int)).toNat s.size).size ≤ 48 := by rw [B_size, e2, List.length_drop]; omega
      rw [if_pos (by omega), if_pos (by rw [mkB_size, hTl]; omega), if_pos (by omega), if_pos (by omega), if_pos (by omega), if_pos (by rw [app_size]; omega)]
      congr 2
      refine eq_mkB ?_
      rw [B_app, B_app, e1, e2]
      rfl
theorem spec_TextWrite_is (s : ByteArray) (a : Int) (d : ByteArray) (hz : s.size < 4611686018427387904) (hd : d.size < 4611686018427387904) :
    Ev (fun k => spec_TextWrite.f k s a d) (mkB (tWrite (B s) a (B d)).1, (tWrite (B s) a (B d)).2) := by
  unfold spec_TextWrite.f tWrite
  refine Ev.bind (spec_TextOk_is s hz) ?_
  cases ht : tOk (B s) with
  | false => exact Ev.all fun k => rfl
  | true =>
    have hl := tOk_len ht
    have hzz : s.size = (B s).length := B_size s
    have hdz : d.size = (B d).length := B_size d
    simp only [if_true]
    by_cases h0 : a < 0
    · exact Ev.all fun k => by rw [if_pos h0, if_neg (by omega), mkB_B]
    simp only [if_neg h0]
    by_cases h1 : a > 48
    · exact Ev.all fun k => by rw [if_pos h1, if_neg (by omega), mkB_B]
    simp only [if_neg h1]
    refine Ev.bind (spec_TextOk_is d hd) ?_
    cases h3 : tOk (B d) with
    | false => exact Ev.all fun k => by rw [if_neg (by simp), if_neg (by simp), mkB_B]
    | true =>
      simp only [if_true]
      by_cases h2 : B d = []
      · exact Ev.all fun k => by rw [if_pos ((toList_nil d).2 h2), if_neg (fun h => h.2.2.1 h2), mkB_B]
      simp only [if_neg (fun h => h2 ((toList_nil d).1 h))]
      have hdl := tOk_len h3
      have hw : wrap64 (a + (d.size : Int)) = a + ((B d).length : Int) := by rw [wid (by omega) (by omega), hdz]
      simp only [hw]
      by_cases h4 : a + ((B d).length : Int) > 48
      · exact Ev.all fun k => by rw [if_pos h4, if_neg (by omega), mkB_B]
      simp only [if_neg h4]
      rw [if_pos (show 0 ≤ a ∧ a ≤ 48 ∧ B d ≠ [] ∧ True ∧ a + ((B d).length : Int) ≤ 48 from ⟨by omega, by omega, h2, trivial, by omega⟩)]
      unfold spec_l2Write.f
      simp only [hw]
      refine Ev.bind (a := mkB (wrL (B s) a.toNat (B d))) (Ev.bind (l2Long_is s a hz (by omega)) (Ev.all fun k => ?_)) (Ev.now _)
      have hTl : (padL (B s) a.toNat).length = max (B s).length a.toNat := padL_length _ _
      have e1 : B ((mkB (padL (B s) a.toNat)).extract 0 a.toNat) = (padL (B s) a.toNat).take a.toNat := by rw [B_ext, B_mkB]; rfl
      have e1l : ((mkB (padL (B s) a.toNat)).extract 0 a.toNat).size ≤ 48 := by rw [B_size, e1, List.length_take, padL_length]; omega
      have hmn : mn ((mkB (padL (B s) a.toNat)).size : Int) (a + ((B d).length : Int)) = min ((padL (B s) a.toNat).length : Int) (a + ((B d).length : Int)) := by unfold mn; rw [mkB_size]; split <;> omega
      have e2 : B ((mkB (padL (B s) a.toNat)).extract (min ((padL (B s) a.toNat).length : Int) (a + ((B d).length : Int))).toNat (mkB (padL (B s) a.toNat)).size) = (B s).drop (a.toNat + (B d).length) := by
        rw [B_ext, B_mkB, mkB_size, List.take_length]
        by_cases hle : a + ((B d).length : Int) ≤ ((padL (B s) a.toNat).length : Int)
        · rw [Int.min_eq_right hle, show (a + ((B d).length : Int)).toNat = a.toNat + (B d).length by omega, padL_drop _ (by omega)]
        · rw [Int.min_eq_left (by omega), List.drop_of_length_le (by omega), List.drop_of_length_le (by omega)]
      have e2l : ((mkB (padL (B s) a.toNat)).extract (min ((padL (B s) a.toNat).length : Int) (a + ((B d).length : Int))).toNat (mkB (padL (B s) a.toNat)).size).size ≤ 48 := by rw [B_size, e2, List.length_drop]; omega
      rw [if_pos (by omega), if_pos (by rw [mkB_size, hTl]; omega), if_pos (by omega), l1Min_is, Option.bind_some, hmn, if_pos (by omega), if_pos (by rw [mkB_size]; omega), if_pos (by rw [app_size]; omega)]
      congr 1
      refine eq_mkB ?_
      rw [B_app, B_app, e1, e2]
      rfl

/-! What a write leaves, place by place. -/
theorem getD_lt (L : List UInt8) (i : Nat) (h : i < L.length) : L[i]? = some (L.getD i 46) := by
  rw [List.getD_eq_getElem?_getD, List.getElem?_eq_getElem h]
  rfl
theorem getD_ge (L : List UInt8) (i : Nat) (h : ¬ i < L.length) : L.getD i 46 = 46 := by
  rw [List.getD_eq_getElem?_getD, List.getElem?_eq_none (by omega)]
  rfl
theorem padL_get (L : List UInt8) (n i : Nat) (h : i < max L.length n) : (padL L n)[i]? = some (L.getD i 46) := by
  unfold padL
  by_cases hl : i < L.length
  · rw [List.getElem?_append_left hl, getD_lt L i hl]
  · rw [List.getElem?_append_right (by omega), List.getElem?_replicate, if_pos (by omega), getD_ge L i hl]
theorem wrL_get (L : List UInt8) (a : Nat) (D : List UInt8) (i : Nat) : (wrL L a D)[i]? = if i < a then some (L.getD i 46) else if i < a + D.length then D[i - a]? else L[i]? := by
  have hl : ((padL L a).take a).length = a := by rw [List.length_take, padL_length]; omega
  unfold wrL
  by_cases h : i < a
  · rw [if_pos h, List.append_assoc, List.getElem?_append_left (by omega), List.getElem?_take, if_pos h, padL_get _ _ _ (by omega)]
  · rw [if_neg h]
    by_cases h2 : i < a + D.length
    · rw [if_pos h2, List.append_assoc, List.getElem?_append_right (by omega), hl, List.getElem?_append_left (by omega)]
    · rw [if_neg h2, List.append_assoc, List.getElem?_append_right (by omega), hl, List.getElem?_append_right (by omega), List.getElem?_drop]
      congr 1
      omega
theorem wrL_length (L : List UInt8) (a : Nat) (D : List UInt8) : (wrL L a D).length = max L.length (a + D.length) := by
  unfold wrL
  rw [List.length_append, List.length_append, List.length_take, padL_length, List.length_drop]
  omega
theorem tOk_iff {L : List UInt8} : tOk L = true ↔ (∀ x ∈ L, cOk x = true) ∧ L.length ≤ 48 := by
  unfold tOk
  rw [Bool.and_eq_true, List.all_eq_true, decide_eq_true_iff]
theorem padL_mem {L : List UInt8} {n : Nat} {x : UInt8} (h : x ∈ padL L n) : x ∈ L ∨ x = 46 := by
  unfold padL at h
  rcases List.mem_append.1 h with h | h
  · exact .inl h
  · exact .inr (List.eq_of_mem_replicate h)
theorem wrL_tOk {L : List UInt8} {a : Nat} {D : List UInt8} (h : tOk L = true) (hD : tOk D = true) (ha : a + D.length ≤ 48) : tOk (wrL L a D) = true := by
  obtain ⟨h1, h2⟩ := tOk_iff.1 h
  obtain ⟨d1, _⟩ := tOk_iff.1 hD
  refine tOk_iff.2 ⟨fun x hx => ?_, by rw [wrL_length]; omega⟩
  unfold wrL at hx
  rcases List.mem_append.1 hx with hx | hx
  · rcases List.mem_append.1 hx with hx | hx
    · rcases padL_mem (List.mem_of_mem_take hx) with hx | rfl
      · exact h1 x hx
      · rfl
    · exact d1 x hx
  · exact h1 x (List.mem_of_mem_drop hx)
theorem cut_tOk {L : List UInt8} {n : Nat} (h : tOk L = true) (hn : n ≤ 48) : tOk ((padL L n).take n) = true := by
  obtain ⟨h1, h2⟩ := tOk_iff.1 h
  refine tOk_iff.2 ⟨fun x hx => ?_, by rw [List.length_take]; omega⟩
  rcases padL_mem (List.mem_of_mem_take hx) with hx | rfl
  · exact h1 x hx
  · rfl
theorem wrL_again (L : List UInt8) (a : Nat) (D : List UInt8) : wrL (wrL L a D) a D = wrL L a D := by
  apply List.ext_getElem?
  intro i
  rw [wrL_get]
  by_cases h : i < a
  · rw [if_pos h, wrL_get, if_pos h, List.getD_eq_getElem?_getD, wrL_get, if_pos h]
    rfl
  · rw [if_neg h]
    by_cases h2 : i < a + D.length
    · rw [if_pos h2, wrL_get, if_neg h, if_pos h2]
    · rw [if_neg h2]
theorem wrL_read (L : List UInt8) (a : Nat) (D : List UInt8) : ((wrL L a D).take (a + D.length)).drop a = D := by
  apply List.ext_getElem?
  intro i
  rw [List.getElem?_drop, List.getElem?_take]
  by_cases h : i < D.length
  · rw [if_pos (by omega), wrL_get, if_neg (by omega), if_pos (by omega)]
    congr 1
    omega
  · rw [if_neg (by omega), List.getElem?_eq_none (by omega)]
theorem bt_get {s : ByteArray} {i : Nat} {x : UInt8} (h : (B s)[i]? = some x) : bt s (i : Int) = (x.toNat : Int) := by
  have hl := (List.getElem?_eq_some_iff.1 h).1
  rw [bt_B s i hl, (List.getElem?_eq_some_iff.1 h).2]

theorem tWrite_true {L : List UInt8} {a : Int} {D : List UInt8} (h : (tWrite L a D).2 = true) : tOk L = true ∧ 0 ≤ a ∧ a ≤ 48 ∧ D ≠ [] ∧ tOk D = true ∧ a + D.length ≤ 48 ∧ (tWrite L a D).1 = wrL L a.toNat D := by
  unfold tWrite at h ⊢
  by_cases h1 : tOk L = true
  · rw [if_pos h1] at h ⊢
    by_cases h2 : 0 ≤ a ∧ a ≤ 48 ∧ D ≠ [] ∧ tOk D = true ∧ a + D.length ≤ 48
    · rw [if_pos h2]
      exact ⟨h1, h2.1, h2.2.1, h2.2.2.1, h2.2.2.2.1, h2.2.2.2.2, rfl⟩
    · rw [if_neg h2] at h
      cases h
  · rw [if_neg h1] at h
    cases h
theorem tWrite_mk {L : List UInt8} {a : Int} {D : List UInt8} (h1 : tOk L = true) (h2 : 0 ≤ a) (h3 : a ≤ 48) (h4 : D ≠ []) (h5 : tOk D = true) (h6 : a + D.length ≤ 48) : tWrite L a D = (wrL L a.toNat D, true) := by
  unfold tWrite
  rw [if_pos h1, if_pos ⟨h2, h3, h4, h5, h6⟩]
theorem tWrite_false {L : List UInt8} {a : Int} {D : List UInt8} (h : (tWrite L a D).2 = false) : (tOk L = true ∧ (tWrite L a D).1 = L) ∨ (tOk L = false ∧ (tWrite L a D).1 = []) := by
  unfold tWrite at h ⊢
  by_cases h1 : tOk L = true
  · rw [if_pos h1] at h ⊢
    by_cases h2 : 0 ≤ a ∧ a ≤ 48 ∧ D ≠ [] ∧ tOk D = true ∧ a + D.length ≤ 48
    · rw [if_pos h2] at h
      cases h
    · rw [if_neg h2]
      exact .inl ⟨h1, rfl⟩
  · rw [if_neg h1]
    exact .inr ⟨by simpa using h1, rfl⟩

/-! Files that are one place by place. -/
theorem ext_getD {L M : List UInt8} (h : L.length = M.length) (g : ∀ i, L.getD i 46 = M.getD i 46) : L = M := by
  apply List.ext_getElem?
  intro i
  by_cases hi : i < L.length
  · rw [getD_lt L i hi, getD_lt M i (by omega), g]
  · rw [List.getElem?_eq_none (by omega), List.getElem?_eq_none (by omega)]
theorem wrL_getD (L : List UInt8) (a : Nat) (D : List UInt8) (i : Nat) : (wrL L a D).getD i 46 = if a ≤ i ∧ i < a + D.length then D.getD (i - a) 46 else L.getD i 46 := by
  rw [List.getD_eq_getElem?_getD, wrL_get]
  by_cases h : i < a
  · rw [if_pos h, if_neg (by omega)]
    rfl
  · rw [if_neg h]
    by_cases h2 : i < a + D.length
    · rw [if_pos h2, if_pos ⟨by omega, h2⟩, List.getD_eq_getElem?_getD]
    · rw [if_neg h2, if_neg (by omega), List.getD_eq_getElem?_getD]
theorem app_getD (D E : List UInt8) (i : Nat) : (D ++ E).getD i 46 = if i < D.length then D.getD i 46 else E.getD (i - D.length) 46 := by
  rw [List.getD_eq_getElem?_getD]
  by_cases h : i < D.length
  · rw [if_pos h, List.getElem?_append_left h, List.getD_eq_getElem?_getD]
  · rw [if_neg h, List.getElem?_append_right (by omega), List.getD_eq_getElem?_getD]
theorem wrL_comm (L : List UInt8) {a c : Nat} {D E : List UInt8} (h : a + D.length ≤ c ∨ c + E.length ≤ a) : wrL (wrL L a D) c E = wrL (wrL L c E) a D := by
  refine ext_getD (by simp only [wrL_length]; omega) (fun i => ?_)
  simp only [wrL_getD]
  by_cases h1 : a ≤ i ∧ i < a + D.length
  · rw [if_neg (by omega), if_pos h1, if_pos h1]
  · rw [if_neg h1, if_neg h1]
theorem wrL_split (L : List UInt8) (a : Nat) (D E : List UInt8) : wrL (wrL L a D) (a + D.length) E = wrL L a (D ++ E) := by
  refine ext_getD (by simp only [wrL_length, List.length_append]; omega) (fun i => ?_)
  simp only [wrL_getD, List.length_append, app_getD]
  by_cases h1 : a ≤ i ∧ i < a + D.length
  · rw [if_neg (by omega), if_pos h1, if_pos ⟨h1.1, by omega⟩, if_pos (by omega)]
  · by_cases h2 : a + D.length ≤ i ∧ i < a + D.length + E.length
    · rw [if_pos h2, if_pos ⟨by omega, by omega⟩, if_neg (by omega)]
      congr 1
      omega
    · rw [if_neg h2, if_neg h1, if_neg (by omega)]
theorem wrL_back (L : List UInt8) (a : Nat) (D : List UInt8) (h : a + D.length ≤ L.length) : wrL (wrL L a D) a ((L.take (a + D.length)).drop a) = L := by
  have hl : ((L.take (a + D.length)).drop a).length = D.length := by rw [List.length_drop, List.length_take]; omega
  refine ext_getD (by simp only [wrL_length, hl]; omega) (fun i => ?_)
  simp only [wrL_getD, hl]
  by_cases h1 : a ≤ i ∧ i < a + D.length
  · rw [if_pos h1, List.getD_eq_getElem?_getD, List.getElem?_drop, List.getElem?_take, if_pos (by omega), show a + (i - a) = i by omega, List.getD_eq_getElem?_getD]
  · rw [if_neg h1, if_neg h1]

/-! The reader of draws. -/
def RB (b : List Int) : Prop := b.length ≤ 2000 ∧ ∀ x ∈ b, 0 ≤ x ∧ x ≤ 255
theorem rd_byte {b : List Int} (hb : RB b) (i : Int) : 0 ≤ rd b i ∧ rd b i ≤ 255 := by
  unfold rd
  rw [List.getD_eq_getElem?_getD]
  cases e : b[i.toNat]? with
  | none => simp
  | some x => exact hb.2 x (List.mem_of_getElem? e)
theorem open_is (l : List Int) (hw : ∀ x ∈ l, (Lit.int .u8 x).wf = true) : ∃ b, spec_l10Open.f l = some (b, 0) ∧ RB b := by
  have h : ∀ x ∈ l, 0 ≤ x ∧ x ≤ 255 := fun x hx => bounds_u8 (hw x hx)
  unfold spec_l10Open.f
  by_cases hl : (l.length : Int) > 2000
  · rw [if_pos hl, if_pos (by omega)]
    exact ⟨_, rfl, by rw [List.length_take]; omega, fun x hx => h x (List.mem_of_mem_take hx)⟩
  · rw [if_neg hl]
    exact ⟨_, rfl, by omega, h⟩
theorem xor_nonneg (a b : Int) (ha0 : 0 ≤ a) (ha : a < 1152921504606846976) (hb0 : 0 ≤ b) (hb : b < 1152921504606846976) : 0 ≤ Go.bits .xor .i64 a b := by
  obtain ⟨m, rfl⟩ := Int.eq_ofNat_of_zero_le ha0
  obtain ⟨n, rfl⟩ := Int.eq_ofNat_of_zero_le hb0
  have hm : m < 2 ^ 60 := by omega
  have hn : n < 2 ^ 60 := by omega
  have hx : m ^^^ n < 2 ^ 60 := Nat.xor_lt_two_pow hm hn
  have hm' : m % 2 ^ IntKind.i64.bits = m := Nat.mod_eq_of_lt (show m < 2 ^ 64 by omega)
  have hn' : n % 2 ^ IntKind.i64.bits = n := Nat.mod_eq_of_lt (show n < 2 ^ 64 by omega)
  have e : Go.bits .xor .i64 (m : Int) (n : Int) = IntKind.i64.wrap ((m ^^^ n : Nat) : Int) := by
    simp only [bits, BitVec.ofInt_natCast, BitVec.toNat_xor, BitVec.toNat_ofNat, hm', hn']
  rw [e, IntKind.wrap_i64]
  omega
theorem pick_is {b : List Int} (hb : RB b) (p n : Int) (h0 : 0 ≤ p) (h1 : p ≤ 1099511627776) (hn1 : 1 ≤ n) : ∃ v, Ev (fun k => spec_l10Rd_pick.f k b p n) (v, p + 1) ∧ 0 ≤ v ∧ v < n := by
  have e1 : wrap64 (p + 1) = p + 1 := wid (by omega) (by omega)
  have e2 : wrap64 (p + 1 - 1) = p := by rw [show p + 1 - 1 = p by omega]; exact wid (by omega) (by omega)
  have hl := hb.1
  by_cases hz : (b.length : Int) = 0
  · refine ⟨0, Ev.end_ (fun k => ?_), by omega, by omega⟩
    unfold spec_l10Rd_pick.f
    rw [if_neg (by omega), e1]
    simp only [spec_l10Rd_pick.j0]
    rw [if_pos (by simpa using hz)]
  · by_cases hlt : p < (b.length : Int)
    · have hr := rd_byte hb p
      refine ⟨Int.tmod (rd b p) n, Ev.end_ (fun k => ?_), ?_, ?_⟩
      · unfold spec_l10Rd_pick.f
        rw [if_neg (by omega), e1]
        simp only [spec_l10Rd_pick.j0]
        rw [if_neg (by simpa using hz), e2, if_pos hlt, if_pos h0, if_neg (by omega), wid (by omega) (by omega)]
      · rw [Int.tmod_eq_emod_of_nonneg hr.1]; exact Int.emod_nonneg _ (by omega)
      · rw [Int.tmod_eq_emod_of_nonneg hr.1]; exact Int.emod_lt_of_pos _ (by omega)
    · have e3 : wrap64 (p * 7) = p * 7 := wid (by omega) (by omega)
      have e4 : wrap64 (p * 7 + 3) = p * 7 + 3 := wid (by omega) (by omega)
      have q0 : 0 ≤ p % (b.length : Int) := Int.emod_nonneg _ hz
      have q1 : p % (b.length : Int) < (b.length : Int) := Int.emod_lt_of_pos _ (by omega)
      have q2 : 0 ≤ (p * 7 + 3) % (b.length : Int) := Int.emod_nonneg _ hz
      have q3 : (p * 7 + 3) % (b.length : Int) < (b.length : Int) := Int.emod_lt_of_pos _ (by omega)
      have q4 : 0 ≤ p / (b.length : Int) := Int.ediv_nonneg h0 (by omega)
      have q5 : p / (b.length : Int) ≤ p := Int.ediv_le_self _ h0
      have r1 := rd_byte hb (p % (b.length : Int))
      have r2 := rd_byte hb ((p * 7 + 3) % (b.length : Int))
      obtain ⟨X, hX⟩ : ∃ X, X = rd b (p % (b.length : Int)) * 131 + rd b ((p * 7 + 3) % (b.length : Int)) * 1117 + p * 29 + p / (b.length : Int) * 53 := ⟨_, rfl⟩
      have x0 : 0 ≤ X := by omega
      have x1 : X < 1152921504606846976 := by omega
      have y := xor_nonneg X (X / 64) x0 x1 (by omega) (by omega)
      refine ⟨Int.tmod (Go.bits .xor .i64 X (X / 64)) n, Ev.end_ (fun k => ?_), ?_, ?_⟩
      · unfold spec_l10Rd_pick.f
        rw [if_neg (by omega), e1]
        simp only [spec_l10Rd_pick.j0]
        rw [if_neg (by simpa using hz), e2, if_neg hlt, if_neg hz, Int.tmod_eq_emod_of_nonneg h0, if_pos q0, if_pos q1, e3, e4, Int.tmod_eq_emod_of_nonneg (show 0 ≤ p * 7 + 3 by omega), if_pos q2, if_pos q3, if_neg (by omega), Int.tdiv_eq_ediv_of_nonneg h0,
          wid (x := rd b (p % (b.length : Int))) (by omega) (by omega), wid (x := rd b ((p * 7 + 3) % (b.length : Int))) (by omega) (by omega), wid (x := rd b (p % (b.length : Int)) * 131) (by omega) (by omega), wid (x := rd b ((p * 7 + 3) % (b.length : Int)) * 1117) (by omega) (by omega),
          wid (x := rd b (p % (b.length : Int)) * 131 + rd b ((p * 7 + 3) % (b.length : Int)) * 1117) (by omega) (by omega), wid (x := p * 29) (by omega) (by omega), wid (x := rd b (p % (b.length : Int)) * 131 + rd b ((p * 7 + 3) % (b.length : Int)) * 1117 + p * 29) (by omega) (by omega),
          wid (x := p / (b.length : Int)) (by omega) (by omega), wid (x := p / (b.length : Int) * 53) (by omega) (by omega), ← hX, wid (x := X) (by omega) (by omega), Int.tdiv_eq_ediv_of_nonneg x0, wid (x := X / 64) (by omega) (by omega)]
      · rw [Int.tmod_eq_emod_of_nonneg y]; exact Int.emod_nonneg _ (by omega)
      · rw [Int.tmod_eq_emod_of_nonneg y]; exact Int.emod_lt_of_pos _ (by omega)

/-! One of a list of numbers. -/
theorem rd_mem (l : List Int) (i : Int) (h0 : 0 ≤ i) (h1 : i < (l.length : Int)) : rd l i ∈ l := by
  unfold rd
  rw [List.getD_eq_getElem?_getD, List.getElem?_eq_getElem (by omega)]
  exact List.getElem_mem _
theorem num_is {b : List Int} (hb : RB b) (p : Int) (l : List Int) (h0 : 0 ≤ p) (h1 : p ≤ 1099511627776) (hn1 : 1 ≤ (l.length : Int)) : ∃ v, Ev (fun k => spec_l10Rd_num.f k b p l) (v, p + 1) ∧ v ∈ l := by
  obtain ⟨i, hi, i0, i1⟩ := pick_is hb p (l.length : Int) h0 h1 hn1
  refine ⟨rd l i, Ev.bind hi (Ev.all fun k => ?_), rd_mem l i i0 i1⟩
  rw [if_pos i0, if_pos i1]

theorem rdOf_mem (l : List ByteArray) (i : Int) (h0 : 0 ≤ i) (h1 : i < (l.length : Int)) : rdOf ByteArray.empty l i ∈ l := by
  unfold rdOf
  rw [List.getD_eq_getElem?_getD, List.getElem?_eq_getElem (by omega)]
  exact List.getElem_mem _

/-! One of a list of strings. -/
theorem of_is {b : List Int} (hb : RB b) (p : Int) (l : List ByteArray) (h0 : 0 ≤ p) (h1 : p ≤ 1099511627776) (hn1 : 1 ≤ (l.length : Int)) : ∃ v, Ev (fun k => spec_l10Rd_of.f k b p l) (v, p + 1) ∧ v ∈ l := by
  obtain ⟨i, hi, i0, i1⟩ := pick_is hb p (l.length : Int) h0 h1 hn1
  refine ⟨rdOf ByteArray.empty l i, Ev.bind hi (Ev.all fun k => ?_), rdOf_mem l i i0 i1⟩
  rw [if_pos i0, if_pos i1]

/-! A file, drawn. -/
theorem l2Text_l {b : List Int} (hb : RB b) : ∀ (n : Nat) (s : ByteArray) (p : Int), n ≤ 1000 → s.size + n ≤ 1000 → 0 ≤ p → p + n ≤ 1000000000000 → ∃ t, Ev (fun k => spec_l2Text.l0 k s (n : Int) b p) (t, p + n) ∧ t.size = s.size + n := by
  intro n
  induction n with
  | zero =>
    intro s p hn hs h0 h1
    refine ⟨s, Ev.end_ (fun k => ?_), by omega⟩
    simp only [spec_l2Text.l0]
    rw [if_neg (by omega)]
    simp
  | succ n ih =>
    intro s p hn hs h0 h1
    obtain ⟨v, hv, vm⟩ := of_is hb p [(⟨#[97]⟩ : ByteArray), (⟨#[98]⟩ : ByteArray), (⟨#[99]⟩ : ByteArray), (⟨#[55]⟩ : ByteArray), (⟨#[46]⟩ : ByteArray), (⟨#[122]⟩ : ByteArray)] h0 (by omega) (by simp)
    have hv1 : v.size = 1 := by
      simp only [List.mem_cons, List.not_mem_nil, or_false] at vm
      rcases vm with rfl | rfl | rfl | rfl | rfl | rfl <;> rfl
    have hz : (s ++ v).size = s.size + 1 := by rw [B_size, B_app, List.length_append, ← B_size, ← B_size, hv1]
    obtain ⟨t, ht, tz⟩ := ih (s ++ v) (p + 1) (by omega) (by omega) (by omega) (by omega)
    refine ⟨t, ?_, by omega⟩
    rw [show p + ((n + 1 : Nat) : Int) = p + 1 + (n : Int) by omega]
    refine Ev.cut (f := fun k => (spec_l10Rd_of.f k b p [(⟨#[97]⟩ : ByteArray), (⟨#[98]⟩ : ByteArray), (⟨#[99]⟩ : ByteArray), (⟨#[55]⟩ : ByteArray), (⟨#[46]⟩ : ByteArray), (⟨#[122]⟩ : ByteArray)]).bind fun r => if s.size + r.1.size ≤ 9223372036854775807 then spec_l2Text.l0 k (s ++ r.1) (wrap64 (((n + 1 : Nat) : Int) - 1)) b r.2 else none) (Ev.bind hv ?_) (fun k => ?_)
    · simp only [if_pos (show s.size + v.size ≤ 9223372036854775807 by omega)]
      rw [show wrap64 (((n + 1 : Nat) : Int) - 1) = (n : Int) by rw [wid (by omega) (by omega)]; omega]
      exact ht
    · simp only [spec_l2Text.l0]
      rw [if_pos (by omega)]
theorem l2Text_is {b : List Int} (hb : RB b) (p m : Int) (h0 : 0 ≤ p) (h1 : p ≤ 100000000000) (m0 : 0 ≤ m) (m1 : m ≤ 100) : ∃ t q, Ev (fun k => spec_l2Text.f k b p m) (t, q) ∧ t.size ≤ 100 ∧ p ≤ q ∧ q ≤ p + 102 := by
  obtain ⟨i, hi, i0, i1⟩ := pick_is hb p (m + 1) h0 (by omega) (by omega)
  obtain ⟨t, ht, tz⟩ := l2Text_l hb i.toNat (⟨#[]⟩ : ByteArray) (p + 1) (by omega) (by show 0 + _ ≤ _; omega) (by omega) (by omega)
  rw [Int.toNat_of_nonneg i0] at ht
  refine ⟨t, p + 1 + i, ?_, by rw [tz]; show 0 + _ ≤ _; omega, by omega, by omega⟩
  unfold spec_l2Text.f
  rw [wid (x := m + 1) (by omega) (by omega)]
  exact Ev.bind hi ht
theorem l2Some_is {b : List Int} (hb : RB b) (p : Int) (h0 : 0 ≤ p) (h1 : p ≤ 10000000000) : ∃ s q, Ev (fun k => spec_l2Some.f k b p) (s, q) ∧ s.size ≤ 200 ∧ p ≤ q ∧ q ≤ p + 110 := by
  obtain ⟨v, hv, vm⟩ := num_is hb p [6, 12, 20, 30, 48] h0 (by omega) (by simp)
  have hv2 : 0 ≤ v ∧ v ≤ 48 := by simp at vm; omega
  obtain ⟨t, q, ht, tz, q0, q1⟩ := l2Text_is hb (p + 1) v (by omega) (by omega) hv2.1 (by omega)
  obtain ⟨u, hu, u0, u1⟩ := pick_is hb q 60 (by omega) (by omega) (by omega)
  by_cases c0 : u = 0
  · exact ⟨t ++ (⟨#[65]⟩ : ByteArray), q + 1, Ev.bind hv (Ev.bind ht (Ev.bind hu (Ev.all fun k => by rw [if_pos c0, if_pos (show t.size + 1 ≤ 9223372036854775807 by omega)]))), by rw [B_size, B_app, List.length_append, ← B_size, ← B_size]; show t.size + 1 ≤ _; omega, by omega, by omega⟩
  by_cases c1 : u = 1
  · exact ⟨t ++ (⟨#[32]⟩ : ByteArray), q + 1, Ev.bind hv (Ev.bind ht (Ev.bind hu (Ev.all fun k => by rw [if_neg c0, if_pos c1, if_pos (show t.size + 1 ≤ 9223372036854775807 by omega)]))), by rw [B_size, B_app, List.length_append, ← B_size, ← B_size]; show t.size + 1 ≤ _; omega, by omega, by omega⟩
  by_cases c2 : u = 2
  · refine ⟨mkB (padL (B t) 49), q + 1, Ev.bind hv (Ev.bind ht (Ev.bind hu ?_)), by rw [mkB_size, padL_length, ← B_size]; omega, by omega, by omega⟩
    simp only [if_neg c0, if_neg c1, if_pos c2]
    exact Ev.bind (l2Long_is t 49 (by omega) (by omega)) (Ev.now _)
  · exact ⟨t, q + 1, Ev.bind hv (Ev.bind ht (Ev.bind hu (Ev.all fun k => by rw [if_neg c0, if_neg c1, if_neg c2]))), by omega, by omega, by omega⟩

/-! A file, a place and bytes, drawn. -/
theorem l2At_is {b : List Int} (hb : RB b) (p : Int) (s : ByteArray) (h0 : 0 ≤ p) (h1 : p ≤ 1000000000000) : ∃ x, Ev (fun k => spec_l2At.f k b p s) (x, p + 1 + 1 + 1) := by
  obtain ⟨u, hu, u0, u1⟩ := pick_is hb p 12 h0 (by omega) (by omega)
  obtain ⟨v, hv, v0, v1⟩ := pick_is hb (p + 1) 30 (by omega) (by omega) (by omega)
  obtain ⟨x, hx, xm⟩ := num_is hb (p + 1 + 1) [0, 1, 3, u, v, (s.size : Int), wrap64 ((s.size : Int) + 2), 47, 48, -1, 9223372036854775807] (by omega) (by omega) (by simp)
  exact ⟨x, Ev.bind hu (Ev.bind hv (Ev.bind hx (Ev.now _)))⟩
theorem l2Data_is {b : List Int} (hb : RB b) (p : Int) (h0 : 0 ≤ p) (h1 : p ≤ 10000000000) : ∃ d q, Ev (fun k => spec_l2Data.f k b p) (d, q) ∧ d.size ≤ 200 ∧ p ≤ q ∧ q ≤ p + 110 := by
  obtain ⟨u, hu, u0, u1⟩ := pick_is hb p 24 h0 (by omega) (by omega)
  by_cases c0 : u = 0
  · have hl := l2Long_is (⟨#[97]⟩ : ByteArray) 49 (by show 1 < _; omega) (by omega)
    obtain ⟨v, hv, vm⟩ := of_is hb (p + 1) [(⟨#[]⟩ : ByteArray), (⟨#[65]⟩ : ByteArray), (⟨#[97, 32, 98]⟩ : ByteArray), mkB (padL (B (⟨#[97]⟩ : ByteArray)) (49 : Int).toNat)] (by omega) (by omega) (by simp)
    have hz : v.size ≤ 200 := by
      simp only [List.mem_cons, List.not_mem_nil, or_false] at vm
      rcases vm with rfl | rfl | rfl | rfl
      · show 0 ≤ _; omega
      · show 1 ≤ _; omega
      · show 3 ≤ _; omega
      · rw [mkB_size, padL_length]
        show max 1 49 ≤ _
        omega
    exact ⟨v, p + 1 + 1, Ev.bind hu (by simp only [if_pos c0]; exact Ev.bind hl (Ev.bind hv (Ev.now _))), hz, by omega, by omega⟩
  · obtain ⟨v, hv, vm⟩ := of_is hb (p + 1) [(⟨#[120]⟩ : ByteArray), (⟨#[120, 121]⟩ : ByteArray), (⟨#[113, 57, 46]⟩ : ByteArray), (⟨#[48, 49, 50, 51, 52, 53, 54]⟩ : ByteArray), (⟨#[109]⟩ : ByteArray)] (by omega) (by omega) (by simp)
    have hz : v.size ≤ 7 := by
      simp only [List.mem_cons, List.not_mem_nil, or_false] at vm
      rcases vm with rfl | rfl | rfl | rfl | rfl
      · show 1 ≤ _; omega
      · show 2 ≤ _; omega
      · show 3 ≤ _; omega
      · show 7 ≤ _; omega
      · show 1 ≤ _; omega
    obtain ⟨t, q, ht, tz, q0, q1⟩ := l2Text_is hb (p + 1 + 1) 6 (by omega) (by omega) (by omega) (by omega)
    refine ⟨v ++ t, q, Ev.bind hu (by simp only [if_neg c0]; exact Ev.bind hv (Ev.bind ht (Ev.all fun k => by rw [if_pos (show v.size + t.size ≤ 9223372036854775807 by omega)]))), ?_, by omega, by omega⟩
    rw [B_size, B_app, List.length_append, ← B_size, ← B_size]
    omega

theorem DrawTextWrite_is (l : List Int) (hw : ∀ x ∈ l, (Lit.int .u8 x).wf = true) : ∃ s a d, Ev (fun k => spec_DrawTextWrite.f k l) (s, a, d) ∧ s.size ≤ 200 ∧ d.size ≤ 200 := by
  obtain ⟨r, hr, hb⟩ := open_is l hw
  obtain ⟨s, q, h1, hs, q0, q1⟩ := l2Some_is hb 0 (by omega) (by omega)
  obtain ⟨x, h2⟩ := l2At_is hb q s (by omega) (by omega)
  obtain ⟨d, p, h3, hd, p0, p1⟩ := l2Data_is hb (q + 1 + 1 + 1) (by omega) (by omega)
  unfold spec_DrawTextWrite.f
  simp only [hr, Option.bind_some]
  exact ⟨s, x, d, Ev.bind h1 (Ev.bind h2 (Ev.bind h3 (Ev.now _))), hs, hd⟩

theorem write_loop (s : ByteArray) (a : Int) (d x : ByteArray) (k1 : tOk (B s) = true) (k2 : 0 ≤ a) (k3 : a ≤ 48) (k4 : B d ≠ []) (k5 : tOk (B d) = true) (k6 : a + (B d).length ≤ 48) (hx : B x = wrL (B s) a.toNat (B d)) :
    ∀ (e i : Nat), i + e = (B x).length → Ev (fun k => laws_FnTextWrite.l0 k s a d x ((B x).length : Int) (i : Int)) true := by
  have hxl : (B x).length = max (B s).length (a.toNat + (B d).length) := by rw [hx, wrL_length]
  have hxz : (x.size : Int) = ((B x).length : Int) := by rw [B_size]
  have hsz : (s.size : Int) = ((B s).length : Int) := by rw [B_size]
  have hdz : (d.size : Int) = ((B d).length : Int) := by rw [B_size]
  have hsl := tOk_len k1
  have hw : wrap64 (a + (d.size : Int)) = a + ((B d).length : Int) := by rw [wid (by omega) (by omega), hdz]
  intro e
  induction e with
  | zero =>
    intro i hi
    have hc := impl_TextWrite_is x a d (by omega) (by omega)
    rw [hx, tWrite_mk (wrL_tOk k1 k5 (by omega)) k2 k3 k4 k5 k6, wrL_again, ← hx, mkB_B] at hc
    have ho := impl_TextOk_is x (by omega)
    rw [hx, wrL_tOk k1 k5 (by omega)] at ho
    refine Ev.cut (f := fun k => (impl_TextWrite.f k x a d).bind fun r => if r.2 = true then (if r.1.toList = x.toList then ((impl_TextOk.f k x).bind fun t => some t) else some false) else some false) (Ev.bind hc ?_) (fun k => ?_)
    · simp only [if_true]
      exact Ev.bind ho (Ev.now _)
    · simp only [laws_FnTextWrite.l0]
      rw [if_neg (by omega)]
  | succ e ih =>
    intro i hi
    have hb : bt x (i : Int) = (((B x).getD i 46).toNat : Int) := bt_get (getD_lt (B x) i (by omega))
    rw [hx, wrL_getD] at hb
    refine Ev.cut (ih (i + 1) (by omega)) (fun k => ?_)
    simp only [laws_FnTextWrite.l0]
    rw [if_pos (by omega), wsucc i (by omega), hw]
    by_cases h1 : a.toNat ≤ i ∧ i < a.toNat + (B d).length
    · rw [if_pos (by omega), if_pos (by omega)]
    · rw [if_neg h1] at hb
      have inner : (if (i : Int) < (s.size : Int) then (if 0 ≤ (i : Int) then (if (i : Int) < (x.size : Int) then (if bt x (i : Int) = bt s (i : Int) then (if (i : Int) ≥ (s.size : Int) then (if bt x (i : Int) = 46 then laws_FnTextWrite.l0 k s a d x ((B x).length : Int) ((i + 1 : Nat) : Int) else some false) else laws_FnTextWrite.l0 k s a d x ((B x).length : Int) ((i + 1 : Nat) : Int)) else some false) else none) else none) else (if (i : Int) ≥ (s.size : Int) then (if 0 ≤ (i : Int) then (if (i : Int) < (x.size : Int) then (if bt x (i : Int) = 46 then laws_FnTextWrite.l0 k s a d x ((B x).length : Int) ((i + 1 : Nat) : Int) else some false) else none) else none) else laws_FnTextWrite.l0 k s a d x ((B x).length : Int) ((i + 1 : Nat) : Int))) = laws_FnTextWrite.l0 k s a d x ((B x).length : Int) ((i + 1 : Nat) : Int) := by
        by_cases hlt : i < (B s).length
        · rw [if_pos (by omega), if_pos (by omega), if_pos (by omega), hb, bt_get (getD_lt (B s) i hlt), if_pos rfl, if_neg (by omega)]
        · rw [if_neg (by omega), if_pos (by omega), if_pos (by omega), if_pos (by omega), hb, getD_ge _ _ hlt, if_pos (by decide)]
      by_cases h2 : (i : Int) ≥ a
      · rw [if_pos h2, if_neg (by omega)]
        exact inner
      · rw [if_neg h2]
        exact inner

theorem FnTextWrite (l0 : List Int) (hm0 : l0.length ≤ maxLen) (hw0 : ∀ x ∈ l0, (Lit.int .u8 x).wf = true) : ∃ k, laws_FnTextWrite.f k l0 = some true := by
  have hm := hm0
  have hw := hw0
  by_cases h : (l0.length : Int) > 1048576
  · exact ⟨0, by unfold laws_FnTextWrite.f; rw [if_pos h]⟩
  refine Ev.rounds (r := true) (g := fun k => laws_FnTextWrite.f k l0) ?_
  unfold laws_FnTextWrite.f
  simp only [if_neg h]
  obtain ⟨s, a, d, hd, hs, hds⟩ := DrawTextWrite_is l0 hw
  refine Ev.bind hd (Ev.bind (impl_TextWrite_is s a d (by omega) (by omega)) (Ev.bind (spec_TextWrite_is s a d (by omega) (by omega)) ?_))
  simp only [if_true, bne_self_eq_false, Bool.false_eq_true, if_false]
  refine Ev.bind (impl_TextOk_is s (by omega)) (Ev.bind (spec_TextOk_is s (by omega)) ?_)
  simp only [bne_self_eq_false]
  have ht := spec_TextOk_is s (by omega)
  by_cases ho : (tWrite (B s) a (B d)).2 = true
  · obtain ⟨k1, k2, k3, k4, k5, k6, e⟩ := tWrite_true ho
    rw [ho, e]
    have hdz : (d.size : Int) = ((B d).length : Int) := by rw [B_size]
    have hsz : (s.size : Int) = ((B s).length : Int) := by rw [B_size]
    have hne : (B d).length ≠ 0 := fun hh => k4 (List.eq_nil_of_length_eq_zero hh)
    have hw : wrap64 (a + (d.size : Int)) = a + ((B d).length : Int) := by rw [wid (by omega) (by omega), hdz]
    obtain ⟨x, hx⟩ : ∃ x, x = mkB (wrL (B s) a.toNat (B d)) := ⟨_, rfl⟩
    have hBx : B x = wrL (B s) a.toNat (B d) := by rw [hx, B_mkB]
    have hxl : (B x).length = max (B s).length (a.toNat + (B d).length) := by rw [hBx, wrL_length]
    have hsl := tOk_len k1
    have hxs : x.size = (B x).length := B_size x
    rw [← hx]
    obtain ⟨y, hy, ey⟩ := impl_TextRead_is x (by omega) a (a + ((B d).length : Int))
    have ey2 : B y = B d := by
      rw [ey]
      unfold tRead
      rw [if_pos ⟨hBx ▸ wrL_tOk k1 k5 (by omega), decide_eq_true (by omega)⟩, hBx, show (a + ((B d).length : Int)).toNat = a.toNat + (B d).length by omega]
      exact wrL_read _ _ _
    have hfin : Ev (fun k => laws_FnTextWrite.j1 k s a d x ((B x).length : Int)) true := by
      refine Ev.cut (f := fun k => (impl_TextRead.f k x a (a + ((B d).length : Int))).bind fun t => laws_FnTextWrite.j2 k s a d x ((B x).length : Int) (t.toList != d.toList)) (Ev.bind hy ?_) (fun k => ?_)
      · rw [B_toList, B_toList, ey2, bne_self_eq_false]
        refine Ev.cut (write_loop s a d x k1 k2 k3 k4 k5 k6 hBx (B x).length 0 (by omega)) (fun k => ?_)
        simp only [laws_FnTextWrite.j2, Bool.false_eq_true, if_false]
        rfl
      · simp only [laws_FnTextWrite.j1, hw]
        rw [if_pos (by omega)]
    refine Ev.cut hfin (fun k => ?_)
    simp only [laws_FnTextWrite.j0, Bool.false_eq_true, if_false, if_true, hw]
    by_cases hgt : a + ((B d).length : Int) > (s.size : Int)
    · rw [if_pos hgt, show ((B x).length : Int) = a + ((B d).length : Int) by omega]
    · rw [if_neg hgt, show ((B x).length : Int) = (s.size : Int) by omega]
  · have ho' : (tWrite (B s) a (B d)).2 = false := by simpa using ho
    rw [ho']
    rcases tWrite_false ho' with ⟨hL, e⟩ | ⟨hL, e⟩
    · rw [e, mkB_B]
      rw [hL] at ht
      refine Ev.cut (f := fun k => (spec_TextOk.f k s).bind fun t => if t = true then some true else if s.toList = ([] : List UInt8) then (spec_TextOk.f k s).bind fun t => some (!t) else some false) (Ev.bind ht (Ev.all fun k => rfl)) (fun k => ?_)
      simp only [laws_FnTextWrite.j0, Bool.false_eq_true, if_false, if_true]
    · rw [e]
      rw [hL] at ht
      have hne : ¬ (mkB []).toList = s.toList := by
        rw [B_toList, B_toList, B_mkB]
        intro hh
        rw [← hh] at hL
        exact absurd hL (by decide)
      refine Ev.cut (f := fun k => (spec_TextOk.f k s).bind fun t => some (!t)) (Ev.bind ht (Ev.now _)) (fun k => ?_)
      simp only [laws_FnTextWrite.j0, Bool.false_eq_true, if_false, if_neg hne]
      rw [if_pos (by rw [B_toList, B_mkB])]

end Go.Proofs.Ytfomnpbhpncpaaa.Pure
