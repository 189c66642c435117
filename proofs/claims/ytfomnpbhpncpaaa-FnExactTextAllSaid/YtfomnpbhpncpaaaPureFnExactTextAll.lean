/- The law FnExactTextAll over numbers and lists, as the program's text computes it: it answers true. Conditions: the arguments are of their kinds, lengths fit. -/
import Derived.Test.YtfomnpbhpncpaaaQx14
import Derived.OpenShut
import Derived.Laws.Strings
namespace Go.Proofs.Ytfomnpbhpncpaaa.Pure
open Go.RowKit Go.Proofs.Ytfomnpbhpncpaaa.Q Go.Proofs.YtfomnpbhpncpaaaW.PrintWords Go.Proofs.YtfomnpbhpncpaaaW.PrintLast
set_option linter.unusedVariables false
set_option linter.unusedSimpArgs false

/-! Words for the pure side: strings as lists of bytes, counters as natural numbers, what is answered from some round on. -/
def B (s : ByteArray) : List UInt8 := s.data.toList
theorem B_size (s : ByteArray) : s.size = (B s).length := (Array.length_toList).symm
theorem B_toList (s : ByteArray) : s.toList = B s := Go.ByteArray.toList_eq s
theorem B_inj {s t : ByteArray} (h : B s = B t) : s = t := by
  cases s; cases t
  simp only [B] at h
  congr 1
  exact Array.ext' h
theorem B_app (s t : ByteArray) : B (s ++ t) = B s ++ B t := by simp [B, ByteArray.data_append]
theorem app_size (s t : ByteArray) : (s ++ t).size = s.size + t.size := by rw [B_size, B_app, List.length_append, ← B_size, ← B_size]
theorem B_ext (s : ByteArray) (i j : Nat) : B (s.extract i j) = ((B s).take j).drop i := by
  simp [B, ByteArray.data_extract, List.extract_eq_take_drop, List.drop_take]
theorem B_nil : B (⟨#[]⟩ : ByteArray) = [] := rfl
theorem bt_B (s : ByteArray) (i : Nat) (h : i < (B s).length) : bt s (i : Int) = (((B s)[i]'h).toNat : Int) := by
  have h' : (i : Int).toNat < s.size := by rw [B_size]; simpa using h
  unfold bt
  rw [dif_pos h']
  rfl
theorem wsucc (i : Nat) (h : i < 4611686018427387904) : wrap64 ((i : Int) + 1) = ((i + 1 : Nat) : Int) := by unfold wrap64; omega
theorem wpred (i : Nat) (h : i < 4611686018427387904) (h0 : 0 < i) : wrap64 ((i : Int) - 1) = ((i - 1 : Nat) : Int) := by unfold wrap64; omega
theorem wid {x : Int} (h0 : -9223372036854775808 ≤ x) (h1 : x ≤ 9223372036854775807) : wrap64 x = x := by unfold wrap64; omega
theorem Ev.cut {α : Type} {g f : Nat → Option α} {r : α} (k : Ev f r) (h : ∀ k, g (k + 1) = f k) : Ev g r := Ev.step h k
theorem Ev.end_ {α : Type} {g : Nat → Option α} {r : α} (h : ∀ k, g (k + 1) = some r) : Ev g r := Ev.step h (Ev.now r)
theorem Ev.all {α : Type} {g : Nat → Option α} {r : α} (h : ∀ k, g k = some r) : Ev g r := ⟨0, fun k _ => h k⟩
theorem Ev.uniq {α : Type} {g : Nat → Option α} {r q : α} (h : Ev g r) (h' : Ev g q) : r = q := by
  obtain ⟨K, h⟩ := h
  obtain ⟨K', h'⟩ := h'
  have h1 := h (max K K') (by omega)
  rw [h' (max K K') (by omega)] at h1
  exact (Option.some.inj h1).symm
theorem dec_eq {p q : Prop} [Decidable p] [Decidable q] (h : p ↔ q) : (some (decide p) : Option Bool) = some (decide q) := by rw [decide_eq_decide.2 h]
theorem dec_false {q : Prop} [Decidable q] (h : ¬ q) : (some false : Option Bool) = some (decide q) := by rw [decide_eq_false h]
theorem dec_true {q : Prop} [Decidable q] (h : q) : (some true : Option Bool) = some (decide q) := by rw [decide_eq_true h]

def mkB (L : List UInt8) : ByteArray := ⟨L.toArray⟩
theorem B_mkB (L : List UInt8) : B (mkB L) = L := by simp [B, mkB]
theorem eq_mkB {r : ByteArray} {X : List UInt8} (h : B r = X) : r = mkB X := B_inj (by rw [h, B_mkB])
theorem mkB_B (s : ByteArray) : mkB (B s) = s := (eq_mkB rfl).symm
theorem mkB_size (L : List UInt8) : (mkB L).size = L.length := by rw [B_size, B_mkB]

theorem l1Min_is (a b : Int) : spec_l1Min.f a b = some (mn a b) := by
  unfold spec_l1Min.f mn
  split <;> split <;> first | rfl | (congr 1; omega)

/-! Files, valid. -/
def cOk (c : UInt8) : Bool := decide (c.toNat = 46 ∨ (97 ≤ c.toNat ∧ c.toNat ≤ 122) ∨ (48 ≤ c.toNat ∧ c.toNat ≤ 57))
def tOk (l : List UInt8) : Bool := l.all cOk && decide (l.length ≤ 48)
theorem spec_l2Byte_is (c : UInt8) : spec_l2Byte.f (c.toNat : Int) = some (cOk c) := by
  unfold spec_l2Byte.f cOk
  repeat' split
  all_goals first | exact dec_true (by omega) | exact dec_eq (by omega) | exact dec_false (by omega)
theorem all_drop (l : List UInt8) (i : Nat) (h : i < l.length) : (l.drop i).all cOk = (cOk l[i] && (l.drop (i + 1)).all cOk) := by
  rw [List.drop_eq_getElem_cons h, List.all_cons]
theorem spec_TextOk_l (s : ByteArray) (hs : s.size < 4611686018427387904) : ∀ (d i : Nat), i + d = (B s).length → Ev (fun k => spec_TextOk.l0 k s (i : Int)) ((((B s).drop i).all cOk) && decide ((B s).length ≤ 48)) := by
  have hz : (s.size : Int) = ((B s).length : Int) := by rw [B_size]
  have hs' : (B s).length < 4611686018427387904 := by rw [← B_size]; exact hs
  intro d
  induction d with
  | zero =>
    intro i hi
    refine Ev.end_ (fun k => ?_)
    simp only [spec_TextOk.l0]
    rw [hz, if_neg (by omega), List.drop_of_length_le (by omega)]
    simp
    omega
  | succ d ih =>
    intro i hi
    have hlt : i < (B s).length := by omega
    have hr : (((B s).drop i).all cOk) = (cOk ((B s)[i]) && ((B s).drop (i + 1)).all cOk) := all_drop _ _ hlt
    rw [hr]
    cases hc : cOk ((B s)[i]) with
    | true =>
      refine Ev.cut (f := fun k => spec_TextOk.l0 k s ((i + 1 : Nat) : Int)) ?_ (fun k => ?_)
      · simpa using ih (i + 1) (by omega)
      · simp only [spec_TextOk.l0]
        rw [hz, if_pos (by omega), if_pos (by omega), bt_B s i hlt, spec_l2Byte_is, wsucc i (by omega), hc]
        rfl
    | false =>
      refine Ev.end_ (fun k => ?_)
      simp only [spec_TextOk.l0]
      rw [hz, if_pos (by omega), if_pos (by omega), bt_B s i hlt, spec_l2Byte_is, hc]
      simp
theorem spec_TextOk_is (s : ByteArray) (hs : s.size < 4611686018427387904) : Ev (fun k => spec_TextOk.f k s) (tOk (B s)) := by
  have h := spec_TextOk_l s hs (B s).length 0 (by omega)
  simpa [spec_TextOk.f, tOk] using h
theorem impl_TextOk_l (s : ByteArray) (hs : s.size < 4611686018427387904) : ∀ (d i : Nat), i + d = (B s).length → Ev (fun k => impl_TextOk.l0 k s (s.size : Int) (i : Int)) ((((B s).drop i).all cOk) && decide ((B s).length ≤ 48)) := by
  have hz : (s.size : Int) = ((B s).length : Int) := by rw [B_size]
  have hs' : (B s).length < 4611686018427387904 := by rw [← B_size]; exact hs
  intro d
  induction d with
  | zero =>
    intro i hi
    refine Ev.end_ (fun k => ?_)
    simp only [impl_TextOk.l0]
    rw [hz, if_neg (by omega), List.drop_of_length_le (by omega)]
    simp
    omega
  | succ d ih =>
    intro i hi
    have hlt : i < (B s).length := by omega
    have hr : (((B s).drop i).all cOk) = (cOk ((B s)[i]) && ((B s).drop (i + 1)).all cOk) := all_drop _ _ hlt
    rw [hr]
    cases hc : cOk ((B s)[i]) with
    | true =>
      have hc' := of_decide_eq_true hc
      refine Ev.cut (f := fun k => impl_TextOk.l0 k s (s.size : Int) ((i + 1 : Nat) : Int)) ?_ (fun k => ?_)
      · simpa using ih (i + 1) (by omega)
      · simp only [impl_TextOk.l0]
        rw [if_pos (by omega), if_pos (by omega), if_pos (by omega), bt_B s i hlt, wsucc i (by omega)]
        repeat' split
        all_goals first | rfl | (exfalso; omega)
    | false =>
      have hc' := of_decide_eq_false hc
      refine Ev.end_ (fun k => ?_)
      simp only [impl_TextOk.l0]
      rw [if_pos (by omega), if_pos (by omega), if_pos (by omega), bt_B s i hlt]
      simp only [Bool.false_and]
      repeat' split
      all_goals first | rfl | (exfalso; omega)
theorem impl_TextOk_is (s : ByteArray) (hs : s.size < 4611686018427387904) : Ev (fun k => impl_TextOk.f k s) (tOk (B s)) := by
  have h := impl_TextOk_l s hs (B s).length 0 (by omega)
  simpa [impl_TextOk.f, tOk] using h

theorem tOk_len {L : List UInt8} (h : tOk L = true) : L.length ≤ 48 := by
  simp [tOk] at h
  exact h.2

/-! A file made longer. -/
def padL (L : List UInt8) (n : Nat) : List UInt8 := L ++ List.replicate (n - L.length) 46
theorem padL_length (L : List UInt8) (n : Nat) : (padL L n).length = max L.length n := by simp [padL]; omega
theorem padL_short (L : List UInt8) (n : Nat) (h : n ≤ L.length) : padL L n = L := by simp [padL, Nat.sub_eq_zero_of_le h]
theorem l2Long_l : ∀ (d : Nat) (s : ByteArray) (n : Int), n.toNat - (B s).length = d → s.size < 4611686018427387904 → n < 4611686018427387904 → Ev (fun k => spec_l2Long.l0 k s n) (mkB (padL (B s) n.toNat)) := by
  intro d
  induction d with
  | zero =>
    intro s n hd hs hn
    refine Ev.end_ (fun k => ?_)
    simp only [spec_l2Long.l0]
    rw [if_neg (by rw [B_size]; omega), padL_short _ _ (by omega), mkB_B]
  | succ d ih =>
    intro s n hd hs hn
    have hb : B (s ++ (⟨#[46]⟩ : ByteArray)) = B s ++ [46] := by rw [B_app]; rfl
    have hz : (B s).length = s.size := (B_size s).symm
    have h := ih (s ++ (⟨#[46]⟩ : ByteArray)) n (by rw [hb]; simp; omega) (by rw [B_size, hb]; simp; omega) hn
    have e : padL (B (s ++ (⟨#[46]⟩ : ByteArray))) n.toNat = padL (B s) n.toNat := by
      rw [hb]
      unfold padL
      rw [List.append_assoc, List.length_append]
      congr 1
      rw [show n.toNat - (B s).length = (n.toNat - ((B s).length + [46].length)) + 1 by simp; omega, List.replicate_succ]
      rfl
    rw [e] at h
    refine Ev.cut h (fun k => ?_)
    simp only [spec_l2Long.l0]
    rw [if_pos (by rw [B_size]; omega), if_pos (by omega)]
theorem l2Long_is (s : ByteArray) (n : Int) (hs : s.size < 4611686018427387904) (hn : n < 4611686018427387904) : Ev (fun k => spec_l2Long.f k s n) (mkB (padL (B s) n.toNat)) := l2Long_l _ s n rfl hs hn

/-! A file cut, or made longer: the two programs'. -/
theorem sized_is (s : ByteArray) (n : Int) (h0 : 0 ≤ n) (hn : n ≤ 1000) (hs : s.size ≤ 1000) : impl_sized.f s n = some (mkB ((padL (B s) n.toNat).take n.toNat)) := by
  have hz : (B s).length = s.size := (B_size s).symm
  unfold impl_sized.f
  by_cases h : n ≤ (s.size : Int)
  · rw [if_pos h, if_pos h0]
    congr 1
    refine eq_mkB ?_
    rw [B_ext, padL_short _ _ (by omega)]
    rfl
  · have hw : wrap64 (n - (s.size : Int)) = n - (s.size : Int) := wid (by omega) (by omega)
    have hrep : Lib.repeatL (⟨#[46]⟩ : ByteArray).data.toList (n - (s.size : Int)).toNat = List.replicate (n - (s.size : Int)).toNat 46 := by
      have := Lib.repeatL_replicate 46 1 (n - (s.size : Int)).toNat
      rw [Nat.mul_one] at this
      exact this
    rw [if_neg h, hw]
    unfold strings_Repeat.f
    rw [if_pos (by omega), if_pos (by omega), if_pos (by show 1 * _ ≤ _; omega), Option.bind_some, hrep]
    have e : B (⟨(List.replicate (n - (s.size : Int)).toNat (46 : UInt8)).toArray⟩ : ByteArray) = List.replicate (n - (s.size : Int)).toNat 46 := B_mkB _
    have e2 : (⟨(List.replicate (n - (s.size : Int)).toNat (46 : UInt8)).toArray⟩ : ByteArray).size = (n - (s.size : Int)).toNat := by rw [B_size, e, List.length_replicate]
    rw [if_pos (by rw [e2]; omega)]
    congr 1
    refine eq_mkB ?_
    rw [B_app, e, List.take_of_length_le (by rw [padL_length]; omega)]
    unfold padL
    rw [show n.toNat - (B s).length = (n - (s.size : Int)).toNat by omega]
def tCut (L : List UInt8) (n : Int) : List UInt8 × Bool := if tOk L = true then (if 0 ≤ n ∧ n ≤ 48 then ((padL L n.toNat).take n.toNat, true) else (L, false)) else ([], false)
theorem impl_TextCut_is (s : ByteArray) (n : Int) (hz : s.size < 4611686018427387904) : Ev (fun k => impl_TextCut.f k s n) (mkB (tCut (B s) n).1, (tCut (B s) n).2) := by
  unfold impl_TextCut.f tCut
  refine Ev.bind (impl_TextOk_is s hz) ?_
  cases ht : tOk (B s) with
  | false => exact Ev.all fun k => rfl
  | true =>
    have hl := tOk_len ht
    have hzz : (B s).length = s.size := (B_size s).symm
    simp only [if_true]
    refine Ev.all fun k => ?_
    by_cases h0 : n < 0
    · rw [if_pos h0, if_neg (by omega), mkB_B]
    rw [if_neg h0]
    by_cases h1 : n > 48
    · rw [if_pos h1, if_neg (by omega), mkB_B]
    rw [if_neg h1, if_pos ⟨by omega, by omega⟩, sized_is s n (by omega) (by omega) (by omega)]
    rfl
theorem spec_TextCut_is (s : ByteArray) (n : Int) (hz : s.size < 4611686018427387904) : Ev (fun k => spec_TextCut.f k s n) (mkB (tCut (B s) n).1, (tCut (B s) n).2) := by
  unfold spec_TextCut.f tCut
  refine Ev.bind (spec_TextOk_is s hz) ?_
  cases ht : tOk (B s) with
  | false => exact Ev.all fun k => rfl
  | true =>
    simp only [if_true]
    by_cases h0 : n < 0
    · exact Ev.all fun k => by rw [if_pos h0, if_neg (by omega), mkB_B]
    simp only [if_neg h0]
    by_cases h1 : n > 48
    · exact Ev.all fun k => by rw [if_pos h1, if_neg (by omega), mkB_B]
    simp only [if_neg h1, if_pos (show 0 ≤ n ∧ n ≤ 48 by omega)]
    refine Ev.bind (l2Long_is s n hz (by omega)) (Ev.all fun k => ?_)
    rw [if_pos (by omega), if_pos (by rw [mkB_size, padL_length]; omega)]
    congr 2
    refine eq_mkB ?_
    rw [B_ext, B_mkB]
    rfl

/-! Bytes put into a file: the two programs'. -/
def wrL (L : List UInt8) (a : Nat) (D : List UInt8) : List UInt8 := (padL L a).take a ++ D ++ L.drop (a + D.length)
def tWrite (L : List UInt8) (a : Int) (D : List UInt8) : List UInt8 × Bool := if tOk L = true then (if 0 ≤ a ∧ a ≤ 48 ∧ D ≠ [] ∧ tOk D = true ∧ a + D.length ≤ 48 then (wrL L a.toNat D, true) else (L, false)) else ([], false)

theorem padL_take (L : List UInt8) {a b : Nat} (h : a ≤ b) : (padL L b).take a = (padL L a).take a := by
  unfold padL
  by_cases hl : a ≤ L.length
  · rw [List.take_append_of_le_length hl, List.take_append_of_le_length hl]
  · rw [List.take_append, List.take_append, List.take_replicate, List.take_replicate]
    congr 2
    omega
theorem padL_drop (L : List UInt8) {a b : Nat} (h : a ≤ b) : (padL L a).drop b = L.drop b := by
  by_cases hl : a ≤ L.length
  · rw [padL_short _ _ hl]
  · rw [List.drop_of_length_le (by rw [padL_length]; omega), List.drop_of_length_le (by omega)]
theorem toList_nil (d : ByteArray) : d.toList = ([] : List UInt8) ↔ B d = [] := by rw [B_toList]
theorem impl_TextWrite_is (s : ByteArray) (a : Int) (d : ByteArray) (hz : s.size < 4611686018427387904) (hd : d.size < 4611686018427387904) :
    Ev (fun k => impl_TextWrite.f k s a d) (mkB (tWrite (B s) a (B d)).1, (tWrite (B s) a (B d)).2) := by
  unfold impl_TextWrite.f tWrite
  refine Ev.bind (impl_TextOk_is s hz) ?_
  cases ht : tOk (B s) with
  | false => exact Ev.all fun k => rfl
  | true =>
    have hl := tOk_len ht
    have hzz : s.size = (B s).length := B_size s
    have hdz : d.size = (B d).length := B_size d
    simp only [if_true]
    by_cases h0 : a < 0
    · exact Ev.all fun k => by rw [if_pos h0, if_neg (by omega), mkB_B]
    simp only [if_neg h0]
    by_cases h1 : a > 48
    · exact Ev.all fun k => by rw [if_pos h1, if_neg (by omega), mkB_B]
    simp only [if_neg h1]
    by_cases h2 : B d = []
    · exact Ev.all fun k => by rw [if_pos ((toList_nil d).2 h2), if_neg (fun h => h.2.2.1 h2), mkB_B]
    simp only [if_neg (fun h => h2 ((toList_nil d).1 h))]
    refine Ev.bind (impl_TextOk_is d hd) ?_
    cases h3 : tOk (B d) with
    | false => exact Ev.all fun k => by rw [if_neg (by simp), if_neg (by simp), mkB_B]
    | true =>
      simp only [if_true]
      have hdl := tOk_len h3
      have hw : wrap64 (a + (d.size : Int)) = a + ((B d).length : Int) := by rw [wid (by omega) (by omega), hdz]
      simp only [hw]
      by_cases h4 : a + ((B d).length : Int) > 48
      · exact Ev.all fun k => by rw [if_pos h4, if_neg (by omega), mkB_B]
      simp only [if_neg h4]
      refine Ev.all fun k => ?_
      have hmx : mx (s.size : Int) (a + ((B d).length : Int)) = max ((B s).length : Int) (a + ((B d).length : Int)) := by unfold mx; rw [hzz]; split <;> omega
      have hmn : mn (a + ((B d).length : Int)) (s.size : Int) = min (a + ((B d).length : Int)) ((B s).length : Int) := by unfold mn; rw [hzz]; split <;> omega
      rw [hmx, hmn, sized_is s _ (by omega) (by omega) (by omega), Option.bind_some, if_pos (show 0 ≤ a ∧ a ≤ 48 ∧ B d ≠ [] ∧ True ∧ a + ((B d).length : Int) ≤ 48 from ⟨by omega, by omega, h2, trivial, by omega⟩)]
      generalize hT : (padL (B s) (max ((B s).length : Int) (a + ((B d).length : Int))).toNat).take (max ((B s).length : Int) (a + ((B d).length : Int))).toNat = T
      have hTl : T.length = (max ((B s).length : Int) (a + ((B d).length : Int))).toNat := by rw [← hT, List.length_take, padL_length]; omega
      have hTt : T.take a.toNat = (padL (B s) a.toNat).take a.toNat := by
        rw [← hT, List.take_take, Nat.min_eq_left (by omega), padL_take _ (by omega)]
      have e1 : B ((mkB T).extract 0 a.toNat) = (padL (B s) a.toNat).take a.toNat := by rw [B_ext, B_mkB]; exact hTt
      have e1l : ((mkB T).extract 0 a.toNat).size ≤ 48 := by rw [B_size, e1, List.length_take, padL_length]; omega
      have e2 : B (s.extract (min (a + ((B d).length : Int)) ((B s).length : Int)).toNat s.size) = (B s).drop (a.toNat + (B d).length) := by
        rw [B_ext, hzz, List.take_length]
        by_cases hle : a + ((B d).length : Int) ≤ ((B s).length : Int)
        · rw [Int.min_eq_left hle, show (a + ((B d).length : Int)).toNat = a.toNat + (B d).length by omega]
        · rw [Int.min_eq_right (by omega), List.drop_of_length_le (by omega), List.drop_of_length_le (by omega)]
      have e2l : (s.extract (min (a + ((B d).length : Int)) ((B s).length : Int)).toNat s.size).size ≤ 48 := by rw [B_size, e2, List.length_drop]; omega
      rw [if_pos (by omega), if_pos (by rw [mkB_size, hTl]; omega), if_pos (by omega), if_pos (by omega), if_pos (by omega), if_pos (by rw [app_size]; omega)]
      congr 2
      refine eq_mkB ?_
      rw [B_app, B_app, e1, e2]
      rfl
theorem spec_TextWrite_is (s : ByteArray) (a : Int) (d : ByteArray) (hz : s.size < 4611686018427387904) (hd : d.size < 4611686018427387904) :
    Ev (fun k => spec_TextWrite.f k s a d) (mkB (tWrite (B s) a (B d)).1, (tWrite (B s) a (B d)).2) := by
  unfold spec_TextWrite.f tWrite
  refine Ev.bind (spec_TextOk_is s hz) ?_
  cases ht : tOk (B s) with
  | false => exact Ev.all fun k => rfl
  | true =>
    have hl := tOk_len ht
    have hzz : s.size = (B s).length := B_size s
    have hdz : d.size = (B d).length := B_size d
    simp only [if_true]
    by_cases h0 : a < 0
    · exact Ev.all fun k => by rw [if_pos h0, if_neg (by omega), mkB_B]
    simp only [if_neg h0]
    by_cases h1 : a > 48
    · exact Ev.all fun k => by rw [if_pos h1, if_neg (by omega), mkB_B]
    simp only [if_neg h1]
    refine Ev.bind (spec_TextOk_is d hd) ?_
    cases h3 : tOk (B d) with
    | false => exact Ev.all fun k => by rw [if_neg (by simp), if_neg (by simp), mkB_B]
    | true =>
      simp only [if_true]
      by_cases h2 : B d = []
      · exact Ev.all fun k => by rw [if_pos ((toList_nil d).2 h2), if_neg (fun h => h.2.2.1 h2), mkB_B]
      simp only [if_neg (fun h => h2 ((toList_nil d).1 h))]
      have hdl := tOk_len h3
      have hw : wrap64 (a + (d.size : Int)) = a + ((B d).length : Int) := by rw [wid (by omega) (by omega), hdz]
      simp only [hw]
      by_cases h4 : a + ((B d).length : Int) > 48
      · exact Ev.all fun k => by rw [if_pos h4, if_neg (by omega), mkB_B]
      simp only [if_neg h4]
      rw [if_pos (show 0 ≤ a ∧ a ≤ 48 ∧ B d ≠ [] ∧ True ∧ a + ((B d).length : Int) ≤ 48 from ⟨by omega, by omega, h2, trivial, by omega⟩)]
      unfold spec_l2Write.f
      simp only [hw]
      refine Ev.bind (a := mkB (wrL (B s) a.toNat (B d))) (Ev.bind (l2Long_is s a hz (by omega)) (Ev.all fun k => ?_)) (Ev.now _)
      have hTl : (padL (B s) a.toNat).length = max (B s).length a.toNat := padL_length _ _
      have e1 : B ((mkB (padL (B s) a.toNat)).extract 0 a.toNat) = (padL (B s) a.toNat).take a.toNat := by rw [B_ext, B_mkB]; rfl
      have e1l : ((mkB (padL (B s) a.toNat)).extract 0 a.toNat).size ≤ 48 := by rw [B_size, e1, List.length_take, padL_length]; omega
      have hmn : mn ((mkB (padL (B s) a.toNat)).size : Int) (a + ((B d).length : Int)) = min ((padL (B s) a.toNat).length : Int) (a + ((B d).length : Int)) := by unfold mn; rw [mkB_size]; split <;> omega
      have e2 : B ((mkB (padL (B s) a.toNat)).extract (min ((padL (B s) a.toNat).length : Int) (a + ((B d).length : Int))).toNat (mkB (padL (B s) a.toNat)).size) = (B s).drop (a.toNat + (B d).length) := by
        rw [B_ext, B_mkB, mkB_size, List.take_length]
        by_cases hle : a + ((B d).length : Int) ≤ ((padL (B s) a.toNat).length : Int)
        · rw [Int.min_eq_right hle, show (a + ((B d).length : Int)).toNat = a.toNat + (B d).length by omega, padL_drop _ (by omega)]
        · rw [Int.min_eq_left (by omega), List.drop_of_length_le (by omega), List.drop_of_length_le (by omega)]
      have e2l : ((mkB (padL (B s) a.toNat)).extract (min ((padL (B s) a.toNat).length : Int) (a + ((B d).length : Int))).toNat (mkB (padL (B s) a.toNat)).size).size ≤ 48 := by rw [B_size, e2, List.length_drop]; omega
      rw [if_pos (by omega), if_pos (by rw [mkB_size, hTl]; omega), if_pos (by omega), l1Min_is, Option.bind_some, hmn, if_pos (by omega), if_pos (by rw [mkB_size]; omega), if_pos (by rw [app_size]; omega)]
      congr 1
      refine eq_mkB ?_
      rw [B_app, B_app, e1, e2]
      rfl

/-! What a write leaves, place by place. -/
theorem getD_lt (L : List UInt8) (i : Nat) (h : i < L.length) : L[i]? = some (L.getD i 46) := by
  rw [List.getD_eq_getElem?_getD, List.getElem?_eq_getElem h]
  rfl
theorem getD_ge (L : List UInt8) (i : Nat) (h : ¬ i < L.length) : L.getD i 46 = 46 := by
  rw [List.getD_eq_getElem?_getD, List.getElem?_eq_none (by omega)]
  rfl
theorem padL_get (L : List UInt8) (n i : Nat) (h : i < max L.length n) : (padL L n)[i]? = some (L.getD i 46) := by
  unfold padL
  by_cases hl : i < L.length
  · rw [List.getElem?_append_left hl, getD_lt L i hl]
  · rw [List.getElem?_append_right (by omega), List.getElem?_replicate, if_pos (by omega), getD_ge L i hl]
theorem wrL_get (L : List UInt8) (a : Nat) (D : List UInt8) (i : Nat) : (wrL L a D)[i]? = if i < a then some (L.getD i 46) else if i < a + D.length then D[i - a]? else L[i]? := by
  have hl : ((padL L a).take a).length = a := by rw [List.length_take, padL_length]; omega
  unfold wrL
  by_cases h : i < a
  · rw [if_pos h, List.append_assoc, List.getElem?_append_left (by omega), List.getElem?_take, if_pos h, padL_get _ _ _ (by omega)]
  · rw [if_neg h]
    by_cases h2 : i < a + D.length
    · rw [if_pos h2, List.append_assoc, List.getElem?_append_right (by omega), hl, List.getElem?_append_left (by omega)]
    · rw [if_neg h2, List.append_assoc, List.getElem?_append_right (by omega), hl, List.getElem?_append_right (by omega), List.getElem?_drop]
      congr 1
      omega
theorem wrL_length (L : List UInt8) (a : Nat) (D : List UInt8) : (wrL L a D).length = max L.length (a + D.length) := by
  unfold wrL
  rw [List.length_append, List.length_append, List.length_take, padL_length, List.length_drop]
  omega
theorem tOk_iff {L : List UInt8} : tOk L = true ↔ (∀ x ∈ L, cOk x = true) ∧ L.length ≤ 48 := by
  unfold tOk
  rw [Bool.and_eq_true, List.all_eq_true, decide_eq_true_iff]
theorem padL_mem {L : List UInt8} {n : Nat} {x : UInt8} (h : x ∈ padL L n) : x ∈ L ∨ x = 46 := by
  unfold padL at h
  rcases List.mem_append.1 h with h | h
  · exact .inl h
  · exact .inr (List.eq_of_mem_replicate h)
theorem wrL_tOk {L : List UInt8} {a : Nat} {D : List UInt8} (h : tOk L = true) (hD : tOk D = true) (ha : a + D.length ≤ 48) : tOk (wrL L a D) = true := by
  obtain ⟨h1, h2⟩ := tOk_iff.1 h
  obtain ⟨d1, _⟩ := tOk_iff.1 hD
  refine tOk_iff.2 ⟨fun x hx => ?_, by rw [wrL_length]; omega⟩
  unfold wrL at hx
  rcases List.mem_append.1 hx with hx | hx
  · rcases List.mem_append.1 hx with hx | hx
    · rcases padL_mem (List.mem_of_mem_take hx) with hx | rfl
      · exact h1 x hx
      · rfl
    · exact d1 x hx
  · exact h1 x (List.mem_of_mem_drop hx)
theorem cut_tOk {L : List UInt8} {n : Nat} (h : tOk L = true) (hn : n ≤ 48) : tOk ((padL L n).take n) = true := by
  obtain ⟨h1, h2⟩ := tOk_iff.1 h
  refine tOk_iff.2 ⟨fun x hx => ?_, by rw [List.length_take]; omega⟩
  rcases padL_mem (List.mem_of_mem_take hx) with hx | rfl
  · exact h1 x hx
  · rfl
theorem wrL_again (L : List UInt8) (a : Nat) (D : List UInt8) : wrL (wrL L a D) a D = wrL L a D := by
  apply List.ext_getElem?
  intro i
  rw [wrL_get]
  by_cases h : i < a
  · rw [if_pos h, wrL_get, if_pos h, List.getD_eq_getElem?_getD, wrL_get, if_pos h]
    rfl
  · rw [if_neg h]
    by_cases h2 : i < a + D.length
    · rw [if_pos h2, wrL_get, if_neg h, if_pos h2]
    · rw [if_neg h2]
theorem wrL_read (L : List UInt8) (a : Nat) (D : List UInt8) : ((wrL L a D).take (a + D.length)).drop a = D := by
  apply List.ext_getElem?
  intro i
  rw [List.getElem?_drop, List.getElem?_take]
  by_cases h : i < D.length
  · rw [if_pos (by omega), wrL_get, if_neg (by omega), if_pos (by omega)]
    congr 1
    omega
  · rw [if_neg (by omega), List.getElem?_eq_none (by omega)]
theorem bt_get {s : ByteArray} {i : Nat} {x : UInt8} (h : (B s)[i]? = some x) : bt s (i : Int) = (x.toNat : Int) := by
  have hl := (List.getElem?_eq_some_iff.1 h).1
  rw [bt_B s i hl, (List.getElem?_eq_some_iff.1 h).2]

theorem tWrite_true {L : List UInt8} {a : Int} {D : List UInt8} (h : (tWrite L a D).2 = true) : tOk L = true ∧ 0 ≤ a ∧ a ≤ 48 ∧ D ≠ [] ∧ tOk D = true ∧ a + D.length ≤ 48 ∧ (tWrite L a D).1 = wrL L a.toNat D := by
  unfold tWrite at h ⊢
  by_cases h1 : tOk L = true
  · rw [if_pos h1] at h ⊢
    by_cases h2 : 0 ≤ a ∧ a ≤ 48 ∧ D ≠ [] ∧ tOk D = true ∧ a + D.length ≤ 48
    · rw [if_pos h2]
      exact ⟨h1, h2.1, h2.2.1, h2.2.2.1, h2.2.2.2.1, h2.2.2.2.2, rfl⟩
    · rw [if_neg h2] at h
      cases h
  · rw [if_neg h1] at h
    cases h
theorem tWrite_mk {L : List UInt8} {a : Int} {D : List UInt8} (h1 : tOk L = true) (h2 : 0 ≤ a) (h3 : a ≤ 48) (h4 : D ≠ []) (h5 : tOk D = true) (h6 : a + D.length ≤ 48) : tWrite L a D = (wrL L a.toNat D, true) := by
  unfold tWrite
  rw [if_pos h1, if_pos ⟨h2, h3, h4, h5, h6⟩]
theorem tWrite_false {L : List UInt8} {a : Int} {D : List UInt8} (h : (tWrite L a D).2 = false) : (tOk L = true ∧ (tWrite L a D).1 = L) ∨ (tOk L = false ∧ (tWrite L a D).1 = []) := by
  unfold tWrite at h ⊢
  by_cases h1 : tOk L = true
  · rw [if_pos h1] at h ⊢
    by_cases h2 : 0 ≤ a ∧ a ≤ 48 ∧ D ≠ [] ∧ tOk D = true ∧ a + D.length ≤ 48
    · rw [if_pos h2] at h
      cases h
    · rw [if_neg h2]
      exact .inl ⟨h1, rfl⟩
  · rw [if_neg h1]
    exact .inr ⟨by simpa using h1, rfl⟩

/-! Several writes, one behind the other. -/
theorem rdPatch_nat (ps : List S38) (i : Nat) : rd_T38 ps (i : Int) = ps.getD i z38 := rfl
theorem drop_patch (ps : List S38) (i : Nat) (h : i < ps.length) : ps.drop i = ps.getD i z38 :: ps.drop (i + 1) := by
  rw [List.drop_eq_getElem_cons h, List.getD_eq_getElem?_getD, List.getElem?_eq_getElem h]
  rfl
theorem mem_patch (ps : List S38) (i : Nat) (h : i < ps.length) : ps.getD i z38 ∈ ps := by
  rw [List.getD_eq_getElem?_getD, List.getElem?_eq_getElem h]
  exact List.getElem_mem h
def goAll (L0 : List UInt8) : List UInt8 → List S38 → List UInt8 × Bool
  | c, [] => (c, true)
  | c, p :: r => if (tWrite c p.f0 (B p.f1)).2 = true then goAll L0 (tWrite c p.f0 (B p.f1)).1 r else (L0, false)
def tAll (L : List UInt8) (ps : List S38) : List UInt8 × Bool := if tOk L = true then goAll L L ps else ([], false)
theorem tWrite_len {L : List UInt8} {a : Int} {D : List UInt8} (h : (tWrite L a D).2 = true) : (tWrite L a D).1.length ≤ 48 := by
  obtain ⟨h1, h2, h3, h4, h5, h6, e⟩ := tWrite_true h
  rw [e, wrL_length]
  have := tOk_len h1
  omega
theorem impl_TextAll_l (s : ByteArray) (ps : List S38) (hp : ∀ p ∈ ps, p.f1.size < 4611686018427387904) (hl : ps.length < 4611686018427387904) : ∀ (d i : Nat) (c : ByteArray), i + d = ps.length → c.size < 4611686018427387904 →
    Ev (fun k => impl_TextAll.l0 k s c ps (ps.length : Int) (i : Int)) (mkB (goAll (B s) (B c) (ps.drop i)).1, (goAll (B s) (B c) (ps.drop i)).2) := by
  intro d
  induction d with
  | zero =>
    intro i c hi hc
    refine Ev.end_ (fun k => ?_)
    simp only [impl_TextAll.l0]
    rw [if_neg (by omega), List.drop_of_length_le (by omega)]
    simp only [goAll, mkB_B]
  | succ d ih =>
    intro i c hi hc
    have hlt : i < ps.length := by omega
    have hw := impl_TextWrite_is c (ps.getD i z38).f0 (ps.getD i z38).f1 hc (hp _ (mem_patch ps i hlt))
    rw [drop_patch ps i hlt]
    simp only [goAll]
    refine Ev.cut (f := fun k => (impl_TextWrite.f k c (ps.getD i z38).f0 (ps.getD i z38).f1).bind fun r => if r.2 = true then impl_TextAll.l0 k s r.1 ps (ps.length : Int) (wrap64 ((i : Int) + 1)) else some (s, false)) (Ev.bind hw ?_) (fun k => ?_)
    · by_cases ho : (tWrite (B c) (ps.getD i z38).f0 (B (ps.getD i z38).f1)).2 = true
      · simp only [if_pos ho]
        have h := ih (i + 1) (mkB (tWrite (B c) (ps.getD i z38).f0 (B (ps.getD i z38).f1)).1) (by omega) (by rw [mkB_size]; have := tWrite_len ho; omega)
        rw [B_mkB] at h
        rw [wsucc i (by omega)]
        exact h
      · simp only [if_neg ho, mkB_B]
        exact Ev.now _
    · simp only [impl_TextAll.l0]
      rw [if_pos (by omega), if_pos (by omega), if_pos (by omega)]
      rfl
theorem impl_TextAll_is (s : ByteArray) (ps : List S38) (hz : s.size < 4611686018427387904) (hp : ∀ p ∈ ps, p.f1.size < 4611686018427387904) (hl : ps.length < 4611686018427387904) : Ev (fun k => impl_TextAll.f k s ps) (mkB (tAll (B s) ps).1, (tAll (B s) ps).2) := by
  unfold impl_TextAll.f tAll
  refine Ev.bind (impl_TextOk_is s hz) ?_
  cases ht : tOk (B s) with
  | false => exact Ev.all fun k => rfl
  | true =>
    simp only [if_true]
    exact impl_TextAll_l s ps hp hl ps.length 0 s (by omega) hz
theorem spec_TextAll_l (s : ByteArray) (ps : List S38) (hp : ∀ p ∈ ps, p.f1.size < 4611686018427387904) (hl : ps.length < 4611686018427387904) : ∀ (d i : Nat) (c : ByteArray), i + d = ps.length → c.size < 4611686018427387904 →
    Ev (fun k => spec_TextAll.l0 k s ps c (i : Int)) (mkB (goAll (B s) (B c) (ps.drop i)).1, (goAll (B s) (B c) (ps.drop i)).2) := by
  intro d
  induction d with
  | zero =>
    intro i c hi hc
    refine Ev.end_ (fun k => ?_)
    simp only [spec_TextAll.l0]
    rw [if_neg (by omega), List.drop_of_length_le (by omega)]
    simp only [goAll, mkB_B]
  | succ d ih =>
    intro i c hi hc
    have hlt : i < ps.length := by omega
    have hw := spec_TextWrite_is c (ps.getD i z38).f0 (ps.getD i z38).f1 hc (hp _ (mem_patch ps i hlt))
    rw [drop_patch ps i hlt]
    simp only [goAll]
    refine Ev.cut (f := fun k => (spec_TextWrite.f k c (ps.getD i z38).f0 (ps.getD i z38).f1).bind fun r => if r.2 = true then spec_TextAll.l0 k s ps r.1 (wrap64 ((i : Int) + 1)) else some (s, false)) (Ev.bind hw ?_) (fun k => ?_)
    · by_cases ho : (tWrite (B c) (ps.getD i z38).f0 (B (ps.getD i z38).f1)).2 = true
      · simp only [if_pos ho]
        have h := ih (i + 1) (mkB (tWrite (B c) (ps.getD i z38).f0 (B (ps.getD i z38).f1)).1) (by omega) (by rw [mkB_size]; have := tWrite_len ho; omega)
        rw [B_mkB] at h
        rw [wsucc i (by omega)]
        exact h
      · simp only [if_neg ho, mkB_B]
        exact Ev.now _
    · simp only [spec_TextAll.l0]
      rw [if_pos (by omega), if_pos (by omega)]
      rfl
theorem spec_TextAll_is (s : ByteArray) (ps : List S38) (hz : s.size < 4611686018427387904) (hp : ∀ p ∈ ps, p.f1.size < 4611686018427387904) (hl : ps.length < 4611686018427387904) : Ev (fun k => spec_TextAll.f k s ps) (mkB (tAll (B s) ps).1, (tAll (B s) ps).2) := by
  unfold spec_TextAll.f tAll
  refine Ev.bind (spec_TextOk_is s hz) ?_
  cases ht : tOk (B s) with
  | false => exact Ev.all fun k => rfl
  | true =>
    simp only [if_true]
    exact spec_TextAll_l s ps hp hl ps.length 0 s (by omega) hz

/-! Writes, copied, compared and measured. -/
def ptConv (x : S73) : S38 := ⟨x.f0, x.f1⟩
theorem rdLPatch_nat (L : List S73) (i : Nat) : rd_T73 L (i : Int) = L.getD i z73 := rfl
theorem laws_toPatchS_l (L : List S73) (hL : L.length < 4611686018427387904) : ∀ (d i : Nat) (M : List S38), i + d = L.length → M.length = L.length → (∀ j, j < i → M[j]? = (L.map ptConv)[j]?) →
    Ev (fun k => laws_toPatchS.l0 k L M (i : Int)) (L.map ptConv) := by
  intro d
  induction d with
  | zero =>
    intro i M hi hM hj
    have : M = L.map ptConv := by
      apply List.ext_getElem?
      intro j
      by_cases h : j < i
      · exact hj j h
      · rw [List.getElem?_eq_none (by omega), List.getElem?_eq_none (by simp; omega)]
    refine Ev.end_ (fun k => ?_)
    simp only [laws_toPatchS.l0]
    rw [if_neg (by omega), this]
  | succ d ih =>
    intro i M hi hM hj
    have hlt : i < L.length := by omega
    refine Ev.cut (f := fun k => laws_toPatchS.l0 k L (M.set i (ptConv (L.getD i z73))) ((i + 1 : Nat) : Int)) (ih (i + 1) _ (by omega) (by simpa using hM) ?_) (fun k => ?_)
    · intro j hj'
      by_cases e : j = i
      · subst e
        rw [List.getElem?_set_self (by omega), List.getElem?_map, List.getD_eq_getElem?_getD, List.getElem?_eq_getElem hlt]
        rfl
      · rw [List.getElem?_set_ne (Ne.symm e)]
        exact hj j (by omega)
    · simp only [laws_toPatchS.l0]
      rw [if_pos (by omega), if_pos (by omega), rdLPatch_nat]
      simp only [laws_toPatch.f, Option.bind_some]
      rw [if_pos (by omega), wsucc i (by omega)]
      rfl
theorem laws_toPatchS_is (L : List S73) (hL : L.length ≤ 11728124029610) : Ev (fun k => laws_toPatchS.f k L) (L.map ptConv) := by
  unfold laws_toPatchS.f
  simp only [if_pos (show (0 : Int) ≤ (L.length : Int) by omega), if_pos (show (L.length : Int).toNat ≤ 11728124029610 by omega)]
  exact laws_toPatchS_l L (by omega) L.length 0 _ (by omega) (by simp) (fun j h => by omega)
theorem laws_eqPatchS_l (L : List S38) (hL : L.length < 4611686018427387904) : ∀ (d i : Nat), i + d = L.length → Ev (fun k => laws_eqPatchS.l0 k L L (i : Int)) true := by
  intro d
  induction d with
  | zero =>
    intro i hi
    refine Ev.end_ (fun k => ?_)
    simp only [laws_eqPatchS.l0]
    rw [if_neg (by omega)]
  | succ d ih =>
    intro i hi
    refine Ev.cut (f := fun k => laws_eqPatchS.l0 k L L ((i + 1 : Nat) : Int)) (ih (i + 1) (by omega)) (fun k => ?_)
    simp only [laws_eqPatchS.l0]
    rw [if_pos (by omega), if_pos (by omega), if_pos (by omega), wsucc i (by omega)]
    simp [laws_eqPatch.f]
theorem laws_eqPatchS_refl (L : List S38) (hL : L.length < 4611686018427387904) : Ev (fun k => laws_eqPatchS.f k L L) true := by
  unfold laws_eqPatchS.f
  simp only [if_true]
  exact laws_eqPatchS_l L hL L.length 0 (by omega)
theorem szPatchS_l (L : List S73) (hL : L.length ≤ 1048576) (hs : ∀ x ∈ L, x.f1.size ≤ maxLen) : ∀ (d i : Nat) (a : Int), i + d = L.length → 0 ≤ a → a ≤ 1048576 → (∀ x ∈ L.take i, (x.f1.size : Int) ≤ 1048576) →
    ∃ z, Ev (fun k => laws_szPatchS.l0 k L a (i : Int)) z ∧ (¬ z < 0 → ∀ x ∈ L, (x.f1.size : Int) ≤ 1048576) := by
  have hmx : maxLen = 9223372036854775807 := rfl
  intro d
  induction d with
  | zero =>
    intro i a hi h0 h1 hp
    rw [List.take_of_length_le (by omega)] at hp
    refine ⟨a, Ev.end_ (fun k => ?_), fun _ => hp⟩
    simp only [laws_szPatchS.l0]
    rw [if_neg (by omega)]
  | succ d ih =>
    intro i a hi h0 h1 hp
    have hlt : i < L.length := by omega
    have hgd : L.getD i z73 = L[i] := by rw [List.getD_eq_getElem?_getD, List.getElem?_eq_getElem hlt]; rfl
    have hz := hs _ (List.getElem_mem hlt)
    rw [← hgd] at hz
    have hw : wrap64 (a - ((L.getD i z73).f1.size : Int)) = a - ((L.getD i z73).f1.size : Int) := wid (by omega) (by omega)
    by_cases hn : a - ((L.getD i z73).f1.size : Int) < 0
    · refine ⟨-1, Ev.end_ (fun k => ?_), fun h => absurd (by omega) h⟩
      simp only [laws_szPatchS.l0]
      rw [if_pos (by omega), if_pos (by omega), rdLPatch_nat]
      simp only [laws_szPatch.f]
      rw [hw, if_pos hn]
      simp
    · obtain ⟨z, hz1, hz2⟩ := ih (i + 1) (a - ((L.getD i z73).f1.size : Int)) (by omega) (by omega) (by omega) (by
        intro s hs2
        rw [List.take_succ_eq_append_getElem hlt, List.mem_append] at hs2
        rcases hs2 with hs2 | hs2
        · exact hp s hs2
        · simp at hs2
          subst hs2
          rw [← hgd]
          omega)
      refine ⟨z, Ev.cut hz1 (fun k => ?_), hz2⟩
      simp only [laws_szPatchS.l0]
      rw [if_pos (by omega), if_pos (by omega), rdLPatch_nat]
      simp only [laws_szPatch.f]
      rw [hw, if_neg hn, Option.bind_some, if_neg hn, wsucc i (by omega)]
theorem szPatchS_is (L : List S73) (hL : L.length ≤ maxLen) (hs : ∀ x ∈ L, x.f1.size ≤ maxLen) : ∃ z, Ev (fun k => laws_szPatchS.f k L 1048576) z ∧ (¬ z < 0 → L.length ≤ 1048576 ∧ ∀ x ∈ L, (x.f1.size : Int) ≤ 1048576) := by
  have hmx : maxLen = 9223372036854775807 := rfl
  unfold laws_szPatchS.f
  have hw : wrap64 (1048576 - (L.length : Int)) = 1048576 - (L.length : Int) := wid (by omega) (by omega)
  simp only [hw]
  by_cases hn : 1048576 - (L.length : Int) < 0
  · exact ⟨-1, by simp only [if_pos hn]; exact Ev.now _, fun h => absurd (by omega) h⟩
  · obtain ⟨z, hz, hzz⟩ := szPatchS_l L (by omega) hs L.length 0 (1048576 - (L.length : Int)) (by omega) (by omega) (by omega) (fun s hs => by simp at hs)
    exact ⟨z, by simp only [if_neg hn]; exact hz, fun h => ⟨by omega, hzz h⟩⟩


theorem FnExactTextAll (a0 : ByteArray) (l1 : List S73) (w0 : a0.size ≤ maxLen) (hm1 : l1.length ≤ maxLen) (hw1 : ∀ x ∈ l1, (Lit.int .i64 x.f0).wf = true ∧ x.f1.size ≤ maxLen) : ∃ k, laws_FnExactTextAll.f k a0 l1 = some true := by
  have hmx : maxLen = 9223372036854775807 := rfl
  by_cases h : (a0.size : Int) > 1048576
  · exact ⟨0, by unfold laws_FnExactTextAll.f; rw [if_pos h]⟩
  refine Ev.rounds (r := true) (g := fun k => laws_FnExactTextAll.f k a0 l1) ?_
  unfold laws_FnExactTextAll.f
  simp only [if_neg h]
  obtain ⟨z, hz, hzz⟩ := szPatchS_is l1 hm1 (fun x hx => (hw1 x hx).2)
  refine Ev.bind hz ?_
  by_cases hn : z < 0
  · simp only [if_pos hn]
    exact Ev.now _
  · obtain ⟨q1, q2⟩ := hzz hn
    simp only [if_neg hn]
    have hc := laws_toPatchS_is l1 (by omega)
    have hps : ∀ p ∈ l1.map ptConv, p.f1.size < 4611686018427387904 := by
      intro p hp
      obtain ⟨x, hx, rfl⟩ := List.mem_map.1 hp
      have := q2 x hx
      show x.f1.size < _
      omega
    have hll : (l1.map ptConv).length < 4611686018427387904 := by rw [List.length_map]; omega
    refine Ev.bind hc (Ev.bind (spec_TextAll_is a0 _ (by omega) hps hll) (Ev.bind hc (Ev.bind (impl_TextAll_is a0 _ (by omega) hps hll) ?_)))
    simp only [if_true, bne_self_eq_false]
    refine Ev.cut (f := fun k => (laws_toPatchS.f k l1).bind fun t => (laws_eqPatchS.f k (l1.map ptConv) t).bind fun u => if u = true then some true else some false) (Ev.bind hc (Ev.bind (laws_eqPatchS_refl _ hll) (Ev.all fun k => rfl))) (fun k => ?_)
    simp only [laws_FnExactTextAll.j0, Bool.false_eq_true, if_false]

end Go.Proofs.Ytfomnpbhpncpaaa.Pure
