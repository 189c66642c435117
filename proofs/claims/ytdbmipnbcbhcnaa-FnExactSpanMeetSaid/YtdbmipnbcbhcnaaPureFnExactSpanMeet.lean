/- The law FnExactSpanMeet over numbers and lists, as the program's text computes it: it answers true. Conditions: the arguments are of their kinds, lengths fit. -/
import Derived.Test.YtdbmipnbcbhcnaaQFnExactSpanMeetx4
import Derived.OpenShut
import Derived.Laws.Strings
namespace Go.Proofs.Ytdbmipnbcbhcnaa.Pure
open Go.RowKit Go.Proofs.Ytdbmipnbcbhcnaa.QFnExactSpanMeet Go.Proofs.YtdbmipnbcbhcnaaW.PrintWords Go.Proofs.YtdbmipnbcbhcnaaW.PrintLast
set_option linter.unusedVariables false
set_option linter.unusedSimpArgs false

/-! Words for the pure side: strings as lists of bytes, counters as natural numbers, what is answered from some round on. -/
def B (s : ByteArray) : List UInt8 := s.data.toList
theorem B_size (s : ByteArray) : s.size = (B s).length := (Array.length_toList).symm
theorem B_toList (s : ByteArray) : s.toList = B s := Go.ByteArray.toList_eq s
theorem B_inj {s t : ByteArray} (h : B s = B t) : s = t := by
  cases s; cases t
  simp only [B] at h
  congr 1
  exact Array.ext' h
theorem B_app (s t : ByteArray) : B (s ++ t) = B s ++ B t := by simp [B, ByteArray.data_append]
theorem B_ext (s : ByteArray) (i j : Nat) : B (s.extract i j) = ((B s).take j).drop i := by
  simp [B, ByteArray.data_extract, List.extract_eq_take_drop, List.drop_take]
theorem B_nil : B (⟨#[]⟩ : ByteArray) = [] := rfl
theorem bt_B (s : ByteArray) (i : Nat) (h : i < (B s).length) : bt s (i : Int) = (((B s)[i]'h).toNat : Int) := by
  have h' : (i : Int).toNat < s.size := by rw [B_size]; simpa using h
  unfold bt
  rw [dif_pos h']
  rfl
theorem wsucc (i : Nat) (h : i < 4611686018427387904) : wrap64 ((i : Int) + 1) = ((i + 1 : Nat) : Int) := by unfold wrap64; omega
theorem wpred (i : Nat) (h : i < 4611686018427387904) (h0 : 0 < i) : wrap64 ((i : Int) - 1) = ((i - 1 : Nat) : Int) := by unfold wrap64; omega
theorem wid {x : Int} (h0 : -9223372036854775808 ≤ x) (h1 : x ≤ 9223372036854775807) : wrap64 x = x := by unfold wrap64; omega
theorem Ev.cut {α : Type} {g f : Nat → Option α} {r : α} (k : Ev f r) (h : ∀ k, g (k + 1) = f k) : Ev g r := Ev.step h k
theorem Ev.end_ {α : Type} {g : Nat → Option α} {r : α} (h : ∀ k, g (k + 1) = some r) : Ev g r := Ev.step h (Ev.now r)
theorem Ev.all {α : Type} {g : Nat → Option α} {r : α} (h : ∀ k, g k = some r) : Ev g r := ⟨0, fun k _ => h k⟩
theorem Ev.uniq {α : Type} {g : Nat → Option α} {r q : α} (h : Ev g r) (h' : Ev g q) : r = q := by
  obtain ⟨K, h⟩ := h
  obtain ⟨K', h'⟩ := h'
  have h1 := h (max K K') (by omega)
  rw [h' (max K K') (by omega)] at h1
  exact (Option.some.inj h1).symm
theorem dec_eq {p q : Prop} [Decidable p] [Decidable q] (h : p ↔ q) : (some (decide p) : Option Bool) = some (decide q) := by rw [decide_eq_decide.2 h]
theorem dec_false {q : Prop} [Decidable q] (h : ¬ q) : (some false : Option Bool) = some (decide q) := by rw [decide_eq_false h]
theorem dec_true {q : Prop} [Decidable q] (h : q) : (some true : Option Bool) = some (decide q) := by rw [decide_eq_true h]

/-! Ranges, valid. -/
def spOk (a b : Int) : Bool := decide (0 ≤ a ∧ a < b ∧ b ≤ 48)
theorem spec_SpanOk_is (a b : Int) : spec_SpanOk.f a b = some (spOk a b) := by
  unfold spec_SpanOk.f spOk
  repeat' split
  all_goals first | exact dec_eq (by omega) | exact dec_false (by omega)
theorem impl_SpanOk_is (a b : Int) : impl_SpanOk.f a b = some (spOk a b) := by
  unfold impl_SpanOk.f spOk
  repeat' split
  all_goals first | exact dec_eq (by omega) | exact dec_false (by omega)

theorem l1Max_is (a b : Int) : spec_l1Max.f a b = some (mx a b) := by
  unfold spec_l1Max.f mx
  split <;> split <;> first | rfl | (congr 1; omega)

theorem l1Min_is (a b : Int) : spec_l1Min.f a b = some (mn a b) := by
  unfold spec_l1Min.f mn
  split <;> split <;> first | rfl | (congr 1; omega)

/-! What two ranges have in common. -/
def spMeet (a b c d : Int) : Int × Int × Bool := if spOk a b = true ∧ spOk c d = true ∧ mx a c < mn b d then (mx a c, mn b d, true) else (0, 0, false)
theorem spec_SpanMeet_is (a b c d : Int) : spec_SpanMeet.f a b c d = some (spMeet a b c d) := by
  unfold spec_SpanMeet.f spMeet spec_l1Meet.f
  rw [spec_SpanOk_is, spec_SpanOk_is, l1Max_is, l1Min_is]
  cases h : spOk a b with
  | false => simp
  | true =>
    cases h2 : spOk c d with
    | false => simp
    | true =>
      simp only [Option.bind_some, if_true]
      by_cases h3 : mx a c ≥ mn b d
      · rw [if_pos h3, if_neg (by omega)]; rfl
      · rw [if_neg h3, if_pos ⟨trivial, trivial, by omega⟩]; rfl
theorem impl_SpanMeet_is (a b c d : Int) : impl_SpanMeet.f a b c d = some (spMeet a b c d) := by
  unfold impl_SpanMeet.f spMeet
  rw [impl_SpanOk_is, impl_SpanOk_is, impl_SpanOk_is]
  cases h : spOk a b with
  | false => simp
  | true =>
    cases h2 : spOk c d with
    | false => simp
    | true =>
      have h' := of_decide_eq_true h
      have h2' := of_decide_eq_true h2
      simp only [Option.bind_some, if_true]
      cases h3 : spOk (mx a c) (mn b d) with
      | true =>
        have h3' := of_decide_eq_true h3
        rw [if_pos rfl, if_pos ⟨trivial, trivial, by omega⟩]
      | false =>
        have h3' := of_decide_eq_false h3
        rw [if_neg (by simp), if_neg (fun hh => h3' ⟨by unfold mx; split <;> omega, hh.2.2, by unfold mn; split <;> omega⟩)]


theorem FnExactSpanMeet (a0_0 a0_1 : Int) (a1_0 a1_1 : Int) (w0_0 : (Lit.int .i64 a0_0).wf = true) (w0_1 : (Lit.int .i64 a0_1).wf = true) (w1_0 : (Lit.int .i64 a1_0).wf = true) (w1_1 : (Lit.int .i64 a1_1).wf = true) : ∃ k, laws_FnExactSpanMeet.f k a0_0 a0_1 a1_0 a1_1 = some true := by
  refine ⟨1, ?_⟩
  simp [laws_FnExactSpanMeet.f, laws_toSpan.f, spec_SpanMeet_is, impl_SpanMeet_is, laws_eqSpan.f, laws_FnExactSpanMeet.j0]

end Go.Proofs.Ytdbmipnbcbhcnaa.Pure
