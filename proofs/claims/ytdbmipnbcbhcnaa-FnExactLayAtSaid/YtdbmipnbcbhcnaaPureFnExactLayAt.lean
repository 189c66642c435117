/- The law FnExactLayAt over numbers and lists, as the program's text computes it: it answers true. Conditions: the arguments are of their kinds, lengths fit. -/
import Derived.Test.YtdbmipnbcbhcnaaPFnExactLayAtx1
import Derived.OpenShut
import Derived.Laws.Strings
namespace Go.Proofs.Ytdbmipnbcbhcnaa.Pure
open Go.RowKit Go.Proofs.Ytdbmipnbcbhcnaa.PFnExactLayAt Go.Proofs.YtdbmipnbcbhcnaaW.PrintWords Go.Proofs.YtdbmipnbcbhcnaaW.PrintLast
set_option linter.unusedVariables false
set_option linter.unusedSimpArgs false

/-! Words for the pure side: strings as lists of bytes, counters as natural numbers, what is answered from some round on. -/
def B (s : ByteArray) : List UInt8 := s.data.toList
theorem B_size (s : ByteArray) : s.size = (B s).length := (Array.length_toList).symm
theorem B_toList (s : ByteArray) : s.toList = B s := Go.ByteArray.toList_eq s
theorem B_inj {s t : ByteArray} (h : B s = B t) : s = t := by
  cases s; cases t
  simp only [B] at h
  congr 1
  exact Array.ext' h
theorem B_app (s t : ByteArray) : B (s ++ t) = B s ++ B t := by simp [B, ByteArray.data_append]
theorem B_ext (s : ByteArray) (i j : Nat) : B (s.extract i j) = ((B s).take j).drop i := by
  simp [B, ByteArray.data_extract, List.extract_eq_take_drop, List.drop_take]
theorem B_nil : B (⟨#[]⟩ : ByteArray) = [] := rfl
theorem bt_B (s : ByteArray) (i : Nat) (h : i < (B s).length) : bt s (i : Int) = (((B s)[i]'h).toNat : Int) := by
  have h' : (i : Int).toNat < s.size := by rw [B_size]; simpa using h
  unfold bt
  rw [dif_pos h']
  rfl
theorem wsucc (i : Nat) (h : i < 4611686018427387904) : wrap64 ((i : Int) + 1) = ((i + 1 : Nat) : Int) := by unfold wrap64; omega
theorem wpred (i : Nat) (h : i < 4611686018427387904) (h0 : 0 < i) : wrap64 ((i : Int) - 1) = ((i - 1 : Nat) : Int) := by unfold wrap64; omega
theorem wid {x : Int} (h0 : -9223372036854775808 ≤ x) (h1 : x ≤ 9223372036854775807) : wrap64 x = x := by unfold wrap64; omega
theorem Ev.cut {α : Type} {g f : Nat → Option α} {r : α} (k : Ev f r) (h : ∀ k, g (k + 1) = f k) : Ev g r := Ev.step h k
theorem Ev.end_ {α : Type} {g : Nat → Option α} {r : α} (h : ∀ k, g (k + 1) = some r) : Ev g r := Ev.step h (Ev.now r)
theorem Ev.all {α : Type} {g : Nat → Option α} {r : α} (h : ∀ k, g k = some r) : Ev g r := ⟨0, fun k _ => h k⟩
theorem Ev.uniq {α : Type} {g : Nat → Option α} {r q : α} (h : Ev g r) (h' : Ev g q) : r = q := by
  obtain ⟨K, h⟩ := h
  obtain ⟨K', h'⟩ := h'
  have h1 := h (max K K') (by omega)
  rw [h' (max K K') (by omega)] at h1
  exact (Option.some.inj h1).symm
theorem dec_eq {p q : Prop} [Decidable p] [Decidable q] (h : p ↔ q) : (some (decide p) : Option Bool) = some (decide q) := by rw [decide_eq_decide.2 h]
theorem dec_false {q : Prop} [Decidable q] (h : ¬ q) : (some false : Option Bool) = some (decide q) := by rw [decide_eq_false h]
theorem dec_true {q : Prop} [Decidable q] (h : q) : (some true : Option Bool) = some (decide q) := by rw [decide_eq_true h]

/-! Layouts, valid. -/
def laOk (a b : Int) : Bool := decide (1 ≤ a ∧ a ≤ 8 ∧ 1 ≤ b ∧ b ≤ 3)
theorem spec_LayOk_is (a b : Int) : spec_LayOk.f a b = some (laOk a b) := by
  unfold spec_LayOk.f laOk
  repeat' split
  all_goals first | exact dec_eq (by omega) | exact dec_false (by omega)
theorem impl_LayOk_is (a b : Int) : impl_LayOk.f a b = some (laOk a b) := by
  unfold impl_LayOk.f laOk
  repeat' split
  all_goals first | exact dec_eq (by omega) | exact dec_false (by omega)

/-! Where a place lies. -/
def lAt (l m p : Int) : Int × Int := (p / l % m, p / l / m * l + p % l)
theorem lAt_bounds {l m p : Int} (hl : 1 ≤ l) (hl8 : l ≤ 8) (hm : 1 ≤ m) (hm3 : m ≤ 3) (h0 : 0 ≤ p) (h1 : p < 100) : 0 ≤ (lAt l m p).1 ∧ (lAt l m p).1 < m ∧ 0 ≤ (lAt l m p).2 ∧ (lAt l m p).2 ≤ p := by
  have hq0 : 0 ≤ p / l := Int.ediv_nonneg h0 (by omega)
  have e1 : p / l * l + p % l = p := by rw [Int.mul_comm]; exact Int.mul_ediv_add_emod p l
  have r0 : 0 ≤ p % l := Int.emod_nonneg _ (by omega)
  have hq2 : 0 ≤ p / l / m := Int.ediv_nonneg hq0 (by omega)
  have hq3 : p / l / m ≤ p / l := Int.ediv_le_self _ hq0
  refine ⟨Int.emod_nonneg _ (by omega), Int.emod_lt_of_pos _ (by omega), ?_, ?_⟩
  · exact Int.add_nonneg (Int.mul_nonneg hq2 (by omega)) r0
  · have := Int.mul_le_mul_of_nonneg_right hq3 (show 0 ≤ l by omega)
    show p / l / m * l + p % l ≤ p
    omega
theorem lAt_words {l m p : Int} (hl : 1 ≤ l) (hl8 : l ≤ 8) (hm : 1 ≤ m) (hm3 : m ≤ 3) (h0 : 0 ≤ p) (h1 : p < 100) :
    Int.tmod (wrap64 (Int.tdiv p l)) m = (lAt l m p).1 ∧ wrap64 ((wrap64 ((wrap64 (Int.tdiv (wrap64 (Int.tdiv p l)) m)) * l)) + (Int.tmod p l)) = (lAt l m p).2 := by
  have hq0 : 0 ≤ p / l := Int.ediv_nonneg h0 (by omega)
  have hqp : p / l ≤ p := Int.ediv_le_self _ h0
  have hq2 : 0 ≤ p / l / m := Int.ediv_nonneg hq0 (by omega)
  have hq3 : p / l / m ≤ p / l := Int.ediv_le_self _ hq0
  have r0 : 0 ≤ p % l := Int.emod_nonneg _ (by omega)
  have r1 : p % l < l := Int.emod_lt_of_pos _ (by omega)
  have m0 : 0 ≤ p / l / m * l := Int.mul_nonneg hq2 (by omega)
  have m1 : p / l / m * l ≤ 100 * 8 := Int.mul_le_mul (by omega) hl8 (by omega) (by omega)
  rw [Int.tdiv_eq_ediv_of_nonneg h0, wid (x := p / l) (by omega) (by omega), Int.tmod_eq_emod_of_nonneg hq0, Int.tdiv_eq_ediv_of_nonneg hq0, wid (x := p / l / m) (by omega) (by omega), wid (x := p / l / m * l) (by omega) (by omega), Int.tmod_eq_emod_of_nonneg h0, wid (by omega) (by omega)]
  exact ⟨rfl, rfl⟩
def lyAt (l m p : Int) : Int × Int := if laOk l m = true ∧ 0 ≤ p ∧ p < 48 then lAt l m p else (-1, -1)
theorem spec_l3At_is {l m p : Int} (hl : 1 ≤ l) (hl8 : l ≤ 8) (hm : 1 ≤ m) (hm3 : m ≤ 3) (h0 : 0 ≤ p) (h1 : p < 100) : spec_l3At.f l m p = some (lAt l m p) := by
  unfold spec_l3At.f
  obtain ⟨e1, e2⟩ := lAt_words hl hl8 hm hm3 h0 h1
  rw [if_neg (by omega), if_neg (by omega), e1, e2]
theorem spec_LayAt_is (l m p : Int) : spec_LayAt.f l m p = some (lyAt l m p) := by
  unfold spec_LayAt.f lyAt
  rw [spec_LayOk_is]
  cases h : laOk l m with
  | false => simp
  | true =>
    have h' := of_decide_eq_true h
    simp only [Option.bind_some, if_true]
    by_cases h0 : p < 0
    · rw [if_pos h0, if_neg (by omega)]
    · rw [if_neg h0]
      by_cases h1 : p ≥ 48
      · rw [if_pos h1, if_neg (by omega)]
      · rw [if_neg h1, if_pos ⟨trivial, by omega, by omega⟩, spec_l3At_is (by omega) (by omega) (by omega) (by omega) (by omega) (by omega)]
        rfl
theorem impl_LayAt_is (l m p : Int) : impl_LayAt.f l m p = some (lyAt l m p) := by
  unfold impl_LayAt.f lyAt
  rw [impl_LayOk_is]
  cases h : laOk l m with
  | false => simp
  | true =>
    have h' := of_decide_eq_true h
    simp only [Option.bind_some, if_true]
    by_cases h0 : p < 0
    · rw [if_pos h0, if_neg (by omega)]
    · rw [if_neg h0]
      by_cases h1 : p ≥ 48
      · rw [if_pos h1, if_neg (by omega)]
      · obtain ⟨e1, e2⟩ := lAt_words (l := l) (m := m) (p := p) (by omega) (by omega) (by omega) (by omega) (by omega) (by omega)
        rw [if_neg h1, if_neg (show ¬ l = 0 by omega), if_neg (show ¬ m = 0 by omega), e1, e2, if_pos ⟨trivial, by omega, by omega⟩]


theorem FnExactLayAt (a0_0 a0_1 : Int) (a1 : Int) (w0_0 : (Lit.int .i64 a0_0).wf = true) (w0_1 : (Lit.int .i64 a0_1).wf = true) (w1 : (Lit.int .i64 a1).wf = true) : laws_FnExactLayAt.f a0_0 a0_1 a1 = some true := by
  simp [laws_FnExactLayAt.f, laws_toLay.f, spec_LayAt_is, impl_LayAt_is]

end Go.Proofs.Ytdbmipnbcbhcnaa.Pure
