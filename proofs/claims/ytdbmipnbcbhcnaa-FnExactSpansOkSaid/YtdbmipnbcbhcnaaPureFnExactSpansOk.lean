/- The law FnExactSpansOk over numbers and lists, as the program's text computes it: it answers true. Conditions: the arguments are of their kinds, lengths fit. -/
import Derived.Test.YtdbmipnbcbhcnaaPFnExactSpansOkx5
import Derived.OpenShut
import Derived.Laws.Strings
namespace Go.Proofs.Ytdbmipnbcbhcnaa.Pure
open Go.RowKit Go.Proofs.Ytdbmipnbcbhcnaa.PFnExactSpansOk Go.Proofs.YtdbmipnbcbhcnaaW.PrintWords Go.Proofs.YtdbmipnbcbhcnaaW.PrintLast
set_option linter.unusedVariables false
set_option linter.unusedSimpArgs false

/-! Words for the pure side: strings as lists of bytes, counters as natural numbers, what is answered from some round on. -/
def B (s : ByteArray) : List UInt8 := s.data.toList
theorem B_size (s : ByteArray) : s.size = (B s).length := (Array.length_toList).symm
theorem B_toList (s : ByteArray) : s.toList = B s := Go.ByteArray.toList_eq s
theorem B_inj {s t : ByteArray} (h : B s = B t) : s = t := by
  cases s; cases t
  simp only [B] at h
  congr 1
  exact Array.ext' h
theorem B_app (s t : ByteArray) : B (s ++ t) = B s ++ B t := by simp [B, ByteArray.data_append]
theorem B_ext (s : ByteArray) (i j : Nat) : B (s.extract i j) = ((B s).take j).drop i := by
  simp [B, ByteArray.data_extract, List.extract_eq_take_drop, List.drop_take]
theorem B_nil : B (⟨#[]⟩ : ByteArray) = [] := rfl
theorem bt_B (s : ByteArray) (i : Nat) (h : i < (B s).length) : bt s (i : Int) = (((B s)[i]'h).toNat : Int) := by
  have h' : (i : Int).toNat < s.size := by rw [B_size]; simpa using h
  unfold bt
  rw [dif_pos h']
  rfl
theorem wsucc (i : Nat) (h : i < 4611686018427387904) : wrap64 ((i : Int) + 1) = ((i + 1 : Nat) : Int) := by unfold wrap64; omega
theorem wpred (i : Nat) (h : i < 4611686018427387904) (h0 : 0 < i) : wrap64 ((i : Int) - 1) = ((i - 1 : Nat) : Int) := by unfold wrap64; omega
theorem wid {x : Int} (h0 : -9223372036854775808 ≤ x) (h1 : x ≤ 9223372036854775807) : wrap64 x = x := by unfold wrap64; omega
theorem Ev.cut {α : Type} {g f : Nat → Option α} {r : α} (k : Ev f r) (h : ∀ k, g (k + 1) = f k) : Ev g r := Ev.step h k
theorem Ev.end_ {α : Type} {g : Nat → Option α} {r : α} (h : ∀ k, g (k + 1) = some r) : Ev g r := Ev.step h (Ev.now r)
theorem Ev.all {α : Type} {g : Nat → Option α} {r : α} (h : ∀ k, g k = some r) : Ev g r := ⟨0, fun k _ => h k⟩
theorem Ev.uniq {α : Type} {g : Nat → Option α} {r q : α} (h : Ev g r) (h' : Ev g q) : r = q := by
  obtain ⟨K, h⟩ := h
  obtain ⟨K', h'⟩ := h'
  have h1 := h (max K K') (by omega)
  rw [h' (max K K') (by omega)] at h1
  exact (Option.some.inj h1).symm
theorem dec_eq {p q : Prop} [Decidable p] [Decidable q] (h : p ↔ q) : (some (decide p) : Option Bool) = some (decide q) := by rw [decide_eq_decide.2 h]
theorem dec_false {q : Prop} [Decidable q] (h : ¬ q) : (some false : Option Bool) = some (decide q) := by rw [decide_eq_false h]
theorem dec_true {q : Prop} [Decidable q] (h : q) : (some true : Option Bool) = some (decide q) := by rw [decide_eq_true h]

/-! Ranges, valid. -/
def spOk (a b : Int) : Bool := decide (0 ≤ a ∧ a < b ∧ b ≤ 48)
theorem spec_SpanOk_is (a b : Int) : spec_SpanOk.f a b = some (spOk a b) := by
  unfold spec_SpanOk.f spOk
  repeat' split
  all_goals first | exact dec_eq (by omega) | exact dec_false (by omega)
theorem impl_SpanOk_is (a b : Int) : impl_SpanOk.f a b = some (spOk a b) := by
  unfold impl_SpanOk.f spOk
  repeat' split
  all_goals first | exact dec_eq (by omega) | exact dec_false (by omega)

/-! Lists of ranges, valid. -/
theorem rdSpan_nat (L : List S26) (i : Nat) : rd_T26 L (i : Int) = L.getD i z26 := rfl
def SpsGood (L : List S26) (i : Nat) : Prop := spOk (L.getD i z26).f0 (L.getD i z26).f1 = true ∧ (0 < i → (L.getD (i - 1) z26).f1 < (L.getD i z26).f0)
def SpsOk (L : List S26) : Prop := (∀ j, j < L.length → SpsGood L j) ∧ L.length ≤ 12
theorem good_iff {L : List S26} {i : Nat} (h : SpsGood L i) : (∀ j, i ≤ j → j < L.length → SpsGood L j) ↔ (∀ j, i + 1 ≤ j → j < L.length → SpsGood L j) :=
  ⟨fun g j h1 h2 => g j (by omega) h2, fun g j h1 h2 => if e : j = i then e ▸ h else g j (by omega) h2⟩
theorem spec_SpansOk_l (L : List S26) (hL : L.length < 4611686018427387904) : ∀ (d i : Nat), i + d = L.length →
    ∃ b, Ev (fun k => spec_SpansOk.l0 k L (i : Int)) b ∧ (b = true ↔ (∀ j, i ≤ j → j < L.length → SpsGood L j) ∧ L.length ≤ 12) := by
  intro d
  induction d with
  | zero =>
    intro i hi
    refine ⟨decide ((L.length : Int) ≤ 12), Ev.end_ (fun k => ?_), ?_⟩
    · simp only [spec_SpansOk.l0]
      rw [if_neg (by omega)]
    · rw [decide_eq_true_iff]
      exact ⟨fun h => ⟨fun j h1 h2 => by omega, by omega⟩, fun h => by omega⟩
  | succ d ih =>
    intro i hi
    by_cases hg : SpsGood L i
    · obtain ⟨b, hb, hiff⟩ := ih (i + 1) (by omega)
      refine ⟨b, Ev.cut (f := fun k => spec_SpansOk.l0 k L ((i + 1 : Nat) : Int)) hb (fun k => ?_), by rw [hiff, good_iff hg]⟩
      simp only [spec_SpansOk.l0]
      rw [if_pos (by omega), if_pos (by omega), rdSpan_nat, spec_SpanOk_is, hg.1]
      simp only [Option.bind_some, if_true]
      rw [wsucc i (by omega)]
      by_cases hi0 : 0 < i
      · have := hg.2 hi0
        rw [if_pos (by omega), wpred i (by omega) hi0, if_pos (by omega), if_pos (by omega), rdSpan_nat, if_neg (by omega)]
      · rw [if_neg (by omega)]
    · refine ⟨false, Ev.end_ (fun k => ?_), ⟨nofun, fun h => absurd (h.1 i (Nat.le_refl _) (by omega)) hg⟩⟩
      simp only [spec_SpansOk.l0]
      rw [if_pos (by omega), if_pos (by omega), rdSpan_nat, spec_SpanOk_is]
      cases hs : spOk (L.getD i z26).f0 (L.getD i z26).f1 with
      | false => simp
      | true =>
        simp only [Option.bind_some, if_true]
        by_cases hi0 : 0 < i
        · rw [if_pos (by omega), wpred i (by omega) hi0, if_pos (by omega), if_pos (by omega), rdSpan_nat, if_pos]
          have : ¬ (L.getD (i - 1) z26).f1 < (L.getD i z26).f0 := fun h => hg ⟨hs, fun _ => h⟩
          omega
        · exact absurd ⟨hs, fun h => absurd h hi0⟩ hg
theorem spec_SpansOk_is (L : List S26) (hL : L.length < 4611686018427387904) : ∃ b, Ev (fun k => spec_SpansOk.f k L) b ∧ (b = true ↔ SpsOk L) := by
  obtain ⟨b, hb, hi⟩ := spec_SpansOk_l L hL L.length 0 (by omega)
  exact ⟨b, hb, by rw [hi]; exact ⟨fun h => ⟨fun j => h.1 j (by omega), h.2⟩, fun h => ⟨fun j _ => h.1 j, h.2⟩⟩⟩
theorem impl_SpansOk_l (L : List S26) (hL : L.length < 4611686018427387904) : ∀ (d i : Nat), i + d = L.length →
    ∃ b, Ev (fun k => impl_SpansOk.l0 k L L (L.length : Int) (i : Int)) b ∧ (b = true ↔ (∀ j, i ≤ j → j < L.length → SpsGood L j) ∧ L.length ≤ 12) := by
  intro d
  induction d with
  | zero =>
    intro i hi
    refine ⟨decide ((L.length : Int) ≤ 12), Ev.end_ (fun k => ?_), ?_⟩
    · simp only [impl_SpansOk.l0]
      rw [if_neg (by omega)]
    · rw [decide_eq_true_iff]
      exact ⟨fun h => ⟨fun j h1 h2 => by omega, by omega⟩, fun h => by omega⟩
  | succ d ih =>
    intro i hi
    by_cases hg : SpsGood L i
    · obtain ⟨b, hb, hiff⟩ := ih (i + 1) (by omega)
      refine ⟨b, Ev.cut (f := fun k => impl_SpansOk.l0 k L L (L.length : Int) ((i + 1 : Nat) : Int)) hb (fun k => ?_), by rw [hiff, good_iff hg]⟩
      simp only [impl_SpansOk.l0]
      rw [if_pos (by omega), if_pos (by omega), if_pos (by omega), rdSpan_nat, impl_SpanOk_is, hg.1]
      simp only [Option.bind_some, if_true]
      rw [wsucc i (by omega)]
      by_cases hi0 : 0 < i
      · have := hg.2 hi0
        rw [if_pos (by omega), wpred i (by omega) hi0, if_pos (by omega), if_pos (by omega), rdSpan_nat, if_neg (by omega)]
      · rw [if_neg (by omega)]
    · refine ⟨false, Ev.end_ (fun k => ?_), ⟨nofun, fun h => absurd (h.1 i (Nat.le_refl _) (by omega)) hg⟩⟩
      simp only [impl_SpansOk.l0]
      rw [if_pos (by omega), if_pos (by omega), if_pos (by omega), rdSpan_nat, impl_SpanOk_is]
      cases hs : spOk (L.getD i z26).f0 (L.getD i z26).f1 with
      | false => simp
      | true =>
        simp only [Option.bind_some, if_true]
        by_cases hi0 : 0 < i
        · rw [if_pos (by omega), wpred i (by omega) hi0, if_pos (by omega), if_pos (by omega), rdSpan_nat, if_pos]
          have : ¬ (L.getD (i - 1) z26).f1 < (L.getD i z26).f0 := fun h => hg ⟨hs, fun _ => h⟩
          omega
        · exact absurd ⟨hs, fun h => absurd h hi0⟩ hg
theorem impl_SpansOk_is (L : List S26) (hL : L.length < 4611686018427387904) : ∃ b, Ev (fun k => impl_SpansOk.f k L) b ∧ (b = true ↔ SpsOk L) := by
  obtain ⟨b, hb, hi⟩ := impl_SpansOk_l L hL L.length 0 (by omega)
  exact ⟨b, hb, by rw [hi]; exact ⟨fun h => ⟨fun j => h.1 j (by omega), h.2⟩, fun h => ⟨fun j _ => h.1 j, h.2⟩⟩⟩

/-! A list of ranges, copied and compared. -/
def spConv (x : S24) : S26 := ⟨x.f0, x.f1⟩
theorem rdLSpan_nat (L : List S24) (i : Nat) : rd_T24 L (i : Int) = L.getD i z24 := rfl
theorem laws_toSpanS_l (L : List S24) (hL : L.length < 4611686018427387904) : ∀ (d i : Nat) (M : List S26), i + d = L.length → M.length = L.length → (∀ j, j < i → M[j]? = (L.map spConv)[j]?) →
    Ev (fun k => laws_toSpanS.l0 k L M (i : Int)) (L.map spConv) := by
  intro d
  induction d with
  | zero =>
    intro i M hi hM hj
    have : M = L.map spConv := by
      apply List.ext_getElem?
      intro j
      by_cases h : j < i
      · exact hj j h
      · rw [List.getElem?_eq_none (by omega), List.getElem?_eq_none (by simp; omega)]
    refine Ev.end_ (fun k => ?_)
    simp only [laws_toSpanS.l0]
    rw [if_neg (by omega), this]
  | succ d ih =>
    intro i M hi hM hj
    have hlt : i < L.length := by omega
    refine Ev.cut (f := fun k => laws_toSpanS.l0 k L (M.set i (spConv (L.getD i z24))) ((i + 1 : Nat) : Int)) (ih (i + 1) _ (by omega) (by simpa using hM) ?_) (fun k => ?_)
    · intro j hj'
      by_cases e : j = i
      · subst e
        rw [List.getElem?_set_self (by omega), List.getElem?_map, List.getD_eq_getElem?_getD, List.getElem?_eq_getElem hlt]
        rfl
      · rw [List.getElem?_set_ne (Ne.symm e)]
        exact hj j (by omega)
    · simp only [laws_toSpanS.l0]
      rw [if_pos (by omega), if_pos (by omega), rdLSpan_nat]
      simp only [laws_toSpan.f, Option.bind_some]
      rw [if_pos (by omega), wsucc i (by omega)]
      rfl
theorem laws_toSpanS_is (L : List S24) (hL : L.length ≤ 17592186044416) : Ev (fun k => laws_toSpanS.f k L) (L.map spConv) := by
  unfold laws_toSpanS.f
  simp only [if_pos (show (0 : Int) ≤ (L.length : Int) by omega), if_pos (show (L.length : Int).toNat ≤ 17592186044416 by omega)]
  exact laws_toSpanS_l L (by omega) L.length 0 _ (by omega) (by simp) (fun j h => by omega)
theorem laws_eqSpanS_l (L : List S26) (hL : L.length < 4611686018427387904) : ∀ (d i : Nat), i + d = L.length → Ev (fun k => laws_eqSpanS.l0 k L L (i : Int)) true := by
  intro d
  induction d with
  | zero =>
    intro i hi
    refine Ev.end_ (fun k => ?_)
    simp only [laws_eqSpanS.l0]
    rw [if_neg (by omega)]
  | succ d ih =>
    intro i hi
    refine Ev.cut (f := fun k => laws_eqSpanS.l0 k L L ((i + 1 : Nat) : Int)) (ih (i + 1) (by omega)) (fun k => ?_)
    simp only [laws_eqSpanS.l0]
    rw [if_pos (by omega), if_pos (by omega), if_pos (by omega), wsucc i (by omega)]
    simp [laws_eqSpan.f]
theorem laws_eqSpanS_refl (L : List S26) (hL : L.length < 4611686018427387904) : Ev (fun k => laws_eqSpanS.f k L L) true := by
  unfold laws_eqSpanS.f
  simp only [if_true]
  exact laws_eqSpanS_l L hL L.length 0 (by omega)
theorem laws_szSpanS_is (L : List S24) (hL : L.length ≤ maxLen) : laws_szSpanS.f L 1048576 = some (if (L.length : Int) ≤ 1048576 then 1048576 - (L.length : Int) else -1) := by
  have hm : maxLen = 9223372036854775807 := rfl
  unfold laws_szSpanS.f
  rw [wid (by omega) (by omega)]
  split <;> split <;> first | rfl | (exfalso; omega)


theorem FnExactSpansOk (l0 : List S24) (hm0 : l0.length ≤ maxLen) (hw0 : ∀ x ∈ l0, (Lit.int .i64 x.f0).wf = true ∧ (Lit.int .i64 x.f1).wf = true) : ∃ k, laws_FnExactSpansOk.f k l0 = some true := by
  by_cases hs : (l0.length : Int) ≤ 1048576
  · refine Ev.rounds (r := true) (g := fun k => laws_FnExactSpansOk.f k l0) ?_
    unfold laws_FnExactSpansOk.f
    simp only [laws_szSpanS_is l0 hm0, if_pos hs, Option.bind_some, if_neg (show ¬ (1048576 - (l0.length : Int) < 0) by omega)]
    have hl : (l0.map spConv).length < 4611686018427387904 := by simp; omega
    obtain ⟨b, hb, hi⟩ := spec_SpansOk_is (l0.map spConv) hl
    obtain ⟨c, hc, hj⟩ := impl_SpansOk_is (l0.map spConv) hl
    obtain rfl : c = b := by rw [Bool.eq_iff_iff, hi, hj]
    have ht := laws_toSpanS_is l0 (by omega)
    refine Ev.bind ht (Ev.bind hb (Ev.bind ht (Ev.bind hc ?_)))
    simp only [bne_self_eq_false]
    exact Ev.bind ht (Ev.bind (laws_eqSpanS_refl _ hl) (Ev.all fun k => rfl))
  · refine ⟨0, ?_⟩
    unfold laws_FnExactSpansOk.f
    rw [laws_szSpanS_is l0 hm0, if_neg hs]
    rfl

end Go.Proofs.Ytdbmipnbcbhcnaa.Pure
