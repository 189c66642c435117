/- The law FnLayBent over numbers and lists, as the program's text computes it: it answers true. Conditions: the arguments are of their kinds, lengths fit. -/
import Derived.Test.YtmiknhlogpoikaaQx13
import Derived.OpenShut
import Derived.Laws.Strings
namespace Go.Proofs.Ytmiknhlogpoikaa.Pure
open Go.RowKit Go.Proofs.Ytmiknhlogpoikaa.Q Go.Proofs.YtmiknhlogpoikaaW.PrintWords Go.Proofs.YtmiknhlogpoikaaW.PrintLast
set_option linter.unusedVariables false
set_option linter.unusedSimpArgs false

/-! Words for the pure side: strings as lists of bytes, counters as natural numbers, what is answered from some round on. -/
def B (s : ByteArray) : List UInt8 := s.data.toList
theorem B_size (s : ByteArray) : s.size = (B s).length := (Array.length_toList).symm
theorem B_toList (s : ByteArray) : s.toList = B s := Go.ByteArray.toList_eq s
theorem B_inj {s t : ByteArray} (h : B s = B t) : s = t := by
  cases s; cases t
  simp only [B] at h
  congr 1
  exact Array.ext' h
theorem B_app (s t : ByteArray) : B (s ++ t) = B s ++ B t := by simp [B, ByteArray.data_append]
theorem app_size (s t : ByteArray) : (s ++ t).size = s.size + t.size := by rw [B_size, B_app, List.length_append, ← B_size, ← B_size]
theorem B_ext (s : ByteArray) (i j : Nat) : B (s.extract i j) = ((B s).take j).drop i := by
  simp [B, ByteArray.data_extract, List.extract_eq_take_drop, List.drop_take]
theorem B_nil : B (⟨#[]⟩ : ByteArray) = [] := rfl
theorem bt_B (s : ByteArray) (i : Nat) (h : i < (B s).length) : bt s (i : Int) = (((B s)[i]'h).toNat : Int) := by
  have h' : (i : Int).toNat < s.size := by rw [B_size]; simpa using h
  unfold bt
  rw [dif_pos h']
  rfl
theorem wsucc (i : Nat) (h : i < 4611686018427387904) : wrap64 ((i : Int) + 1) = ((i + 1 : Nat) : Int) := by unfold wrap64; omega
theorem wpred (i : Nat) (h : i < 4611686018427387904) (h0 : 0 < i) : wrap64 ((i : Int) - 1) = ((i - 1 : Nat) : Int) := by unfold wrap64; omega
theorem wid {x : Int} (h0 : -9223372036854775808 ≤ x) (h1 : x ≤ 9223372036854775807) : wrap64 x = x := by unfold wrap64; omega
theorem Ev.cut {α : Type} {g f : Nat → Option α} {r : α} (k : Ev f r) (h : ∀ k, g (k + 1) = f k) : Ev g r := Ev.step h k
theorem Ev.end_ {α : Type} {g : Nat → Option α} {r : α} (h : ∀ k, g (k + 1) = some r) : Ev g r := Ev.step h (Ev.now r)
theorem Ev.all {α : Type} {g : Nat → Option α} {r : α} (h : ∀ k, g k = some r) : Ev g r := ⟨0, fun k _ => h k⟩
theorem Ev.uniq {α : Type} {g : Nat → Option α} {r q : α} (h : Ev g r) (h' : Ev g q) : r = q := by
  obtain ⟨K, h⟩ := h
  obtain ⟨K', h'⟩ := h'
  have h1 := h (max K K') (by omega)
  rw [h' (max K K') (by omega)] at h1
  exact (Option.some.inj h1).symm
theorem dec_eq {p q : Prop} [Decidable p] [Decidable q] (h : p ↔ q) : (some (decide p) : Option Bool) = some (decide q) := by rw [decide_eq_decide.2 h]
theorem dec_false {q : Prop} [Decidable q] (h : ¬ q) : (some false : Option Bool) = some (decide q) := by rw [decide_eq_false h]
theorem dec_true {q : Prop} [Decidable q] (h : q) : (some true : Option Bool) = some (decide q) := by rw [decide_eq_true h]

def mkB (L : List UInt8) : ByteArray := ⟨L.toArray⟩
theorem B_mkB (L : List UInt8) : B (mkB L) = L := by simp [B, mkB]
theorem eq_mkB {r : ByteArray} {X : List UInt8} (h : B r = X) : r = mkB X := B_inj (by rw [h, B_mkB])
theorem mkB_B (s : ByteArray) : mkB (B s) = s := (eq_mkB rfl).symm
theorem mkB_size (L : List UInt8) : (mkB L).size = L.length := by rw [B_size, B_mkB]

/-! Ranges, valid. -/
def spOk (a b : Int) : Bool := decide (0 ≤ a ∧ a < b ∧ b ≤ 48)
theorem impl_SpanOk_is (a b : Int) : impl_SpanOk.f a b = some (spOk a b) := by
  unfold impl_SpanOk.f spOk
  repeat' split
  all_goals first | exact dec_eq (by omega) | exact dec_false (by omega)

/-! Layouts, valid. -/
def laOk (a b : Int) : Bool := decide (1 ≤ a ∧ a ≤ 8 ∧ 1 ≤ b ∧ b ≤ 3)
theorem spec_LayOk_is (a b : Int) : spec_LayOk.f a b = some (laOk a b) := by
  unfold spec_LayOk.f laOk
  repeat' split
  all_goals first | exact dec_eq (by omega) | exact dec_false (by omega)
theorem impl_LayOk_is (a b : Int) : impl_LayOk.f a b = some (laOk a b) := by
  unfold impl_LayOk.f laOk
  repeat' split
  all_goals first | exact dec_eq (by omega) | exact dec_false (by omega)

/-! Where a place lies. -/
def lAt (l m p : Int) : Int × Int := (p / l % m, p / l / m * l + p % l)
theorem lAt_bounds {l m p : Int} (hl : 1 ≤ l) (hl8 : l ≤ 8) (hm : 1 ≤ m) (hm3 : m ≤ 3) (h0 : 0 ≤ p) (h1 : p < 100) : 0 ≤ (lAt l m p).1 ∧ (lAt l m p).1 < m ∧ 0 ≤ (lAt l m p).2 ∧ (lAt l m p).2 ≤ p := by
  have hq0 : 0 ≤ p / l := Int.ediv_nonneg h0 (by omega)
  have e1 : p / l * l + p % l = p := by rw [Int.mul_comm]; exact Int.mul_ediv_add_emod p l
  have r0 : 0 ≤ p % l := Int.emod_nonneg _ (by omega)
  have hq2 : 0 ≤ p / l / m := Int.ediv_nonneg hq0 (by omega)
  have hq3 : p / l / m ≤ p / l := Int.ediv_le_self _ hq0
  refine ⟨Int.emod_nonneg _ (by omega), Int.emod_lt_of_pos _ (by omega), ?_, ?_⟩
  · exact Int.add_nonneg (Int.mul_nonneg hq2 (by omega)) r0
  · have := Int.mul_le_mul_of_nonneg_right hq3 (show 0 ≤ l by omega)
    show p / l / m * l + p % l ≤ p
    omega
theorem lAt_words {l m p : Int} (hl : 1 ≤ l) (hl8 : l ≤ 8) (hm : 1 ≤ m) (hm3 : m ≤ 3) (h0 : 0 ≤ p) (h1 : p < 100) :
    Int.tmod (wrap64 (Int.tdiv p l)) m = (lAt l m p).1 ∧ wrap64 ((wrap64 ((wrap64 (Int.tdiv (wrap64 (Int.tdiv p l)) m)) * l)) + (Int.tmod p l)) = (lAt l m p).2 := by
  have hq0 : 0 ≤ p / l := Int.ediv_nonneg h0 (by omega)
  have hqp : p / l ≤ p := Int.ediv_le_self _ h0
  have hq2 : 0 ≤ p / l / m := Int.ediv_nonneg hq0 (by omega)
  have hq3 : p / l / m ≤ p / l := Int.ediv_le_self _ hq0
  have r0 : 0 ≤ p % l := Int.emod_nonneg _ (by omega)
  have r1 : p % l < l := Int.emod_lt_of_pos _ (by omega)
  have m0 : 0 ≤ p / l / m * l := Int.mul_nonneg hq2 (by omega)
  have m1 : p / l / m * l ≤ 100 * 8 := Int.mul_le_mul (by omega) hl8 (by omega) (by omega)
  rw [Int.tdiv_eq_ediv_of_nonneg h0, wid (x := p / l) (by omega) (by omega), Int.tmod_eq_emod_of_nonneg hq0, Int.tdiv_eq_ediv_of_nonneg hq0, wid (x := p / l / m) (by omega) (by omega), wid (x := p / l / m * l) (by omega) (by omega), Int.tmod_eq_emod_of_nonneg h0, wid (by omega) (by omega)]
  exact ⟨rfl, rfl⟩
def lyAt (l m p : Int) : Int × Int := if laOk l m = true ∧ 0 ≤ p ∧ p < 48 then lAt l m p else (-1, -1)
theorem impl_LayAt_is (l m p : Int) : impl_LayAt.f l m p = some (lyAt l m p) := by
  unfold impl_LayAt.f lyAt
  rw [impl_LayOk_is]
  cases h : laOk l m with
  | false => simp
  | true =>
    have h' := of_decide_eq_true h
    simp only [Option.bind_some, if_true]
    by_cases h0 : p < 0
    · rw [if_pos h0, if_neg (by omega)]
    · rw [if_neg h0]
      by_cases h1 : p ≥ 48
      · rw [if_pos h1, if_neg (by omega)]
      · obtain ⟨e1, e2⟩ := lAt_words (l := l) (m := m) (p := p) (by omega) (by omega) (by omega) (by omega) (by omega) (by omega)
        rw [if_neg h1, if_neg (show ¬ l = 0 by omega), if_neg (show ¬ m = 0 by omega), e1, e2, if_pos ⟨trivial, by omega, by omega⟩]

/-! Files, valid. -/
def cOk (c : UInt8) : Bool := decide (c.toNat = 46 ∨ (97 ≤ c.toNat ∧ c.toNat ≤ 122) ∨ (48 ≤ c.toNat ∧ c.toNat ≤ 57))
def tOk (l : List UInt8) : Bool := l.all cOk && decide (l.length ≤ 48)
theorem all_drop (l : List UInt8) (i : Nat) (h : i < l.length) : (l.drop i).all cOk = (cOk l[i] && (l.drop (i + 1)).all cOk) := by
  rw [List.drop_eq_getElem_cons h, List.all_cons]
theorem impl_TextOk_l (s : ByteArray) (hs : s.size < 4611686018427387904) : ∀ (d i : Nat), i + d = (B s).length → Ev (fun k => impl_TextOk.l0 k s (s.size : Int) (i : Int)) ((((B s).drop i).all cOk) && decide ((B s).length ≤ 48)) := by
  have hz : (s.size : Int) = ((B s).length : Int) := by rw [B_size]
  have hs' : (B s).length < 4611686018427387904 := by rw [← B_size]; exact hs
  intro d
  induction d with
  | zero =>
    intro i hi
    refine Ev.end_ (fun k => ?_)
    simp only [impl_TextOk.l0]
    rw [hz, if_neg (by omega), List.drop_of_length_le (by omega)]
    simp
    omega
  | succ d ih =>
    intro i hi
    have hlt : i < (B s).length := by omega
    have hr : (((B s).drop i).all cOk) = (cOk ((B s)[i]) && ((B s).drop (i + 1)).all cOk) := all_drop _ _ hlt
    rw [hr]
    cases hc : cOk ((B s)[i]) with
    | true =>
      have hc' := of_decide_eq_true hc
      refine Ev.cut (f := fun k => impl_TextOk.l0 k s (s.size : Int) ((i + 1 : Nat) : Int)) ?_ (fun k => ?_)
      · simpa using ih (i + 1) (by omega)
      · simp only [impl_TextOk.l0]
        rw [if_pos (by omega), if_pos (by omega), if_pos (by omega), bt_B s i hlt, wsucc i (by omega)]
        repeat' split
        all_goals first | rfl | (exfalso; omega)
    | false =>
      have hc' := of_decide_eq_false hc
      refine Ev.end_ (fun k => ?_)
      simp only [impl_TextOk.l0]
      rw [if_pos (by omega), if_pos (by omega), if_pos (by omega), bt_B s i hlt]
      simp only [Bool.false_and]
      repeat' split
      all_goals first | rfl | (exfalso; omega)
theorem impl_TextOk_is (s : ByteArray) (hs : s.size < 4611686018427387904) : Ev (fun k => impl_TextOk.f k s) (tOk (B s)) := by
  have h := impl_TextOk_l s hs (B s).length 0 (by omega)
  simpa [impl_TextOk.f, tOk] using h

theorem tOk_len {L : List UInt8} (h : tOk L = true) : L.length ≤ 48 := by
  simp [tOk] at h
  exact h.2

/-! Which place lies there. -/
def lBack (l m o a : Int) : Int := (a / l * m + o) * l + a % l
theorem lBack_bounds {l m o a : Int} (hl : 1 ≤ l) (hl8 : l ≤ 8) (hm : 1 ≤ m) (hm3 : m ≤ 3) (ho : 0 ≤ o) (ho3 : o < 3) (h0 : 0 ≤ a) (h1 : a < 100) : 0 ≤ lBack l m o a ∧ lBack l m o a ≤ 5000 := by
  have hq0 : 0 ≤ a / l := Int.ediv_nonneg h0 (by omega)
  have hqa : a / l ≤ a := Int.ediv_le_self _ h0
  have r0 : 0 ≤ a % l := Int.emod_nonneg _ (by omega)
  have r1 : a % l < l := Int.emod_lt_of_pos _ (by omega)
  have m0 : 0 ≤ a / l * m := Int.mul_nonneg hq0 (by omega)
  have m1 : a / l * m ≤ 100 * 3 := Int.mul_le_mul (by omega) hm3 (by omega) (by omega)
  have p0 : 0 ≤ (a / l * m + o) * l := Int.mul_nonneg (by omega) (by omega)
  have p1 : (a / l * m + o) * l ≤ 303 * 8 := Int.mul_le_mul (by omega) hl8 (by omega) (by omega)
  unfold lBack
  omega
theorem lBack_words {l m o a : Int} (hl : 1 ≤ l) (hl8 : l ≤ 8) (hm : 1 ≤ m) (hm3 : m ≤ 3) (ho : 0 ≤ o) (ho3 : o < 3) (h0 : 0 ≤ a) (h1 : a < 100) :
    wrap64 ((wrap64 ((wrap64 ((wrap64 ((wrap64 (Int.tdiv a l)) * m)) + o)) * l)) + (Int.tmod a l)) = lBack l m o a := by
  have hq0 : 0 ≤ a / l := Int.ediv_nonneg h0 (by omega)
  have hqa : a / l ≤ a := Int.ediv_le_self _ h0
  have r0 : 0 ≤ a % l := Int.emod_nonneg _ (by omega)
  have r1 : a % l < l := Int.emod_lt_of_pos _ (by omega)
  have m0 : 0 ≤ a / l * m := Int.mul_nonneg hq0 (by omega)
  have m1 : a / l * m ≤ 100 * 3 := Int.mul_le_mul (by omega) hm3 (by omega) (by omega)
  have p0 : 0 ≤ (a / l * m + o) * l := Int.mul_nonneg (by omega) (by omega)
  have p1 : (a / l * m + o) * l ≤ 303 * 8 := Int.mul_le_mul (by omega) hl8 (by omega) (by omega)
  rw [Int.tdiv_eq_ediv_of_nonneg h0, wid (x := a / l) (by omega) (by omega), wid (x := a / l * m) (by omega) (by omega), wid (x := a / l * m + o) (by omega) (by omega), wid (x := (a / l * m + o) * l) (by omega) (by omega), Int.tmod_eq_emod_of_nonneg h0, wid (by omega) (by omega)]
  rfl

theorem impl_back_is {l m o a : Int} (hl : 1 ≤ l) (hl8 : l ≤ 8) (hm : 1 ≤ m) (hm3 : m ≤ 3) (ho : 0 ≤ o) (ho3 : o < 3) (h0 : 0 ≤ a) (h1 : a < 100) : impl_back.f l m o a = some (lBack l m o a) := by
  unfold impl_back.f
  rw [if_neg (by omega), lBack_words hl hl8 hm hm3 ho ho3 h0 h1]

def lyBack (l m o a : Int) : Int := if laOk l m = true ∧ 0 ≤ o ∧ o < m ∧ 0 ≤ a ∧ a < 48 ∧ lBack l m o a < 48 then lBack l m o a else -1
theorem impl_LayBack_is (l m o a : Int) : impl_LayBack.f l m o a = some (lyBack l m o a) := by
  unfold impl_LayBack.f lyBack
  rw [impl_LayOk_is]
  cases h : laOk l m with
  | false => simp
  | true =>
    have h' := of_decide_eq_true h
    simp only [Option.bind_some, if_true]
    by_cases c1 : o < 0
    · rw [if_pos c1, if_neg (by omega)]
    rw [if_neg c1]
    by_cases c2 : o ≥ m
    · rw [if_pos c2, if_neg (by omega)]
    rw [if_neg c2]
    by_cases c3 : a < 0
    · rw [if_pos c3, if_neg (by omega)]
    rw [if_neg c3]
    by_cases c4 : a ≥ 48
    · rw [if_pos c4, if_neg (by omega)]
    rw [if_neg c4, impl_back_is (by omega) (by omega) (by omega) (by omega) (by omega) (by omega) (by omega) (by omega), Option.bind_some]
    by_cases c5 : lBack l m o a ≥ 48
    · rw [if_pos c5, if_neg (by omega)]
    · rw [if_neg c5, Option.bind_some, if_pos ⟨trivial, by omega, by omega, by omega, by omega, by omega⟩]

/-! How long a file is. -/
def lmax (l m : Int) : Int → List Int → Int → Int
  | _, [], acc => acc
  | i, n :: r, acc => lmax l m (i + 1) r (if n > 0 then mx acc (lBack l m i (n - 1) + 1) else acc)
def lens (L : List Int) : Bool := L.all fun n => decide (0 ≤ n ∧ n ≤ 48)
def lyLong (l m : Int) (L : List Int) : Int := if laOk l m = true ∧ (L.length : Int) = m ∧ lens L = true then (if lmax l m 0 L 0 > 48 then -1 else lmax l m 0 L 0) else -1
theorem rd_nat (L : List Int) (i : Nat) : rd L (i : Int) = L.getD i 0 := rfl
theorem drop_rd (L : List Int) (i : Nat) (h : i < L.length) : L.drop i = L.getD i 0 :: L.drop (i + 1) := by
  rw [List.drop_eq_getElem_cons h, List.getD_eq_getElem?_getD, List.getElem?_eq_getElem h]
  rfl
theorem lmax_stepb {l m : Int} {i : Nat} {n acc : Int} (hl : 1 ≤ l) (hl8 : l ≤ 8) (hm : 1 ≤ m) (hm3 : m ≤ 3) (hi : (i : Int) < m) (h0 : 0 ≤ n) (h1 : n ≤ 48) (a0 : 0 ≤ acc) (a1 : acc ≤ 10000) :
    0 ≤ (if n > 0 then mx acc (lBack l m i (n - 1) + 1) else acc) ∧ (if n > 0 then mx acc (lBack l m i (n - 1) + 1) else acc) ≤ 10000 := by
  split
  · have := lBack_bounds (l := l) (m := m) (o := i) (a := n - 1) hl hl8 hm hm3 (by omega) (by omega) (by omega) (by omega)
    unfold mx
    split <;> omega
  · omega
theorem lens_drop (L : List Int) (i : Nat) (h : i < L.length) : lens (L.drop i) = (decide (0 ≤ L.getD i 0 ∧ L.getD i 0 ≤ 48) && lens (L.drop (i + 1))) := by
  rw [drop_rd L i h]
  rfl
theorem lens_short (L : List Int) (i : Nat) (h : ¬ i < L.length) : lens (L.drop i) = true := by rw [List.drop_of_length_le (by omega)]; rfl

theorem impl_LayLong_l {l m : Int} (hl : 1 ≤ l) (hl8 : l ≤ 8) (hm : 1 ≤ m) (hm3 : m ≤ 3) (L : List Int) (hL : (L.length : Int) = m) : ∀ (d i : Nat) (acc : Int), i + d = L.length → 0 ≤ acc → acc ≤ 10000 →
    Ev (fun k => impl_LayLong.l0 k acc L (L.length : Int) (i : Int) l m) (if lens (L.drop i) = true then (if lmax l m i (L.drop i) acc > 48 then -1 else lmax l m i (L.drop i) acc) else -1) := by
  intro d
  induction d with
  | zero =>
    intro i acc hi h0 h1
    rw [lens_short L i (by omega), if_pos rfl, List.drop_of_length_le (by omega)]
    refine Ev.end_ (fun k => ?_)
    simp only [impl_LayLong.l0]
    rw [if_neg (by omega)]
    unfold lmax
    split <;> rfl
  | succ d ih =>
    intro i acc hi h0 h1
    have hlt : i < L.length := by omega
    rw [lens_drop L i hlt]
    by_cases hn : 0 ≤ L.getD i 0 ∧ L.getD i 0 ≤ 48
    · rw [decide_eq_true hn, Bool.true_and, drop_rd L i hlt]
      have hs := lmax_stepb (i := i) hl hl8 hm hm3 (by omega) hn.1 hn.2 h0 h1
      refine Ev.cut (f := fun k => impl_LayLong.j2 k acc (i : Int) (L.getD i 0) L (L.length : Int) (i : Int) false l m) (Ev.cut (f := fun k => impl_LayLong.l0 k (if L.getD i 0 > 0 then mx acc (lBack l m i (L.getD i 0 - 1) + 1) else acc) L (L.length : Int) ((i + 1 : Nat) : Int) l m) (ih (i + 1) _ (by omega) hs.1 hs.2) (fun k => ?_)) (fun k => ?_)
      · simp only [impl_LayLong.j2]
        rw [if_neg (by simp), wsucc i (by omega)]
        by_cases hp : L.getD i 0 > 0
        · have := lBack_bounds (l := l) (m := m) (o := i) (a := L.getD i 0 - 1) hl hl8 hm hm3 (by omega) (by omega) (by omega) (by omega)
          rw [if_pos hp, if_pos hp, wid (x := L.getD i 0 - 1) (by omega) (by omega), impl_back_is hl hl8 hm hm3 (by omega) (by omega) (by omega) (by omega), Option.bind_some, wid (by omega) (by omega)]
        · rw [if_neg hp, if_neg hp]
      · simp only [impl_LayLong.l0]
        rw [if_pos (by omega), if_pos (by omega), if_pos (by omega), rd_nat, if_neg (by omega), decide_eq_false (show ¬ L.getD i 0 > 48 by omega)]
    · rw [decide_eq_false hn, Bool.false_and, if_neg (by simp)]
      refine Ev.cut (f := fun k => impl_LayLong.j2 k acc (i : Int) (L.getD i 0) L (L.length : Int) (i : Int) true l m) (Ev.end_ (fun k => ?_)) (fun k => ?_)
      · simp only [impl_LayLong.j2]
        rw [if_pos trivial]
      · simp only [impl_LayLong.l0]
        rw [if_pos (by omega), if_pos (by omega), if_pos (by omega), rd_nat]
        by_cases h2 : L.getD i 0 < 0
        · rw [if_pos h2]
        · rw [if_neg h2, decide_eq_true (show L.getD i 0 > 48 by omega)]
theorem impl_LayLong_is (l m : Int) (L : List Int) : Ev (fun k => impl_LayLong.f k l m L) (lyLong l m L) := by
  unfold impl_LayLong.f lyLong
  rw [impl_LayOk_is]
  cases h : laOk l m with
  | false => exact Ev.end_ (fun k => by simp [impl_LayLong.j0])
  | true =>
    have h' := of_decide_eq_true h
    simp only [Option.bind_some, if_true]
    by_cases hL : (L.length : Int) = m
    · refine Ev.cut (f := fun k => impl_LayLong.l0 k 0 L (L.length : Int) ((0 : Nat) : Int) l m) ?_ (fun k => by simp [impl_LayLong.j0, hL])
      have hh := impl_LayLong_l (l := l) (m := m) (by omega) (by omega) (by omega) (by omega) L hL L.length 0 0 (by omega) (by omega) (by omega)
      simpa [hL] using hh
    · exact Ev.end_ (fun k => by simp [impl_LayLong.j0, hL])

theorem one_size (s : ByteArray) (i : Nat) : (s.extract i (i + 1)).size ≤ 1 := by
  rw [B_size, B_ext, List.length_drop, List.length_take]
  omega

/-! A file, dealt to its objects. -/
def deal (l m : Int) (s : ByteArray) (out : List ByteArray) (i : Nat) : List ByteArray := out.set (lAt l m i).1.toNat (rdOf ByteArray.empty out (lAt l m i).1 ++ s.extract i (i + 1))
def lyOf (l m : Int) (s : ByteArray) : List ByteArray := if laOk l m = true ∧ tOk (B s) = true then (List.range' 0 s.size).foldl (deal l m s) (List.replicate m.toNat (⟨#[]⟩ : ByteArray)) else []
theorem deal_length (l m : Int) (s : ByteArray) (out : List ByteArray) (i : Nat) : (deal l m s out i).length = out.length := by simp [deal]
theorem rdOf_size {out : List ByteArray} {i n : Nat} (h : ∀ x ∈ out, x.size ≤ n) : (rdOf ByteArray.empty out (i : Int)).size ≤ n := by
  unfold rdOf
  rw [show (i : Int).toNat = i from rfl, List.getD_eq_getElem?_getD]
  cases e : out[i]? with
  | none => simp
  | some x => exact h x (List.mem_of_getElem? e)
theorem deal_sizes {l m : Int} {s : ByteArray} {out : List ByteArray} {i : Nat} (h : ∀ x ∈ out, x.size ≤ i) (h0 : 0 ≤ (lAt l m i).1) : ∀ x ∈ deal l m s out i, x.size ≤ i + 1 := by
  intro x hx
  unfold deal at hx
  rcases List.mem_or_eq_of_mem_set hx with hx | rfl
  · exact Nat.le_succ_of_le (h x hx)
  · have h1 := one_size s i
    have h2 := rdOf_size (i := (lAt l m i).1.toNat) h
    rw [Int.toNat_of_nonneg h0] at h2
    rw [B_size, B_app, List.length_append, ← B_size, ← B_size]
    omega
theorem impl_LayOf_l0 {l m : Int} (hl : 1 ≤ l) (hl8 : l ≤ 8) (hm : 1 ≤ m) (hm3 : m ≤ 3) (s : ByteArray) (hs : s.size ≤ 48) : ∀ (d i : Nat) (out : List ByteArray), i + d = s.size → (out.length : Int) = m → (∀ x ∈ out, x.size ≤ i) →
    Ev (fun k => impl_LayOf.l0 k s out (s.size : Int) (i : Int) l m) ((List.range' i d).foldl (deal l m s) out) := by
  have ho : laOk l m = true := decide_eq_true ⟨hl, hl8, hm, hm3⟩
  intro d
  induction d with
  | zero =>
    intro i out hi hm' hx
    refine Ev.end_ (fun k => ?_)
    simp only [impl_LayOf.l0]
    rw [if_neg (by omega)]
    rfl
  | succ d ih =>
    intro i out hi hm' hx
    obtain ⟨b1, b2, b3, b4⟩ := lAt_bounds (l := l) (m := m) (p := i) hl hl8 hm hm3 (by omega) (by omega)
    have z1 := one_size s i
    have z2 := rdOf_size (i := (lAt l m i).1.toNat) hx
    rw [Int.toNat_of_nonneg b1] at z2
    rw [List.range'_succ, List.foldl_cons]
    refine Ev.cut (f := fun k => impl_LayOf.l0 k s (deal l m s out i) (s.size : Int) ((i + 1 : Nat) : Int) l m) (ih (i + 1) _ (by omega) (by rw [deal_length]; exact hm') (deal_sizes hx b1)) (fun k => ?_)
    simp only [impl_LayOf.l0]
    have hy : lyAt l m (i : Int) = lAt l m (i : Int) := if_pos ⟨ho, by omega, by omega⟩
    rw [if_pos (by omega), impl_LayAt_is, hy]
    simp only [Option.bind_some]
    rw [if_pos b1, if_pos (by omega), if_pos (by omega), wsucc i (by omega), if_pos (by omega), if_pos (by omega), if_pos ?_]
    · rfl
    · show (rdOf ByteArray.empty out (lAt l m i).1).size + (s.extract i (i + 1)).size ≤ _
      omega
theorem impl_LayOf_is (l m : Int) (s : ByteArray) (hz : s.size < 4611686018427387904) : Ev (fun k => impl_LayOf.f k l m s) (lyOf l m s) := by
  unfold impl_LayOf.f lyOf
  simp only [impl_LayOk_is, Option.bind_some]
  cases h : laOk l m with
  | false => exact Ev.end_ (fun k => by simp [impl_LayOf.j0])
  | true =>
    have h' := of_decide_eq_true h
    simp only [if_true]
    refine Ev.bind (impl_TextOk_is s hz) ?_
    cases ht : tOk (B s) with
    | false => exact Ev.end_ (fun k => by simp [impl_LayOf.j0])
    | true =>
      have hs : s.size ≤ 48 := by rw [B_size]; simp [tOk] at ht; exact ht.2
      simp only [true_and, if_true]
      refine Ev.cut (f := fun k => impl_LayOf.l0 k s (List.replicate m.toNat (⟨#[]⟩ : ByteArray)) (s.size : Int) ((0 : Nat) : Int) l m) (impl_LayOf_l0 (by omega) (by omega) (by omega) (by omega) s hs s.size 0 _ (by omega) (by simp; omega) (fun x hx => by rw [List.eq_of_mem_replicate hx]; exact Nat.le_refl _)) (fun k => ?_)
      simp only [impl_LayOf.j0]
      rw [if_neg (by simp), if_pos (by omega), if_pos (by omega)]
      rfl
theorem lyOf_small (l m : Int) (s : ByteArray) : (lyOf l m s).length ≤ 3 := by
  unfold lyOf
  split
  · rename_i h
    have h' := of_decide_eq_true h.1
    have : ∀ (L : List Nat) (out : List ByteArray), (L.foldl (deal l m s) out).length = out.length := by
      intro L
      induction L with
      | nil => intro out; rfl
      | cons a L ih => intro out; rw [List.foldl_cons, ih, deal_length]
    rw [this]
    simp
    omega
  · simp

theorem rdOf_mem (l : List ByteArray) (i : Int) (h0 : 0 ≤ i) (h1 : i < (l.length : Int)) : rdOf ByteArray.empty l i ∈ l := by
  unfold rdOf
  rw [List.getD_eq_getElem?_getD, List.getElem?_eq_getElem (by omega)]
  exact List.getElem_mem _

/-! A file out of its objects. -/
def olens (objs : List ByteArray) : List Int := objs.map fun s => (s.size : Int)
def byteAt (l m : Int) (objs : List ByteArray) (i : Nat) : UInt8 := (B (rdOf ByteArray.empty objs (lAt l m i).1)).getD (lAt l m i).2.toNat 46
def lyText (l m : Int) (objs : List ByteArray) : List UInt8 × Bool :=
  if (∀ s ∈ objs, tOk (B s) = true) then (if lyLong l m (olens objs) < 0 then ([], false) else ((List.range (lyLong l m (olens objs)).toNat).map (byteAt l m objs), true)) else ([], false)
theorem lyLong_ok {l m : Int} {L : List Int} (h : ¬ lyLong l m L < 0) : laOk l m = true ∧ (L.length : Int) = m ∧ lens L = true ∧ lyLong l m L ≤ 48 ∧ 0 ≤ lyLong l m L ∧ lyLong l m L = lmax l m 0 L 0 := by
  unfold lyLong at h ⊢
  split at h
  · rename_i hc
    rw [if_pos hc]
    split at h
    · omega
    · rename_i h2
      rw [if_neg h2]
      exact ⟨hc.1, hc.2.1, hc.2.2, by omega, by omega, rfl⟩
  · omega
theorem range_map_succ (f : Nat → UInt8) (i : Nat) : (List.range (i + 1)).map f = (List.range i).map f ++ [f i] := by rw [List.range_succ, List.map_append]; rfl
theorem take_olens (objs : List ByteArray) (i : Nat) (h : i < objs.length) : olens (objs.take (i + 1)) = olens (objs.take i) ++ [((objs.getD i ByteArray.empty).size : Int)] := by
  unfold olens
  rw [List.take_succ_eq_append_getElem h, List.map_append, List.getD_eq_getElem?_getD, List.getElem?_eq_getElem h]
  rfl

theorem impl_LayText_l1 {l m : Int} (hl : 1 ≤ l) (hl8 : l ≤ 8) (hm : 1 ≤ m) (hm3 : m ≤ 3) (objs : List ByteArray) (hob : (objs.length : Int) = m) (n : Nat) (hn : n ≤ 48) : ∀ (d i : Nat), i + d = n →
    Ev (fun k => impl_LayText.l1 k objs ((List.range i).map fun j => ((byteAt l m objs j).toNat : Int)) (n : Int) (i : Int) l m) (mkB ((List.range n).map (byteAt l m objs)), true) := by
  have ho : laOk l m = true := decide_eq_true ⟨hl, hl8, hm, hm3⟩
  intro d
  induction d with
  | zero =>
    intro i hi
    refine Ev.end_ (fun k => ?_)
    simp only [impl_LayText.l1]
    rw [if_neg (by omega)]
    obtain rfl : i = n := by omega
    congr 2
    refine eq_mkB ?_
    show (((List.range i).map fun j => ((byteAt l m objs j).toNat : Int)).map fun n => UInt8.ofNat n.toNat).toArray.toList = _
    rw [List.map_map]
    simp
  | succ d ih =>
    intro i hi
    obtain ⟨b1, b2, b3, b4⟩ := lAt_bounds (l := l) (m := m) (p := i) hl hl8 hm hm3 (by omega) (by omega)
    have hy : lyAt l m (i : Int) = lAt l m (i : Int) := if_pos ⟨ho, by omega, by omega⟩
    have hr : ((List.range (i + 1)).map fun j => ((byteAt l m objs j).toNat : Int)) = ((List.range i).map fun j => ((byteAt l m objs j).toNat : Int)) ++ [((byteAt l m objs i).toNat : Int)] := by rw [List.range_succ, List.map_append]; rfl
    have h := ih (i + 1) (by omega)
    rw [hr] at h
    refine Ev.cut h (fun k => ?_)
    simp only [impl_LayText.l1]
    rw [if_pos (by omega), impl_LayAt_is, hy]
    simp only [Option.bind_some]
    rw [if_pos b1, if_pos (by omega)]
    by_cases hlt : (lAt l m i).2 < ((rdOf ByteArray.empty objs (lAt l m i).1).size : Int)
    · have e : bt (rdOf ByteArray.empty objs (lAt l m i).1) (lAt l m i).2 = ((byteAt l m objs i).toNat : Int) := by
        unfold byteAt
        generalize rdOf ByteArray.empty objs (lAt l m i).1 = o at hlt
        have hl2 : (lAt l m i).2.toNat < (B o).length := by rw [← B_size]; omega
        have hb := bt_B o (lAt l m i).2.toNat hl2
        rw [Int.toNat_of_nonneg b3] at hb
        rw [hb, List.getD_eq_getElem?_getD, List.getElem?_eq_getElem hl2]
        rfl
      rw [if_pos hlt, if_pos b3, if_pos (by simp; omega), wsucc i (by omega), e]
    · have e : (46 : Int) = ((byteAt l m objs i).toNat : Int) := by
        unfold byteAt
        rw [List.getD_eq_getElem?_getD, List.getElem?_eq_none (by rw [← B_size]; omega)]
        rfl
      rw [if_neg hlt, if_pos (by simp; omega), wsucc i (by omega), ← e]
theorem impl_LayText_l0 (l m : Int) (objs : List ByteArray) (hol : objs.length ≤ 2000000) (hos : ∀ s ∈ objs, s.size < 4611686018427387904) : ∀ (d i : Nat), i + d = objs.length → (∀ s ∈ objs.take i, tOk (B s) = true) →
    Ev (fun k => impl_LayText.l0 k objs (olens (objs.take i)) objs (objs.length : Int) (i : Int) l m) (mkB (lyText l m objs).1, (lyText l m objs).2) := by
  intro d
  induction d with
  | zero =>
    intro i hi hp
    rw [List.take_of_length_le (by omega)] at hp
    have hll := impl_LayLong_is l m (olens objs)
    unfold lyText
    rw [if_pos hp]
    refine Ev.cut (f := fun k => (impl_LayLong.f k l m (olens objs)).bind fun t => if t < 0 then some ((⟨#[]⟩ : ByteArray), false) else impl_LayText.l1 k objs ([] : List Int) t 0 l m) (Ev.bind hll ?_) (fun k => ?_)
    · by_cases hn : lyLong l m (olens objs) < 0
      · simp only [if_pos hn]
        exact Ev.now _
      · simp only [if_neg hn]
        obtain ⟨k1, k2, k3, k4, k5, _⟩ := lyLong_ok hn
        have hok := of_decide_eq_true k1
        have h := impl_LayText_l1 (l := l) (m := m) (by omega) (by omega) (by omega) (by omega) objs (by rw [← k2]; simp [olens]) (lyLong l m (olens objs)).toNat (by omega) (lyLong l m (olens objs)).toNat 0 (by omega)
        rw [Int.toNat_of_nonneg k5] at h
        exact h
    · simp only [impl_LayText.l0]
      rw [if_neg (by omega), List.take_of_length_le (by omega)]
  | succ d ih =>
    intro i hi hp
    have hlt : i < objs.length := by omega
    have hgd : objs.getD i ByteArray.empty = objs[i] := by rw [List.getD_eq_getElem?_getD, List.getElem?_eq_getElem hlt]; rfl
    have hto := impl_TextOk_is (objs.getD i ByteArray.empty) (by rw [hgd]; exact hos _ (List.getElem_mem hlt))
    cases ht : tOk (B (objs.getD i ByteArray.empty)) with
    | true =>
      have h := ih (i + 1) (by omega) (by
        intro s hs
        rw [List.take_succ_eq_append_getElem hlt, List.mem_append] at hs
        rcases hs with hs | hs
        · exact hp s hs
        · simp at hs
          subst hs
          rw [← hgd]
          exact ht)
      rw [ht] at hto
      refine Ev.cut (f := fun k => (impl_TextOk.f k (objs.getD i ByteArray.empty)).bind fun t => if t = true then (if (olens (objs.take i)).length < 17592186044416 then impl_LayText.l0 k objs (olens (objs.take i) ++ [((objs.getD i ByteArray.empty).size : Int)]) objs (objs.length : Int) (wrap64 ((i : Int) + 1)) l m else none) else some ((⟨#[]⟩ : ByteArray), false)) (Ev.bind hto ?_) (fun k => ?_)
      · simp only [if_true]
        simp only [if_pos (show (olens (objs.take i)).length < 17592186044416 by simp [olens]; omega), wsucc i (by omega)]
        rw [← take_olens objs i hlt]
        exact h
      · simp only [impl_LayText.l0]
        rw [if_pos (by omega), if_pos (by omega), if_pos (by omega)]
        rfl
    | false =>
      rw [ht] at hto
      have e : lyText l m objs = ([], false) := if_neg (fun hh => by
        have := hh (objs.getD i ByteArray.empty) (by rw [hgd]; exact List.getElem_mem hlt)
        rw [ht] at this
        cases this)
      rw [e]
      refine Ev.cut (f := fun k => (impl_TextOk.f k (objs.getD i ByteArray.empty)).bind fun t => if t = true then (if (olens (objs.take i)).length < 17592186044416 then impl_LayText.l0 k objs (olens (objs.take i) ++ [((objs.getD i ByteArray.empty).size : Int)]) objs (objs.length : Int) (wrap64 ((i : Int) + 1)) l m else none) else some ((⟨#[]⟩ : ByteArray), false)) (Ev.bind hto (Ev.all fun k => by simp; rfl)) (fun k => ?_)
      simp only [impl_LayText.l0]
      rw [if_pos (by omega), if_pos (by omega), if_pos (by omega)]
      rfl
theorem impl_LayText_is (l m : Int) (objs : List ByteArray) (hol : objs.length ≤ 2000000) (hos : ∀ s ∈ objs, s.size < 4611686018427387904) : Ev (fun k => impl_LayText.f k l m objs) (mkB (lyText l m objs).1, (lyText l m objs).2) := by
  have h := impl_LayText_l0 l m objs hol hos objs.length 0 (by omega) (fun s hs => by simp at hs)
  simpa [impl_LayText.f, olens] using h

/-! The reader of draws. -/
def RB (b : List Int) : Prop := b.length ≤ 2000 ∧ ∀ x ∈ b, 0 ≤ x ∧ x ≤ 255
theorem rd_byte {b : List Int} (hb : RB b) (i : Int) : 0 ≤ rd b i ∧ rd b i ≤ 255 := by
  unfold rd
  rw [List.getD_eq_getElem?_getD]
  cases e : b[i.toNat]? with
  | none => simp
  | some x => exact hb.2 x (List.mem_of_getElem? e)
theorem open_is (l : List Int) (hw : ∀ x ∈ l, (Lit.int .u8 x).wf = true) : ∃ b, spec_l10Open.f l = some (b, 0) ∧ RB b := by
  have h : ∀ x ∈ l, 0 ≤ x ∧ x ≤ 255 := fun x hx => bounds_u8 (hw x hx)
  unfold spec_l10Open.f
  by_cases hl : (l.length : Int) > 2000
  · rw [if_pos hl, if_pos (by omega)]
    exact ⟨_, rfl, by rw [List.length_take]; omega, fun x hx => h x (List.mem_of_mem_take hx)⟩
  · rw [if_neg hl]
    exact ⟨_, rfl, by omega, h⟩
theorem xor_nonneg (a b : Int) (ha0 : 0 ≤ a) (ha : a < 1152921504606846976) (hb0 : 0 ≤ b) (hb : b < 1152921504606846976) : 0 ≤ Go.bits .xor .i64 a b := by
  obtain ⟨m, rfl⟩ := Int.eq_ofNat_of_zero_le ha0
  obtain ⟨n, rfl⟩ := Int.eq_ofNat_of_zero_le hb0
  have hm : m < 2 ^ 60 := by omega
  have hn : n < 2 ^ 60 := by omega
  have hx : m ^^^ n < 2 ^ 60 := Nat.xor_lt_two_pow hm hn
  have hm' : m % 2 ^ IntKind.i64.bits = m := Nat.mod_eq_of_lt (show m < 2 ^ 64 by omega)
  have hn' : n % 2 ^ IntKind.i64.bits = n := Nat.mod_eq_of_lt (show n < 2 ^ 64 by omega)
  have e : Go.bits .xor .i64 (m : Int) (n : Int) = IntKind.i64.wrap ((m ^^^ n : Nat) : Int) := by
    simp only [bits, BitVec.ofInt_natCast, BitVec.toNat_xor, BitVec.toNat_ofNat, hm', hn']
  rw [e, IntKind.wrap_i64]
  omega
theorem pick_is {b : List Int} (hb : RB b) (p n : Int) (h0 : 0 ≤ p) (h1 : p ≤ 1099511627776) (hn1 : 1 ≤ n) : ∃ v, Ev (fun k => spec_l10Rd_pick.f k b p n) (v, p + 1) ∧ 0 ≤ v ∧ v < n := by
  have e1 : wrap64 (p + 1) = p + 1 := wid (by omega) (by omega)
  have e2 : wrap64 (p + 1 - 1) = p := by rw [show p + 1 - 1 = p by omega]; exact wid (by omega) (by omega)
  have hl := hb.1
  by_cases hz : (b.length : Int) = 0
  · refine ⟨0, Ev.end_ (fun k => ?_), by omega, by omega⟩
    unfold spec_l10Rd_pick.f
    rw [if_neg (by omega), e1]
    simp only [spec_l10Rd_pick.j0]
    rw [if_pos (by simpa using hz)]
  · by_cases hlt : p < (b.length : Int)
    · have hr := rd_byte hb p
      refine ⟨Int.tmod (rd b p) n, Ev.end_ (fun k => ?_), ?_, ?_⟩
      · unfold spec_l10Rd_pick.f
        rw [if_neg (by omega), e1]
        simp only [spec_l10Rd_pick.j0]
        rw [if_neg (by simpa using hz), e2, if_pos hlt, if_pos h0, if_neg (by omega), wid (by omega) (by omega)]
      · rw [Int.tmod_eq_emod_of_nonneg hr.1]; exact Int.emod_nonneg _ (by omega)
      · rw [Int.tmod_eq_emod_of_nonneg hr.1]; exact Int.emod_lt_of_pos _ (by omega)
    · have e3 : wrap64 (p * 7) = p * 7 := wid (by omega) (by omega)
      have e4 : wrap64 (p * 7 + 3) = p * 7 + 3 := wid (by omega) (by omega)
      have q0 : 0 ≤ p % (b.length : Int) := Int.emod_nonneg _ hz
      have q1 : p % (b.length : Int) < (b.length : Int) := Int.emod_lt_of_pos _ (by omega)
      have q2 : 0 ≤ (p * 7 + 3) % (b.length : Int) := Int.emod_nonneg _ hz
      have q3 : (p * 7 + 3) % (b.length : Int) < (b.length : Int) := Int.emod_lt_of_pos _ (by omega)
      have q4 : 0 ≤ p / (b.length : Int) := Int.ediv_nonneg h0 (by omega)
      have q5 : p / (b.length : Int) ≤ p := Int.ediv_le_self _ h0
      have r1 := rd_byte hb (p % (b.length : Int))
      have r2 := rd_byte hb ((p * 7 + 3) % (b.length : Int))
      obtain ⟨X, hX⟩ : ∃ X, X = rd b (p % (b.length : Int)) * 131 + rd b ((p * 7 + 3) % (b.length : Int)) * 1117 + p * 29 + p / (b.length : Int) * 53 := ⟨_, rfl⟩
      have x0 : 0 ≤ X := by omega
      have x1 : X < 1152921504606846976 := by omega
      have y := xor_nonneg X (X / 64) x0 x1 (by omega) (by omega)
      refine ⟨Int.tmod (Go.bits .xor .i64 X (X / 64)) n, Ev.end_ (fun k => ?_), ?_, ?_⟩
      · unfold spec_l10Rd_pick.f
        rw [if_neg (by omega), e1]
        simp only [spec_l10Rd_pick.j0]
        rw [if_neg (by simpa using hz), e2, if_neg hlt, if_neg hz, Int.tmod_eq_emod_of_nonneg h0, if_pos q0, if_pos q1, e3, e4, Int.tmod_eq_emod_of_nonneg (show 0 ≤ p * 7 + 3 by omega), if_pos q2, if_pos q3, if_neg (by omega), Int.tdiv_eq_ediv_of_nonneg h0,
          wid (x := rd b (p % (b.length : Int))) (by omega) (by omega), wid (x := rd b ((p * 7 + 3) % (b.length : Int))) (by omega) (by omega), wid (x := rd b (p % (b.length : Int)) * 131) (by omega) (by omega), wid (x := rd b ((p * 7 + 3) % (b.length : Int)) * 1117) (by omega) (by omega),
          wid (x := rd b (p % (b.length : Int)) * 131 + rd b ((p * 7 + 3) % (b.length : Int)) * 1117) (by omega) (by omega), wid (x := p * 29) (by omega) (by omega), wid (x := rd b (p % (b.length : Int)) * 131 + rd b ((p * 7 + 3) % (b.length : Int)) * 1117 + p * 29) (by omega) (by omega),
          wid (x := p / (b.length : Int)) (by omega) (by omega), wid (x := p / (b.length : Int) * 53) (by omega) (by omega), ← hX, wid (x := X) (by omega) (by omega), Int.tdiv_eq_ediv_of_nonneg x0, wid (x := X / 64) (by omega) (by omega)]
      · rw [Int.tmod_eq_emod_of_nonneg y]; exact Int.emod_nonneg _ (by omega)
      · rw [Int.tmod_eq_emod_of_nonneg y]; exact Int.emod_lt_of_pos _ (by omega)

/-! One of a list of numbers. -/
theorem rd_mem (l : List Int) (i : Int) (h0 : 0 ≤ i) (h1 : i < (l.length : Int)) : rd l i ∈ l := by
  unfold rd
  rw [List.getD_eq_getElem?_getD, List.getElem?_eq_getElem (by omega)]
  exact List.getElem_mem _
theorem num_is {b : List Int} (hb : RB b) (p : Int) (l : List Int) (h0 : 0 ≤ p) (h1 : p ≤ 1099511627776) (hn1 : 1 ≤ (l.length : Int)) : ∃ v, Ev (fun k => spec_l10Rd_num.f k b p l) (v, p + 1) ∧ v ∈ l := by
  obtain ⟨i, hi, i0, i1⟩ := pick_is hb p (l.length : Int) h0 h1 hn1
  refine ⟨rd l i, Ev.bind hi (Ev.all fun k => ?_), rd_mem l i i0 i1⟩
  rw [if_pos i0, if_pos i1]

/-! A layout, drawn. -/
theorem l3Lay_is {b : List Int} (hb : RB b) (p : Int) (h0 : 0 ≤ p) (h1 : p ≤ 1000000000000) : ∃ x y, Ev (fun k => spec_l3Lay.f k b p) (x, y, p + 1 + 1) ∧ laOk x y = true := by
  obtain ⟨v, hv, vm⟩ := num_is hb p [1, 2, 3, 4, 5, 8] h0 (by omega) (by simp)
  obtain ⟨x, hx, x0, x1⟩ := pick_is hb (p + 1) 3 (by omega) (by omega) (by omega)
  have hv2 : 1 ≤ v ∧ v ≤ 8 := by simp at vm; omega
  refine ⟨v, 1 + x, Ev.bind hv (Ev.bind hx (Ev.all fun k => ?_)), decide_eq_true (by omega)⟩
  rw [wid (by omega) (by omega)]
theorem l3Lays_is {b : List Int} (hb : RB b) (p : Int) (h0 : 0 ≤ p) (h1 : p ≤ 1000000000000) : ∃ x y q, Ev (fun k => spec_l3Lays.f k b p) (x, y, q) ∧ p ≤ q ∧ q ≤ p + 4 ∧ y ≤ 4 := by
  obtain ⟨x, y, hx, hok⟩ := l3Lay_is hb p h0 h1
  have hok := of_decide_eq_true hok
  obtain ⟨v, hv, v0, v1⟩ := pick_is hb (p + 1 + 1) 36 (by omega) (by omega) (by omega)
  by_cases c0 : v = 0
  · obtain ⟨u, hu, um⟩ := num_is hb (p + 1 + 1 + 1) [0, -1, 9] (by omega) (by omega) (by simp)
    exact ⟨u, y, p + 1 + 1 + 1 + 1, Ev.bind hx (Ev.bind hv (by simp only [if_pos c0]; exact Ev.bind hu (Ev.now _))), by omega, by omega, by omega⟩
  by_cases c1 : v = 1
  · obtain ⟨u, hu, um⟩ := num_is hb (p + 1 + 1 + 1) [0, -1, 4] (by omega) (by omega) (by simp)
    have hu4 : u ≤ 4 := by simp at um; omega
    exact ⟨x, u, p + 1 + 1 + 1 + 1, Ev.bind hx (Ev.bind hv (by simp only [if_neg c0, if_pos c1]; exact Ev.bind hu (Ev.now _))), by omega, by omega, hu4⟩
  by_cases c2 : v = 2
  · exact ⟨0, 0, p + 1 + 1 + 1, Ev.bind hx (Ev.bind hv (by simp only [if_neg c0, if_neg c1, if_pos c2]; exact Ev.now _)), by omega, by omega, by omega⟩
  · exact ⟨x, y, p + 1 + 1 + 1, Ev.bind hx (Ev.bind hv (by simp only [if_neg c0, if_neg c1, if_neg c2]; exact Ev.now _)), by omega, by omega, by omega⟩


theorem FnLayBent (l0 : List Int) (hm0 : l0.length ≤ maxLen) (hw0 : ∀ x ∈ l0, (Lit.int .u8 x).wf = true) : ∃ k, laws_FnLayBent.f k l0 = some true := by
  have hm := hm0
  have hw := hw0
  by_cases h : (l0.length : Int) > 1048576
  · exact ⟨0, by unfold laws_FnLayBent.f; rw [if_pos h]⟩
  refine Ev.rounds (r := true) (g := fun k => laws_FnLayBent.f k l0) ?_
  unfold laws_FnLayBent.f
  simp only [if_neg h]
  obtain ⟨r, hr, hb⟩ := open_is l0 hw
  obtain ⟨l, m, q, h1, _⟩ := l3Lays_is hb 0 (by omega) (by omega)
  have hd : Ev (fun k => spec_DrawLayOk.f k l0) (l, m) := by
    unfold spec_DrawLayOk.f
    simp only [hr, Option.bind_some]
    exact Ev.bind h1 (Ev.now _)
  refine Ev.bind hd ?_
  simp only [impl_LayOk_is, spec_LayOk_is, Option.bind_some, bne_self_eq_false, Bool.false_eq_true, if_false]
  cases hk : laOk l m with
  | true =>
    refine Ev.end_ (fun k => ?_)
    simp only [laws_FnLayBent.j0, if_true, spec_LayOk_is, hk, Option.bind_some]
    rfl
  | false =>
    have hy : lyAt l m 0 = (-1, -1) := if_neg (fun g => by rw [hk] at g; exact absurd g.1 (by simp))
    have hb2 : lyBack l m 0 0 = -1 := if_neg (fun g => by rw [hk] at g; exact absurd g.1 (by simp))
    have hlo : ∀ L, lyLong l m L = -1 := fun L => if_neg (fun g => by rw [hk] at g; exact absurd g.1 (by simp))
    have hof : ∀ s, lyOf l m s = [] := fun s => if_neg (fun g => by rw [hk] at g; exact absurd g.1 (by simp))
    have hlt := impl_LayText_is l m [(⟨#[97]⟩ : ByteArray)] (by simp) (fun s hs => by simp at hs; subst hs; show 1 < _; omega)
    have htx : lyText l m [(⟨#[97]⟩ : ByteArray)] = ([], false) := by
      unfold lyText
      rw [hlo]
      split <;> rfl
    rw [htx] at hlt
    have hlp : Ev (fun k => impl_LayParts.f k l m 0 1) ([] : List S55) := Ev.end_ (fun k => by simp [impl_LayParts.f, impl_LayOk_is, hk, impl_LayParts.j0])
    have hlf := impl_LayOf_is l m (⟨#[97, 98]⟩ : ByteArray) (by show 2 < _; omega)
    rw [hof] at hlf
    have hll := impl_LayLong_is l m [1]
    rw [hlo] at hll
    refine Ev.cut (f := fun k => (impl_LayText.f k l m ([(⟨#[97]⟩ : ByteArray)] : List ByteArray)).bind fun t => (impl_LayParts.f k l m 0 1).bind fun u => if (u.length : Int) = 0 then ((impl_LayOf.f k l m (⟨#[97, 98]⟩ : ByteArray)).bind fun v => if (v.length : Int) = 0 then ((impl_LayLong.f k l m ([1] : List Int)).bind fun w => if w = (-1) then (if t.1.toList = ([] : List UInt8) then some (!t.2) else some false) else some false) else some false) else some false) (Ev.bind hlt (Ev.bind hlp ?_)) (fun k => ?_)
    · simp only [List.length_nil, Int.natCast_zero, if_true]
      refine Ev.bind hlf ?_
      simp only [List.length_nil, Int.natCast_zero, if_true]
      refine Ev.bind hll (Ev.all fun k => ?_)
      rw [if_pos rfl, if_pos (by rw [B_toList, B_mkB])]
      rfl
    · simp only [laws_FnLayBent.j0, Bool.false_eq_true, if_false, impl_LayAt_is, hy, Option.bind_some, if_true, impl_LayBack_is, hb2]

end Go.Proofs.Ytmiknhlogpoikaa.Pure
