/- The law FnExactLayText over numbers and lists, as the program's text computes it: it answers true. Conditions: the arguments are of their kinds, lengths fit. -/
import Derived.Test.YtmiknhlogpoikaaQx28
import Derived.OpenShut
import Derived.Laws.Strings
namespace Go.Proofs.Ytmiknhlogpoikaa.Pure
open Go.RowKit Go.Proofs.Ytmiknhlogpoikaa.Q Go.Proofs.YtmiknhlogpoikaaW.PrintWords Go.Proofs.YtmiknhlogpoikaaW.PrintLast
set_option linter.unusedVariables false
set_option linter.unusedSimpArgs false

/-! Words for the pure side: strings as lists of bytes, counters as natural numbers, what is answered from some round on. -/
def B (s : ByteArray) : List UInt8 := s.data.toList
theorem B_size (s : ByteArray) : s.size = (B s).length := (Array.length_toList).symm
theorem B_toList (s : ByteArray) : s.toList = B s := Go.ByteArray.toList_eq s
theorem B_inj {s t : ByteArray} (h : B s = B t) : s = t := by
  cases s; cases t
  simp only [B] at h
  congr 1
  exact Array.ext' h
theorem B_app (s t : ByteArray) : B (s ++ t) = B s ++ B t := by simp [B, ByteArray.data_append]
theorem app_size (s t : ByteArray) : (s ++ t).size = s.size + t.size := by rw [B_size, B_app, List.length_append, ← B_size, ← B_size]
theorem B_ext (s : ByteArray) (i j : Nat) : B (s.extract i j) = ((B s).take j).drop i := by
  simp [B, ByteArray.data_extract, List.extract_eq_take_drop, List.drop_take]
theorem B_nil : B (⟨#[]⟩ : ByteArray) = [] := rfl
theorem bt_B (s : ByteArray) (i : Nat) (h : i < (B s).length) : bt s (i : Int) = (((B s)[i]'h).toNat : Int) := by
  have h' : (i : Int).toNat < s.size := by rw [B_size]; simpa using h
  unfold bt
  rw [dif_pos h']
  rfl
theorem wsucc (i : Nat) (h : i < 4611686018427387904) : wrap64 ((i : Int) + 1) = ((i + 1 : Nat) : Int) := by unfold wrap64; omega
theorem wpred (i : Nat) (h : i < 4611686018427387904) (h0 : 0 < i) : wrap64 ((i : Int) - 1) = ((i - 1 : Nat) : Int) := by unfold wrap64; omega
theorem wid {x : Int} (h0 : -9223372036854775808 ≤ x) (h1 : x ≤ 9223372036854775807) : wrap64 x = x := by unfold wrap64; omega
theorem Ev.cut {α : Type} {g f : Nat → Option α} {r : α} (k : Ev f r) (h : ∀ k, g (k + 1) = f k) : Ev g r := Ev.step h k
theorem Ev.end_ {α : Type} {g : Nat → Option α} {r : α} (h : ∀ k, g (k + 1) = some r) : Ev g r := Ev.step h (Ev.now r)
theorem Ev.all {α : Type} {g : Nat → Option α} {r : α} (h : ∀ k, g k = some r) : Ev g r := ⟨0, fun k _ => h k⟩
theorem Ev.uniq {α : Type} {g : Nat → Option α} {r q : α} (h : Ev g r) (h' : Ev g q) : r = q := by
  obtain ⟨K, h⟩ := h
  obtain ⟨K', h'⟩ := h'
  have h1 := h (max K K') (by omega)
  rw [h' (max K K') (by omega)] at h1
  exact (Option.some.inj h1).symm
theorem dec_eq {p q : Prop} [Decidable p] [Decidable q] (h : p ↔ q) : (some (decide p) : Option Bool) = some (decide q) := by rw [decide_eq_decide.2 h]
theorem dec_false {q : Prop} [Decidable q] (h : ¬ q) : (some false : Option Bool) = some (decide q) := by rw [decide_eq_false h]
theorem dec_true {q : Prop} [Decidable q] (h : q) : (some true : Option Bool) = some (decide q) := by rw [decide_eq_true h]

def mkB (L : List UInt8) : ByteArray := ⟨L.toArray⟩
theorem B_mkB (L : List UInt8) : B (mkB L) = L := by simp [B, mkB]
theorem eq_mkB {r : ByteArray} {X : List UInt8} (h : B r = X) : r = mkB X := B_inj (by rw [h, B_mkB])
theorem mkB_B (s : ByteArray) : mkB (B s) = s := (eq_mkB rfl).symm
theorem mkB_size (L : List UInt8) : (mkB L).size = L.length := by rw [B_size, B_mkB]

/-! Layouts, valid. -/
def laOk (a b : Int) : Bool := decide (1 ≤ a ∧ a ≤ 8 ∧ 1 ≤ b ∧ b ≤ 3)
theorem spec_LayOk_is (a b : Int) : spec_LayOk.f a b = some (laOk a b) := by
  unfold spec_LayOk.f laOk
  repeat' split
  all_goals first | exact dec_eq (by omega) | exact dec_false (by omega)
theorem impl_LayOk_is (a b : Int) : impl_LayOk.f a b = some (laOk a b) := by
  unfold impl_LayOk.f laOk
  repeat' split
  all_goals first | exact dec_eq (by omega) | exact dec_false (by omega)

/-! Where a place lies. -/
def lAt (l m p : Int) : Int × Int := (p / l % m, p / l / m * l + p % l)
theorem lAt_bounds {l m p : Int} (hl : 1 ≤ l) (hl8 : l ≤ 8) (hm : 1 ≤ m) (hm3 : m ≤ 3) (h0 : 0 ≤ p) (h1 : p < 100) : 0 ≤ (lAt l m p).1 ∧ (lAt l m p).1 < m ∧ 0 ≤ (lAt l m p).2 ∧ (lAt l m p).2 ≤ p := by
  have hq0 : 0 ≤ p / l := Int.ediv_nonneg h0 (by omega)
  have e1 : p / l * l + p % l = p := by rw [Int.mul_comm]; exact Int.mul_ediv_add_emod p l
  have r0 : 0 ≤ p % l := Int.emod_nonneg _ (by omega)
  have hq2 : 0 ≤ p / l / m := Int.ediv_nonneg hq0 (by omega)
  have hq3 : p / l / m ≤ p / l := Int.ediv_le_self _ hq0
  refine ⟨Int.emod_nonneg _ (by omega), Int.emod_lt_of_pos _ (by omega), ?_, ?_⟩
  · exact Int.add_nonneg (Int.mul_nonneg hq2 (by omega)) r0
  · have := Int.mul_le_mul_of_nonneg_right hq3 (show 0 ≤ l by omega)
    show p / l / m * l + p % l ≤ p
    omega
theorem lAt_words {l m p : Int} (hl : 1 ≤ l) (hl8 : l ≤ 8) (hm : 1 ≤ m) (hm3 : m ≤ 3) (h0 : 0 ≤ p) (h1 : p < 100) :
    Int.tmod (wrap64 (Int.tdiv p l)) m = (lAt l m p).1 ∧ wrap64 ((wrap64 ((wrap64 (Int.tdiv (wrap64 (Int.tdiv p l)) m)) * l)) + (Int.tmod p l)) = (lAt l m p).2 := by
  have hq0 : 0 ≤ p / l := Int.ediv_nonneg h0 (by omega)
  have hqp : p / l ≤ p := Int.ediv_le_self _ h0
  have hq2 : 0 ≤ p / l / m := Int.ediv_nonneg hq0 (by omega)
  have hq3 : p / l / m ≤ p / l := Int.ediv_le_self _ hq0
  have r0 : 0 ≤ p % l := Int.emod_nonneg _ (by omega)
  have r1 : p % l < l := Int.emod_lt_of_pos _ (by omega)
  have m0 : 0 ≤ p / l / m * l := Int.mul_nonneg hq2 (by omega)
  have m1 : p / l / m * l ≤ 100 * 8 := Int.mul_le_mul (by omega) hl8 (by omega) (by omega)
  rw [Int.tdiv_eq_ediv_of_nonneg h0, wid (x := p / l) (by omega) (by omega), Int.tmod_eq_emod_of_nonneg hq0, Int.tdiv_eq_ediv_of_nonneg hq0, wid (x := p / l / m) (by omega) (by omega), wid (x := p / l / m * l) (by omega) (by omega), Int.tmod_eq_emod_of_nonneg h0, wid (by omega) (by omega)]
  exact ⟨rfl, rfl⟩
def lyAt (l m p : Int) : Int × Int := if laOk l m = true ∧ 0 ≤ p ∧ p < 48 then lAt l m p else (-1, -1)
theorem spec_l3At_is {l m p : Int} (hl : 1 ≤ l) (hl8 : l ≤ 8) (hm : 1 ≤ m) (hm3 : m ≤ 3) (h0 : 0 ≤ p) (h1 : p < 100) : spec_l3At.f l m p = some (lAt l m p) := by
  unfold spec_l3At.f
  obtain ⟨e1, e2⟩ := lAt_words hl hl8 hm hm3 h0 h1
  rw [if_neg (by omega), if_neg (by omega), e1, e2]

theorem impl_LayAt_is (l m p : Int) : impl_LayAt.f l m p = some (lyAt l m p) := by
  unfold impl_LayAt.f lyAt
  rw [impl_LayOk_is]
  cases h : laOk l m with
  | false => simp
  | true =>
    have h' := of_decide_eq_true h
    simp only [Option.bind_some, if_true]
    by_cases h0 : p < 0
    · rw [if_pos h0, if_neg (by omega)]
    · rw [if_neg h0]
      by_cases h1 : p ≥ 48
      · rw [if_pos h1, if_neg (by omega)]
      · obtain ⟨e1, e2⟩ := lAt_words (l := l) (m := m) (p := p) (by omega) (by omega) (by omega) (by omega) (by omega) (by omega)
        rw [if_neg h1, if_neg (show ¬ l = 0 by omega), if_neg (show ¬ m = 0 by omega), e1, e2, if_pos ⟨trivial, by omega, by omega⟩]

/-! Files, valid. -/
def cOk (c : UInt8) : Bool := decide (c.toNat = 46 ∨ (97 ≤ c.toNat ∧ c.toNat ≤ 122) ∨ (48 ≤ c.toNat ∧ c.toNat ≤ 57))
def tOk (l : List UInt8) : Bool := l.all cOk && decide (l.length ≤ 48)
theorem spec_l2Byte_is (c : UInt8) : spec_l2Byte.f (c.toNat : Int) = some (cOk c) := by
  unfold spec_l2Byte.f cOk
  repeat' split
  all_goals first | exact dec_true (by omega) | exact dec_eq (by omega) | exact dec_false (by omega)
theorem all_drop (l : List UInt8) (i : Nat) (h : i < l.length) : (l.drop i).all cOk = (cOk l[i] && (l.drop (i + 1)).all cOk) := by
  rw [List.drop_eq_getElem_cons h, List.all_cons]
theorem spec_TextOk_l (s : ByteArray) (hs : s.size < 4611686018427387904) : ∀ (d i : Nat), i + d = (B s).length → Ev (fun k => spec_TextOk.l0 k s (i : Int)) ((((B s).drop i).all cOk) && decide ((B s).length ≤ 48)) := by
  have hz : (s.size : Int) = ((B s).length : Int) := by rw [B_size]
  have hs' : (B s).length < 4611686018427387904 := by rw [← B_size]; exact hs
  intro d
  induction d with
  | zero =>
    intro i hi
    refine Ev.end_ (fun k => ?_)
    simp only [spec_TextOk.l0]
    rw [hz, if_neg (by omega), List.drop_of_length_le (by omega)]
    simp
    omega
  | succ d ih =>
    intro i hi
    have hlt : i < (B s).length := by omega
    have hr : (((B s).drop i).all cOk) = (cOk ((B s)[i]) && ((B s).drop (i + 1)).all cOk) := all_drop _ _ hlt
    rw [hr]
    cases hc : cOk ((B s)[i]) with
    | true =>
      refine Ev.cut (f := fun k => spec_TextOk.l0 k s ((i + 1 : Nat) : Int)) ?_ (fun k => ?_)
      · simpa using ih (i + 1) (by omega)
      · simp only [spec_TextOk.l0]
        rw [hz, if_pos (by omega), if_pos (by omega), bt_B s i hlt, spec_l2Byte_is, wsucc i (by omega), hc]
        rfl
    | false =>
      refine Ev.end_ (fun k => ?_)
      simp only [spec_TextOk.l0]
      rw [hz, if_pos (by omega), if_pos (by omega), bt_B s i hlt, spec_l2Byte_is, hc]
      simp
theorem spec_TextOk_is (s : ByteArray) (hs : s.size < 4611686018427387904) : Ev (fun k => spec_TextOk.f k s) (tOk (B s)) := by
  have h := spec_TextOk_l s hs (B s).length 0 (by omega)
  simpa [spec_TextOk.f, tOk] using h
theorem impl_TextOk_l (s : ByteArray) (hs : s.size < 4611686018427387904) : ∀ (d i : Nat), i + d = (B s).length → Ev (fun k => impl_TextOk.l0 k s (s.size : Int) (i : Int)) ((((B s).drop i).all cOk) && decide ((B s).length ≤ 48)) := by
  have hz : (s.size : Int) = ((B s).length : Int) := by rw [B_size]
  have hs' : (B s).length < 4611686018427387904 := by rw [← B_size]; exact hs
  intro d
  induction d with
  | zero =>
    intro i hi
    refine Ev.end_ (fun k => ?_)
    simp only [impl_TextOk.l0]
    rw [hz, if_neg (by omega), List.drop_of_length_le (by omega)]
    simp
    omega
  | succ d ih =>
    intro i hi
    have hlt : i < (B s).length := by omega
    have hr : (((B s).drop i).all cOk) = (cOk ((B s)[i]) && ((B s).drop (i + 1)).all cOk) := all_drop _ _ hlt
    rw [hr]
    cases hc : cOk ((B s)[i]) with
    | true =>
      have hc' := of_decide_eq_true hc
      refine Ev.cut (f := fun k => impl_TextOk.l0 k s (s.size : Int) ((i + 1 : Nat) : Int)) ?_ (fun k => ?_)
      · simpa using ih (i + 1) (by omega)
      · simp only [impl_TextOk.l0]
        rw [if_pos (by omega), if_pos (by omega), if_pos (by omega), bt_B s i hlt, wsucc i (by omega)]
        repeat' split
        all_goals first | rfl | (exfalso; omega)
    | false =>
      have hc' := of_decide_eq_false hc
      refine Ev.end_ (fun k => ?_)
      simp only [impl_TextOk.l0]
      rw [if_pos (by omega), if_pos (by omega), if_pos (by omega), bt_B s i hlt]
      simp only [Bool.false_and]
      repeat' split
      all_goals first | rfl | (exfalso; omega)
theorem impl_TextOk_is (s : ByteArray) (hs : s.size < 4611686018427387904) : Ev (fun k => impl_TextOk.f k s) (tOk (B s)) := by
  have h := impl_TextOk_l s hs (B s).length 0 (by omega)
  simpa [impl_TextOk.f, tOk] using h

theorem tOk_len {L : List UInt8} (h : tOk L = true) : L.length ≤ 48 := by
  simp [tOk] at h
  exact h.2

/-! Which place lies there. -/
def lBack (l m o a : Int) : Int := (a / l * m + o) * l + a % l
theorem lBack_bounds {l m o a : Int} (hl : 1 ≤ l) (hl8 : l ≤ 8) (hm : 1 ≤ m) (hm3 : m ≤ 3) (ho : 0 ≤ o) (ho3 : o < 3) (h0 : 0 ≤ a) (h1 : a < 100) : 0 ≤ lBack l m o a ∧ lBack l m o a ≤ 5000 := by
  have hq0 : 0 ≤ a / l := Int.ediv_nonneg h0 (by omega)
  have hqa : a / l ≤ a := Int.ediv_le_self _ h0
  have r0 : 0 ≤ a % l := Int.emod_nonneg _ (by omega)
  have r1 : a % l < l := Int.emod_lt_of_pos _ (by omega)
  have m0 : 0 ≤ a / l * m := Int.mul_nonneg hq0 (by omega)
  have m1 : a / l * m ≤ 100 * 3 := Int.mul_le_mul (by omega) hm3 (by omega) (by omega)
  have p0 : 0 ≤ (a / l * m + o) * l := Int.mul_nonneg (by omega) (by omega)
  have p1 : (a / l * m + o) * l ≤ 303 * 8 := Int.mul_le_mul (by omega) hl8 (by omega) (by omega)
  unfold lBack
  omega
theorem lBack_words {l m o a : Int} (hl : 1 ≤ l) (hl8 : l ≤ 8) (hm : 1 ≤ m) (hm3 : m ≤ 3) (ho : 0 ≤ o) (ho3 : o < 3) (h0 : 0 ≤ a) (h1 : a < 100) :
    wrap64 ((wrap64 ((wrap64 ((wrap64 ((wrap64 (Int.tdiv a l)) * m)) + o)) * l)) + (Int.tmod a l)) = lBack l m o a := by
  have hq0 : 0 ≤ a / l := Int.ediv_nonneg h0 (by omega)
  have hqa : a / l ≤ a := Int.ediv_le_self _ h0
  have r0 : 0 ≤ a % l := Int.emod_nonneg _ (by omega)
  have r1 : a % l < l := Int.emod_lt_of_pos _ (by omega)
  have m0 : 0 ≤ a / l * m := Int.mul_nonneg hq0 (by omega)
  have m1 : a / l * m ≤ 100 * 3 := Int.mul_le_mul (by omega) hm3 (by omega) (by omega)
  have p0 : 0 ≤ (a / l * m + o) * l := Int.mul_nonneg (by omega) (by omega)
  have p1 : (a / l * m + o) * l ≤ 303 * 8 := Int.mul_le_mul (by omega) hl8 (by omega) (by omega)
  rw [Int.tdiv_eq_ediv_of_nonneg h0, wid (x := a / l) (by omega) (by omega), wid (x := a / l * m) (by omega) (by omega), wid (x := a / l * m + o) (by omega) (by omega), wid (x := (a / l * m + o) * l) (by omega) (by omega), Int.tmod_eq_emod_of_nonneg h0, wid (by omega) (by omega)]
  rfl

theorem spec_l3Back_is {l m o a : Int} (hl : 1 ≤ l) (hl8 : l ≤ 8) (hm : 1 ≤ m) (hm3 : m ≤ 3) (ho : 0 ≤ o) (ho3 : o < 3) (h0 : 0 ≤ a) (h1 : a < 100) : spec_l3Back.f l m o a = some (lBack l m o a) := by
  unfold spec_l3Back.f
  rw [if_neg (by omega), lBack_words hl hl8 hm hm3 ho ho3 h0 h1]

theorem impl_back_is {l m o a : Int} (hl : 1 ≤ l) (hl8 : l ≤ 8) (hm : 1 ≤ m) (hm3 : m ≤ 3) (ho : 0 ≤ o) (ho3 : o < 3) (h0 : 0 ≤ a) (h1 : a < 100) : impl_back.f l m o a = some (lBack l m o a) := by
  unfold impl_back.f
  rw [if_neg (by omega), lBack_words hl hl8 hm hm3 ho ho3 h0 h1]

theorem l1Max_is (a b : Int) : spec_l1Max.f a b = some (mx a b) := by
  unfold spec_l1Max.f mx
  split <;> split <;> first | rfl | (congr 1; omega)

/-! How long a file is. -/
def lmax (l m : Int) : Int → List Int → Int → Int
  | _, [], acc => acc
  | i, n :: r, acc => lmax l m (i + 1) r (if n > 0 then mx acc (lBack l m i (n - 1) + 1) else acc)
def lens (L : List Int) : Bool := L.all fun n => decide (0 ≤ n ∧ n ≤ 48)
def lyLong (l m : Int) (L : List Int) : Int := if laOk l m = true ∧ (L.length : Int) = m ∧ lens L = true then (if lmax l m 0 L 0 > 48 then -1 else lmax l m 0 L 0) else -1
theorem rd_nat (L : List Int) (i : Nat) : rd L (i : Int) = L.getD i 0 := rfl
theorem drop_rd (L : List Int) (i : Nat) (h : i < L.length) : L.drop i = L.getD i 0 :: L.drop (i + 1) := by
  rw [List.drop_eq_getElem_cons h, List.getD_eq_getElem?_getD, List.getElem?_eq_getElem h]
  rfl
theorem lmax_stepb {l m : Int} {i : Nat} {n acc : Int} (hl : 1 ≤ l) (hl8 : l ≤ 8) (hm : 1 ≤ m) (hm3 : m ≤ 3) (hi : (i : Int) < m) (h0 : 0 ≤ n) (h1 : n ≤ 48) (a0 : 0 ≤ acc) (a1 : acc ≤ 10000) :
    0 ≤ (if n > 0 then mx acc (lBack l m i (n - 1) + 1) else acc) ∧ (if n > 0 then mx acc (lBack l m i (n - 1) + 1) else acc) ≤ 10000 := by
  split
  · have := lBack_bounds (l := l) (m := m) (o := i) (a := n - 1) hl hl8 hm hm3 (by omega) (by omega) (by omega) (by omega)
    unfold mx
    split <;> omega
  · omega
theorem lens_drop (L : List Int) (i : Nat) (h : i < L.length) : lens (L.drop i) = (decide (0 ≤ L.getD i 0 ∧ L.getD i 0 ≤ 48) && lens (L.drop (i + 1))) := by
  rw [drop_rd L i h]
  rfl
theorem lens_short (L : List Int) (i : Nat) (h : ¬ i < L.length) : lens (L.drop i) = true := by rw [List.drop_of_length_le (by omega)]; rfl

theorem spec_l3Long_l {l m : Int} (hl : 1 ≤ l) (hl8 : l ≤ 8) (hm : 1 ≤ m) (hm3 : m ≤ 3) (L : List Int) (hL : (L.length : Int) = m) (ho : lens L = true) : ∀ (d i : Nat) (acc : Int), i + d = L.length → 0 ≤ acc → acc ≤ 10000 →
    Ev (fun k => spec_l3Long.l0 k L acc (i : Int) l m) (lmax l m i (L.drop i) acc) := by
  intro d
  induction d with
  | zero =>
    intro i acc hi h0 h1
    refine Ev.end_ (fun k => ?_)
    simp only [spec_l3Long.l0]
    rw [if_neg (by omega), List.drop_of_length_le (by omega)]
    rfl
  | succ d ih =>
    intro i acc hi h0 h1
    have hlt : i < L.length := by omega
    have hn : 0 ≤ L.getD i 0 ∧ L.getD i 0 ≤ 48 := by
      have := List.all_eq_true.1 ho (L.getD i 0) (by rw [List.getD_eq_getElem?_getD, List.getElem?_eq_getElem hlt]; exact List.getElem_mem hlt)
      exact of_decide_eq_true this
    have hs := lmax_stepb (i := i) hl hl8 hm hm3 (by omega) hn.1 hn.2 h0 h1
    rw [drop_rd L i hlt]
    refine Ev.cut (f := fun k => spec_l3Long.l0 k L (if L.getD i 0 > 0 then mx acc (lBack l m i (L.getD i 0 - 1) + 1) else acc) ((i + 1 : Nat) : Int) l m) (ih (i + 1) _ (by omega) hs.1 hs.2) (fun k => ?_)
    simp only [spec_l3Long.l0]
    rw [if_pos (by omega), if_pos (by omega), rd_nat, wsucc i (by omega)]
    by_cases hp : L.getD i 0 > 0
    · have := lBack_bounds (l := l) (m := m) (o := i) (a := L.getD i 0 - 1) hl hl8 hm hm3 (by omega) (by omega) (by omega) (by omega)
      rw [if_pos hp, if_pos hp, wid (x := L.getD i 0 - 1) (by omega) (by omega), spec_l3Back_is hl hl8 hm hm3 (by omega) (by omega) (by omega) (by omega), Option.bind_some, l1Max_is, Option.bind_some, wid (by omega) (by omega)]
    · rw [if_neg hp, if_neg hp]
theorem spec_LayLong_l {l m : Int} (hl : 1 ≤ l) (hl8 : l ≤ 8) (hm : 1 ≤ m) (hm3 : m ≤ 3) (L : List Int) (hL : (L.length : Int) = m) : ∀ (d i : Nat), i + d = L.length → lens (L.take i) = true →
    Ev (fun k => spec_LayLong.l0 k L (i : Int) l m) (if lens (L.drop i) = true then (if lmax l m 0 L 0 > 48 then -1 else lmax l m 0 L 0) else -1) := by
  intro d
  induction d with
  | zero =>
    intro i hi hp
    rw [lens_short L i (by omega), if_pos rfl]
    have ho : lens L = true := by rwa [List.take_of_length_le (by omega)] at hp
    have h := spec_l3Long_l hl hl8 hm hm3 L hL ho L.length 0 0 (by omega) (by omega) (by omega)
    refine Ev.cut (f := fun k => (spec_l3Long.f k l m L).bind fun t => if t > 48 then some (-1) else some t) (Ev.bind (a := lmax l m 0 L 0) (by simpa [spec_l3Long.f] using h) (Ev.all fun k => ?_)) (fun k => ?_)
    · split <;> rfl
    · simp only [spec_LayLong.l0]
      rw [if_neg (by omega)]
  | succ d ih =>
    intro i hi hp
    have hlt : i < L.length := by omega
    rw [lens_drop L i hlt]
    by_cases hn : 0 ≤ L.getD i 0 ∧ L.getD i 0 ≤ 48
    · rw [decide_eq_true hn, Bool.true_and]
      refine Ev.cut (f := fun k => spec_LayLong.l0 k L ((i + 1 : Nat) : Int) l m) (ih (i + 1) (by omega) ?_) (fun k => ?_)
      · rw [List.take_succ_eq_append_getElem hlt]
        unfold lens at hp ⊢
        rw [List.all_append, hp]
        rw [List.getD_eq_getElem?_getD, List.getElem?_eq_getElem hlt, Option.getD_some] at hn
        simp
        omega
      · simp only [spec_LayLong.l0]
        rw [if_pos (by omega), if_pos (by omega), rd_nat, if_neg (by omega), if_neg (by omega), wsucc i (by omega)]
    · rw [decide_eq_false hn, Bool.false_and]
      refine Ev.end_ (fun k => ?_)
      simp only [spec_LayLong.l0]
      simp only [Bool.false_eq_true, if_false]
      rw [if_pos (by omega), if_pos (by omega), rd_nat]
      by_cases h0 : L.getD i 0 < 0
      · rw [if_pos h0]
      · rw [if_neg h0, if_pos (by omega)]
theorem spec_LayLong_is (l m : Int) (L : List Int) : Ev (fun k => spec_LayLong.f k l m L) (lyLong l m L) := by
  unfold spec_LayLong.f lyLong
  rw [spec_LayOk_is]
  cases h : laOk l m with
  | false => exact Ev.end_ (fun k => by simp [spec_LayLong.j0])
  | true =>
    have h' := of_decide_eq_true h
    simp only [Option.bind_some, if_true]
    by_cases hL : (L.length : Int) = m
    · refine Ev.cut (f := fun k => spec_LayLong.l0 k L ((0 : Nat) : Int) l m) ?_ (fun k => by simp [spec_LayLong.j0, hL])
      have hh := spec_LayLong_l (l := l) (m := m) (by omega) (by omega) (by omega) (by omega) L hL L.length 0 (by omega) (by rfl)
      simpa [hL] using hh
    · exact Ev.end_ (fun k => by simp [spec_LayLong.j0, hL])

theorem impl_LayLong_l {l m : Int} (hl : 1 ≤ l) (hl8 : l ≤ 8) (hm : 1 ≤ m) (hm3 : m ≤ 3) (L : List Int) (hL : (L.length : Int) = m) : ∀ (d i : Nat) (acc : Int), i + d = L.length → 0 ≤ acc → acc ≤ 10000 →
    Ev (fun k => impl_LayLong.l0 k acc L (L.length : Int) (i : Int) l m) (if lens (L.drop i) = true then (if lmax l m i (L.drop i) acc > 48 then -1 else lmax l m i (L.drop i) acc) else -1) := by
  intro d
  induction d with
  | zero =>
    intro i acc hi h0 h1
    rw [lens_short L i (by omega), if_pos rfl, List.drop_of_length_le (by omega)]
    refine Ev.end_ (fun k => ?_)
    simp only [impl_LayLong.l0]
    rw [if_neg (by omega)]
    unfold lmax
    split <;> rfl
  | succ d ih =>
    intro i acc hi h0 h1
    have hlt : i < L.length := by omega
    rw [lens_drop L i hlt]
    by_cases hn : 0 ≤ L.getD i 0 ∧ L.getD i 0 ≤ 48
    · rw [decide_eq_true hn, Bool.true_and, drop_rd L i hlt]
      have hs := lmax_stepb (i := i) hl hl8 hm hm3 (by omega) hn.1 hn.2 h0 h1
      refine Ev.cut (f := fun k => impl_LayLong.j2 k acc (i : Int) (L.getD i 0) L (L.length : Int) (i : Int) false l m) (Ev.cut (f := fun k => impl_LayLong.l0 k (if L.getD i 0 > 0 then mx acc (lBack l m i (L.getD i 0 - 1) + 1) else acc) L (L.length : Int) ((i + 1 : Nat) : Int) l m) (ih (i + 1) _ (by omega) hs.1 hs.2) (fun k => ?_)) (fun k => ?_)
      · simp only [impl_LayLong.j2]
        rw [if_neg (by simp), wsucc i (by omega)]
        by_cases hp : L.getD i 0 > 0
        · have := lBack_bounds (l := l) (m := m) (o := i) (a := L.getD i 0 - 1) hl hl8 hm hm3 (by omega) (by omega) (by omega) (by omega)
          rw [if_pos hp, if_pos hp, wid (x := L.getD i 0 - 1) (by omega) (by omega), impl_back_is hl hl8 hm hm3 (by omega) (by omega) (by omega) (by omega), Option.bind_some, wid (by omega) (by omega)]
        · rw [if_neg hp, if_neg hp]
      · simp only [impl_LayLong.l0]
        rw [if_pos (by omega), if_pos (by omega), if_pos (by omega), rd_nat, if_neg (by omega), decide_eq_false (show ¬ L.getD i 0 > 48 by omega)]
    · rw [decide_eq_false hn, Bool.false_and, if_neg (by simp)]
      refine Ev.cut (f := fun k => impl_LayLong.j2 k acc (i : Int) (L.getD i 0) L (L.length : Int) (i : Int) true l m) (Ev.end_ (fun k => ?_)) (fun k => ?_)
      · simp only [impl_LayLong.j2]
        rw [if_pos trivial]
      · simp only [impl_LayLong.l0]
        rw [if_pos (by omega), if_pos (by omega), if_pos (by omega), rd_nat]
        by_cases h2 : L.getD i 0 < 0
        · rw [if_pos h2]
        · rw [if_neg h2, decide_eq_true (show L.getD i 0 > 48 by omega)]
theorem impl_LayLong_is (l m : Int) (L : List Int) : Ev (fun k => impl_LayLong.f k l m L) (lyLong l m L) := by
  unfold impl_LayLong.f lyLong
  rw [impl_LayOk_is]
  cases h : laOk l m with
  | false => exact Ev.end_ (fun k => by simp [impl_LayLong.j0])
  | true =>
    have h' := of_decide_eq_true h
    simp only [Option.bind_some, if_true]
    by_cases hL : (L.length : Int) = m
    · refine Ev.cut (f := fun k => impl_LayLong.l0 k 0 L (L.length : Int) ((0 : Nat) : Int) l m) ?_ (fun k => by simp [impl_LayLong.j0, hL])
      have hh := impl_LayLong_l (l := l) (m := m) (by omega) (by omega) (by omega) (by omega) L hL L.length 0 0 (by omega) (by omega) (by omega)
      simpa [hL] using hh
    · exact Ev.end_ (fun k => by simp [impl_LayLong.j0, hL])

theorem one_size (s : ByteArray) (i : Nat) : (s.extract i (i + 1)).size ≤ 1 := by
  rw [B_size, B_ext, List.length_drop, List.length_take]
  omega

theorem rdOf_mem (l : List ByteArray) (i : Int) (h0 : 0 ≤ i) (h1 : i < (l.length : Int)) : rdOf ByteArray.empty l i ∈ l := by
  unfold rdOf
  rw [List.getD_eq_getElem?_getD, List.getElem?_eq_getElem (by omega)]
  exact List.getElem_mem _

/-! A file out of its objects. -/
def olens (objs : List ByteArray) : List Int := objs.map fun s => (s.size : Int)
def byteAt (l m : Int) (objs : List ByteArray) (i : Nat) : UInt8 := (B (rdOf ByteArray.empty objs (lAt l m i).1)).getD (lAt l m i).2.toNat 46
def lyText (l m : Int) (objs : List ByteArray) : List UInt8 × Bool :=
  if (∀ s ∈ objs, tOk (B s) = true) then (if lyLong l m (olens objs) < 0 then ([], false) else ((List.range (lyLong l m (olens objs)).toNat).map (byteAt l m objs), true)) else ([], false)
theorem lyLong_ok {l m : Int} {L : List Int} (h : ¬ lyLong l m L < 0) : laOk l m = true ∧ (L.length : Int) = m ∧ lens L = true ∧ lyLong l m L ≤ 48 ∧ 0 ≤ lyLong l m L ∧ lyLong l m L = lmax l m 0 L 0 := by
  unfold lyLong at h ⊢
  split at h
  · rename_i hc
    rw [if_pos hc]
    split at h
    · omega
    · rename_i h2
      rw [if_neg h2]
      exact ⟨hc.1, hc.2.1, hc.2.2, by omega, by omega, rfl⟩
  · omega
theorem range_map_succ (f : Nat → UInt8) (i : Nat) : (List.range (i + 1)).map f = (List.range i).map f ++ [f i] := by rw [List.range_succ, List.map_append]; rfl
theorem take_olens (objs : List ByteArray) (i : Nat) (h : i < objs.length) : olens (objs.take (i + 1)) = olens (objs.take i) ++ [((objs.getD i ByteArray.empty).size : Int)] := by
  unfold olens
  rw [List.take_succ_eq_append_getElem h, List.map_append, List.getD_eq_getElem?_getD, List.getElem?_eq_getElem h]
  rfl

theorem spec_LayText_l1 {l m : Int} (hl : 1 ≤ l) (hl8 : l ≤ 8) (hm : 1 ≤ m) (hm3 : m ≤ 3) (objs : List ByteArray) (hob : (objs.length : Int) = m) (hos : ∀ s ∈ objs, s.size ≤ 48) (n : Nat) (hn : n ≤ 48) : ∀ (d i : Nat) (x : ByteArray), i + d = n → B x = (List.range i).map (byteAt l m objs) →
    Ev (fun k => spec_LayText.l1 k objs (n : Int) x (i : Int) l m) (mkB ((List.range n).map (byteAt l m objs)), true) := by
  intro d
  induction d with
  | zero =>
    intro i x hi hx
    refine Ev.end_ (fun k => ?_)
    simp only [spec_LayText.l1]
    rw [if_neg (by omega)]
    obtain rfl : i = n := by omega
    rw [← hx, mkB_B]
  | succ d ih =>
    intro i x hi hx
    obtain ⟨b1, b2, b3, b4⟩ := lAt_bounds (l := l) (m := m) (p := i) hl hl8 hm hm3 (by omega) (by omega)
    have hxs : x.size = i := by rw [B_size, hx]; simp
    have hosz : (rdOf ByteArray.empty objs (lAt l m i).1).size ≤ 48 := hos _ (rdOf_mem objs _ b1 (by omega))
    by_cases hlt : (lAt l m i).2 < ((rdOf ByteArray.empty objs (lAt l m i).1).size : Int)
    · have e : B (x ++ (rdOf ByteArray.empty objs (lAt l m i).1).extract (lAt l m i).2.toNat ((lAt l m i).2.toNat + 1)) = (List.range (i + 1)).map (byteAt l m objs) := by
        rw [B_app, range_map_succ, hx]
        congr 1
        rw [B_ext, List.drop_take, show (lAt l m i).2.toNat + 1 - (lAt l m i).2.toNat = 1 by omega]
        unfold byteAt
        generalize rdOf ByteArray.empty objs (lAt l m i).1 = o at hlt
        have hl2 : (lAt l m i).2.toNat < (B o).length := by rw [← B_size]; omega
        rw [List.drop_eq_getElem_cons hl2, List.getD_eq_getElem?_getD, List.getElem?_eq_getElem hl2]
        rfl
      have ez : ((rdOf ByteArray.empty objs (lAt l m i).1).extract (lAt l m i).2.toNat ((lAt l m i).2.toNat + 1)).size ≤ 1 := one_size _ _
      refine Ev.cut (f := fun k => spec_LayText.l1 k objs (n : Int) (x ++ (rdOf ByteArray.empty objs (lAt l m i).1).extract (lAt l m i).2.toNat ((lAt l m i).2.toNat + 1)) ((i + 1 : Nat) : Int) l m) (ih (i + 1) _ (by omega) e) (fun k => ?_)
      simp only [spec_LayText.l1]
      have hw : wrap64 ((lAt l m i).2 + 1) = (lAt l m i).2 + 1 := wid (by omega) (by omega)
      have hw2 : ((lAt l m i).2 + 1).toNat = (lAt l m i).2.toNat + 1 := by omega
      rw [if_pos (by omega), spec_l3At_is hl hl8 hm hm3 (by omega) (by omega)]
      simp only [Option.bind_some]
      rw [if_pos b1, if_pos (by omega), if_pos hlt, if_pos b3, hw, if_pos (by omega), if_pos (by omega), hw2, if_pos (by omega), wsucc i (by omega)]
    · have e : B (x ++ (⟨#[46]⟩ : ByteArray)) = (List.range (i + 1)).map (byteAt l m objs) := by
        rw [B_app, range_map_succ, hx]
        congr 1
        unfold byteAt
        rw [List.getD_eq_getElem?_getD, List.getElem?_eq_none (by rw [← B_size]; omega)]
        rfl
      refine Ev.cut (f := fun k => spec_LayText.l1 k objs (n : Int) (x ++ (⟨#[46]⟩ : ByteArray)) ((i + 1 : Nat) : Int) l m) (ih (i + 1) _ (by omega) e) (fun k => ?_)
      simp only [spec_LayText.l1]
      rw [if_pos (by omega), spec_l3At_is hl hl8 hm hm3 (by omega) (by omega)]
      simp only [Option.bind_some]
      rw [if_pos b1, if_pos (by omega), if_neg hlt, if_pos (by omega), wsucc i (by omega)]
theorem spec_LayText_l0 (l m : Int) (objs : List ByteArray) (hol : objs.length ≤ 2000000) (hos : ∀ s ∈ objs, s.size < 4611686018427387904) : ∀ (d i : Nat), i + d = objs.length → (∀ s ∈ objs.take i, tOk (B s) = true) →
    Ev (fun k => spec_LayText.l0 k objs (olens (objs.take i)) (i : Int) l m) (mkB (lyText l m objs).1, (lyText l m objs).2) := by
  intro d
  induction d with
  | zero =>
    intro i hi hp
    rw [List.take_of_length_le (by omega)] at hp
    have hll := spec_LayLong_is l m (olens objs)
    unfold lyText
    rw [if_pos hp]
    refine Ev.cut (f := fun k => (spec_LayLong.f k l m (olens objs)).bind fun t => if t < 0 then some ((⟨#[]⟩ : ByteArray), false) else spec_LayText.l1 k objs t (⟨#[]⟩ : ByteArray) 0 l m) (Ev.bind hll ?_) (fun k => ?_)
    · by_cases hn : lyLong l m (olens objs) < 0
      · simp only [if_pos hn]
        exact Ev.now _
      · simp only [if_neg hn]
        obtain ⟨k1, k2, k3, k4, k5, _⟩ := lyLong_ok hn
        have hok := of_decide_eq_true k1
        have h := spec_LayText_l1 (l := l) (m := m) (by omega) (by omega) (by omega) (by omega) objs (by rw [← k2]; simp [olens]) (fun s hs => by rw [B_size]; exact tOk_len (hp s hs)) (lyLong l m (olens objs)).toNat (by omega) (lyLong l m (olens objs)).toNat 0 (⟨#[]⟩ : ByteArray) (by omega) rfl
        rw [Int.toNat_of_nonneg k5] at h
        exact h
    · simp only [spec_LayText.l0]
      rw [if_neg (by omega), List.take_of_length_le (by omega)]
  | succ d ih =>
    intro i hi hp
    have hlt : i < objs.length := by omega
    have hgd : objs.getD i ByteArray.empty = objs[i] := by rw [List.getD_eq_getElem?_getD, List.getElem?_eq_getElem hlt]; rfl
    have hto := spec_TextOk_is (objs.getD i ByteArray.empty) (by rw [hgd]; exact hos _ (List.getElem_mem hlt))
    cases ht : tOk (B (objs.getD i ByteArray.empty)) with
    | true =>
      have h := ih (i + 1) (by omega) (by
        intro s hs
        rw [List.take_succ_eq_append_getElem hlt, List.mem_append] at hs
        rcases hs with hs | hs
        · exact hp s hs
        · simp at hs
          subst hs
          rw [← hgd]
          exact ht)
      rw [ht] at hto
      refine Ev.cut (f := fun k => (spec_TextOk.f k (objs.getD i ByteArray.empty)).bind fun t => if t = true then (if (olens (objs.take i)).length < 17592186044416 then spec_LayText.l0 k objs (olens (objs.take i) ++ [((objs.getD i ByteArray.empty).size : Int)]) (wrap64 ((i : Int) + 1)) l m else none) else some ((⟨#[]⟩ : ByteArray), false)) (Ev.bind hto ?_) (fun k => ?_)
      · simp only [if_true]
        simp only [if_pos (show (olens (objs.take i)).length < 17592186044416 by simp [olens]; omega), wsucc i (by omega)]
        rw [← take_olens objs i hlt]
        exact h
      · simp only [spec_LayText.l0]
        rw [if_pos (by omega), if_pos (by omega)]
        rfl
    | false =>
      rw [ht] at hto
      have e : lyText l m objs = ([], false) := if_neg (fun hh => by
        have := hh (objs.getD i ByteArray.empty) (by rw [hgd]; exact List.getElem_mem hlt)
        rw [ht] at this
        cases this)
      rw [e]
      refine Ev.cut (f := fun k => (spec_TextOk.f k (objs.getD i ByteArray.empty)).bind fun t => if t = true then (if (olens (objs.take i)).length < 17592186044416 then spec_LayText.l0 k objs (olens (objs.take i) ++ [((objs.getD i ByteArray.empty).size : Int)]) (wrap64 ((i : Int) + 1)) l m else none) else some ((⟨#[]⟩ : ByteArray), false)) (Ev.bind hto (Ev.all fun k => by simp; rfl)) (fun k => ?_)
      simp only [spec_LayText.l0]
      rw [if_pos (by omega), if_pos (by omega)]
      rfl
theorem spec_LayText_is (l m : Int) (objs : List ByteArray) (hol : objs.length ≤ 2000000) (hos : ∀ s ∈ objs, s.size < 4611686018427387904) : Ev (fun k => spec_LayText.f k l m objs) (mkB (lyText l m objs).1, (lyText l m objs).2) := by
  have h := spec_LayText_l0 l m objs hol hos objs.length 0 (by omega) (fun s hs => by simp at hs)
  simpa [spec_LayText.f, olens] using h

theorem impl_LayText_l1 {l m : Int} (hl : 1 ≤ l) (hl8 : l ≤ 8) (hm : 1 ≤ m) (hm3 : m ≤ 3) (objs : List ByteArray) (hob : (objs.length : Int) = m) (n : Nat) (hn : n ≤ 48) : ∀ (d i : Nat), i + d = n →
    Ev (fun k => impl_LayText.l1 k objs ((List.range i).map fun j => ((byteAt l m objs j).toNat : Int)) (n : Int) (i : Int) l m) (mkB ((List.range n).map (byteAt l m objs)), true) := by
  have ho : laOk l m = true := decide_eq_true ⟨hl, hl8, hm, hm3⟩
  intro d
  induction d with
  | zero =>
    intro i hi
    refine Ev.end_ (fun k => ?_)
    simp only [impl_LayText.l1]
    rw [if_neg (by omega)]
    obtain rfl : i = n := by omega
    congr 2
    refine eq_mkB ?_
    show (((List.range i).map fun j => ((byteAt l m objs j).toNat : Int)).map fun n => UInt8.ofNat n.toNat).toArray.toList = _
    rw [List.map_map]
    simp
  | succ d ih =>
    intro i hi
    obtain ⟨b1, b2, b3, b4⟩ := lAt_bounds (l := l) (m := m) (p := i) hl hl8 hm hm3 (by omega) (by omega)
    have hy : lyAt l m (i : Int) = lAt l m (i : Int) := if_pos ⟨ho, by omega, by omega⟩
    have hr : ((List.range (i + 1)).map fun j => ((byteAt l m objs j).toNat : Int)) = ((List.range i).map fun j => ((byteAt l m objs j).toNat : Int)) ++ [((byteAt l m objs i).toNat : Int)] := by rw [List.range_succ, List.map_append]; rfl
    have h := ih (i + 1) (by omega)
    rw [hr] at h
    refine Ev.cut h (fun k => ?_)
    simp only [impl_LayText.l1]
    rw [if_pos (by omega), impl_LayAt_is, hy]
    simp only [Option.bind_some]
    rw [if_pos b1, if_pos (by omega)]
    by_cases hlt : (lAt l m i).2 < ((rdOf ByteArray.empty objs (lAt l m i).1).size : Int)
    · have e : bt (rdOf ByteArray.empty objs (lAt l m i).1) (lAt l m i).2 = ((byteAt l m objs i).toNat : Int) := by
        unfold byteAt
        generalize rdOf ByteArray.empty objs (lAt l m i).1 = o at hlt
        have hl2 : (lAt l m i).2.toNat < (B o).length := by rw [← B_size]; omega
        have hb := bt_B o (lAt l m i).2.toNat hl2
        rw [Int.toNat_of_nonneg b3] at hb
        rw [hb, List.getD_eq_getElem?_getD, List.getElem?_eq_getElem hl2]
        rfl
      rw [if_pos hlt, if_pos b3, if_pos (by simp; omega), wsucc i (by omega), e]
    · have e : (46 : Int) = ((byteAt l m objs i).toNat : Int) := by
        unfold byteAt
        rw [List.getD_eq_getElem?_getD, List.getElem?_eq_none (by rw [← B_size]; omega)]
        rfl
      rw [if_neg hlt, if_pos (by simp; omega), wsucc i (by omega), ← e]
theorem impl_LayText_l0 (l m : Int) (objs : List ByteArray) (hol : objs.length ≤ 2000000) (hos : ∀ s ∈ objs, s.size < 4611686018427387904) : ∀ (d i : Nat), i + d = objs.length → (∀ s ∈ objs.take i, tOk (B s) = true) →
    Ev (fun k => impl_LayText.l0 k objs (olens (objs.take i)) objs (objs.length : Int) (i : Int) l m) (mkB (lyText l m objs).1, (lyText l m objs).2) := by
  intro d
  induction d with
  | zero =>
    intro i hi hp
    rw [List.take_of_length_le (by omega)] at hp
    have hll := impl_LayLong_is l m (olens objs)
    unfold lyText
    rw [if_pos hp]
    refine Ev.cut (f := fun k => (impl_LayLong.f k l m (olens objs)).bind fun t => if t < 0 then some ((⟨#[]⟩ : ByteArray), false) else impl_LayText.l1 k objs ([] : List Int) t 0 l m) (Ev.bind hll ?_) (fun k => ?_)
    · by_cases hn : lyLong l m (olens objs) < 0
      · simp only [if_pos hn]
        exact Ev.now _
      · simp only [if_neg hn]
        obtain ⟨k1, k2, k3, k4, k5, _⟩ := lyLong_ok hn
        have hok := of_decide_eq_true k1
        have h := impl_LayText_l1 (l := l) (m := m) (by omega) (by omega) (by omega) (by omega) objs (by rw [← k2]; simp [olens]) (lyLong l m (olens objs)).toNat (by omega) (lyLong l m (olens objs)).toNat 0 (by omega)
        rw [Int.toNat_of_nonneg k5] at h
        exact h
    · simp only [impl_LayText.l0]
      rw [if_neg (by omega), List.take_of_length_le (by omega)]
  | succ d ih =>
    intro i hi hp
    have hlt : i < objs.length := by omega
    have hgd : objs.getD i ByteArray.empty = objs[i] := by rw [List.getD_eq_getElem?_getD, List.getElem?_eq_getElem hlt]; rfl
    have hto := impl_TextOk_is (objs.getD i ByteArray.empty) (by rw [hgd]; exact hos _ (List.getElem_mem hlt))
    cases ht : tOk (B (objs.getD i ByteArray.empty)) with
    | true =>
      have h := ih (i + 1) (by omega) (by
        intro s hs
        rw [List.take_succ_eq_append_getElem hlt, List.mem_append] at hs
        rcases hs with hs | hs
        · exact hp s hs
        · simp at hs
          subst hs
          rw [← hgd]
          exact ht)
      rw [ht] at hto
      refine Ev.cut (f := fun k => (impl_TextOk.f k (objs.getD i ByteArray.empty)).bind fun t => if t = true then (if (olens (objs.take i)).length < 17592186044416 then impl_LayText.l0 k objs (olens (objs.take i) ++ [((objs.getD i ByteArray.empty).size : Int)]) objs (objs.length : Int) (wrap64 ((i : Int) + 1)) l m else none) else some ((⟨#[]⟩ : ByteArray), false)) (Ev.bind hto ?_) (fun k => ?_)
      · simp only [if_true]
        simp only [if_pos (show (olens (objs.take i)).length < 17592186044416 by simp [olens]; omega), wsucc i (by omega)]
        rw [← take_olens objs i hlt]
        exact h
      · simp only [impl_LayText.l0]
        rw [if_pos (by omega), if_pos (by omega), if_pos (by omega)]
        rfl
    | false =>
      rw [ht] at hto
      have e : lyText l m objs = ([], false) := if_neg (fun hh => by
        have := hh (objs.getD i ByteArray.empty) (by rw [hgd]; exact List.getElem_mem hlt)
        rw [ht] at this
        cases this)
      rw [e]
      refine Ev.cut (f := fun k => (impl_TextOk.f k (objs.getD i ByteArray.empty)).bind fun t => if t = true then (if (olens (objs.take i)).length < 17592186044416 then impl_LayText.l0 k objs (olens (objs.take i) ++ [((objs.getD i ByteArray.empty).size : Int)]) objs (objs.length : Int) (wrap64 ((i : Int) + 1)) l m else none) else some ((⟨#[]⟩ : ByteArray), false)) (Ev.bind hto (Ev.all fun k => by simp; rfl)) (fun k => ?_)
      simp only [impl_LayText.l0]
      rw [if_pos (by omega), if_pos (by omega), if_pos (by omega)]
      rfl
theorem impl_LayText_is (l m : Int) (objs : List ByteArray) (hol : objs.length ≤ 2000000) (hos : ∀ s ∈ objs, s.size < 4611686018427387904) : Ev (fun k => impl_LayText.f k l m objs) (mkB (lyText l m objs).1, (lyText l m objs).2) := by
  have h := impl_LayText_l0 l m objs hol hos objs.length 0 (by omega) (fun s hs => by simp at hs)
  simpa [impl_LayText.f, olens] using h

/-! Lists of strings, compared. -/
theorem rdOf_nat (L : List ByteArray) (i : Nat) : rdOf ByteArray.empty L (i : Int) = L.getD i ByteArray.empty := rfl
theorem laws_eqStringS_l (L : List ByteArray) (hL : L.length < 4611686018427387904) : ∀ (d i : Nat), i + d = L.length → Ev (fun k => laws_eqStringS.l0 k L L (i : Int)) true := by
  intro d
  induction d with
  | zero =>
    intro i hi
    refine Ev.end_ (fun k => ?_)
    simp only [laws_eqStringS.l0]
    rw [if_neg (by omega)]
  | succ d ih =>
    intro i hi
    refine Ev.cut (f := fun k => laws_eqStringS.l0 k L L ((i + 1 : Nat) : Int)) (ih (i + 1) (by omega)) (fun k => ?_)
    simp only [laws_eqStringS.l0]
    rw [if_pos (by omega), if_pos (by omega), if_pos (by omega), wsucc i (by omega)]
    simp
theorem laws_eqStringS_refl (L : List ByteArray) (hL : L.length < 4611686018427387904) : Ev (fun k => laws_eqStringS.f k L L) true := by
  unfold laws_eqStringS.f
  simp only [if_true]
  exact laws_eqStringS_l L hL L.length 0 (by omega)

/-! Lists of strings, copied and measured. -/
theorem laws_toStringS_l (L : List ByteArray) (hL : L.length < 4611686018427387904) : ∀ (d i : Nat) (M : List ByteArray), i + d = L.length → M.length = L.length → (∀ j, j < i → M[j]? = L[j]?) →
    Ev (fun k => laws_toStringS.l0 k L M (i : Int)) L := by
  intro d
  induction d with
  | zero =>
    intro i M hi hM hj
    have : M = L := by
      apply List.ext_getElem?
      intro j
      by_cases h : j < i
      · exact hj j h
      · rw [List.getElem?_eq_none (by omega), List.getElem?_eq_none (by omega)]
    refine Ev.end_ (fun k => ?_)
    simp only [laws_toStringS.l0]
    rw [if_neg (by omega), this]
  | succ d ih =>
    intro i M hi hM hj
    have hlt : i < L.length := by omega
    refine Ev.cut (f := fun k => laws_toStringS.l0 k L (M.set i (L.getD i ByteArray.empty)) ((i + 1 : Nat) : Int)) (ih (i + 1) _ (by omega) (by simpa using hM) ?_) (fun k => ?_)
    · intro j hj'
      by_cases e : j = i
      · subst e
        rw [List.getElem?_set_self (by omega), List.getD_eq_getElem?_getD, List.getElem?_eq_getElem hlt]
        rfl
      · rw [List.getElem?_set_ne (Ne.symm e)]
        exact hj j (by omega)
    · simp only [laws_toStringS.l0]
      rw [if_pos (by omega), if_pos (by omega), if_pos (by omega), wsucc i (by omega)]
      rfl
theorem laws_toStringS_is (L : List ByteArray) (hL : L.length ≤ 17592186044416) : Ev (fun k => laws_toStringS.f k L) L := by
  unfold laws_toStringS.f
  simp only [if_pos (show (0 : Int) ≤ (L.length : Int) by omega), if_pos (show (L.length : Int).toNat ≤ 17592186044416 by omega)]
  exact laws_toStringS_l L (by omega) L.length 0 _ (by omega) (by simp) (fun j h => by omega)
theorem szStringS_l (L : List ByteArray) (hL : L.length ≤ 1048576) (hs : ∀ s ∈ L, s.size ≤ maxLen) : ∀ (d i : Nat) (a : Int), i + d = L.length → 0 ≤ a → a ≤ 1048576 → (∀ s ∈ L.take i, (s.size : Int) ≤ 1048576) →
    ∃ z, Ev (fun k => laws_szStringS.l0 k L a (i : Int)) z ∧ (¬ z < 0 → ∀ s ∈ L, (s.size : Int) ≤ 1048576) := by
  have hmx : maxLen = 9223372036854775807 := rfl
  intro d
  induction d with
  | zero =>
    intro i a hi h0 h1 hp
    rw [List.take_of_length_le (by omega)] at hp
    refine ⟨a, Ev.end_ (fun k => ?_), fun _ => hp⟩
    simp only [laws_szStringS.l0]
    rw [if_neg (by omega)]
  | succ d ih =>
    intro i a hi h0 h1 hp
    have hlt : i < L.length := by omega
    have hgd : L.getD i ByteArray.empty = L[i] := by rw [List.getD_eq_getElem?_getD, List.getElem?_eq_getElem hlt]; rfl
    have hz := hs _ (List.getElem_mem hlt)
    rw [← hgd] at hz
    have hw : wrap64 (a - ((L.getD i ByteArray.empty).size : Int)) = a - ((L.getD i ByteArray.empty).size : Int) := wid (by omega) (by omega)
    by_cases hn : a - ((L.getD i ByteArray.empty).size : Int) < 0
    · refine ⟨-1, Ev.end_ (fun k => ?_), fun h => absurd (by omega) h⟩
      simp only [laws_szStringS.l0]
      rw [if_pos (by omega), if_pos (by omega), show rdOf ByteArray.empty L (i : Int) = L.getD i ByteArray.empty from rfl, hw, if_pos hn]
    · obtain ⟨z, hz1, hz2⟩ := ih (i + 1) (a - ((L.getD i ByteArray.empty).size : Int)) (by omega) (by omega) (by omega) (by
        intro s hs2
        rw [List.take_succ_eq_append_getElem hlt, List.mem_append] at hs2
        rcases hs2 with hs2 | hs2
        · exact hp s hs2
        · simp at hs2
          subst hs2
          rw [← hgd]
          omega)
      refine ⟨z, Ev.cut hz1 (fun k => ?_), hz2⟩
      simp only [laws_szStringS.l0]
      rw [if_pos (by omega), if_pos (by omega), show rdOf ByteArray.empty L (i : Int) = L.getD i ByteArray.empty from rfl, hw, if_neg hn, wsucc i (by omega)]
theorem szStringS_is (L : List ByteArray) (hL : L.length ≤ maxLen) (hs : ∀ s ∈ L, s.size ≤ maxLen) : ∃ z, Ev (fun k => laws_szStringS.f k L 1048576) z ∧ (¬ z < 0 → L.length ≤ 1048576 ∧ ∀ s ∈ L, (s.size : Int) ≤ 1048576) := by
  have hmx : maxLen = 9223372036854775807 := rfl
  unfold laws_szStringS.f
  have hw : wrap64 (1048576 - (L.length : Int)) = 1048576 - (L.length : Int) := wid (by omega) (by omega)
  simp only [hw]
  by_cases hn : 1048576 - (L.length : Int) < 0
  · exact ⟨-1, by simp only [if_pos hn]; exact Ev.now _, fun h => absurd (by omega) h⟩
  · obtain ⟨z, hz, hzz⟩ := szStringS_l L (by omega) hs L.length 0 (1048576 - (L.length : Int)) (by omega) (by omega) (by omega) (fun s hs => by simp at hs)
    exact ⟨z, by simp only [if_neg hn]; exact hz, fun h => ⟨by omega, hzz h⟩⟩


theorem FnExactLayText (a0_0 a0_1 : Int) (l1 : List ByteArray) (w0_0 : (Lit.int .i64 a0_0).wf = true) (w0_1 : (Lit.int .i64 a0_1).wf = true) (hm1 : l1.length ≤ maxLen) (hw1 : ∀ x ∈ l1, x.size ≤ maxLen) : ∃ k, laws_FnExactLayText.f k a0_0 a0_1 l1 = some true := by
  have hmx : maxLen = 9223372036854775807 := rfl
  obtain ⟨z, hz, hzz⟩ := szStringS_is l1 hm1 hw1
  by_cases hn : z < 0
  · refine Ev.rounds (r := true) (g := fun k => laws_FnExactLayText.f k a0_0 a0_1 l1) ?_
    unfold laws_FnExactLayText.f
    refine Ev.bind hz ?_
    simp only [if_pos hn]
    exact Ev.now _
  · obtain ⟨q1, q2⟩ := hzz hn
    refine Ev.rounds (r := true) (g := fun k => laws_FnExactLayText.f k a0_0 a0_1 l1) ?_
    unfold laws_FnExactLayText.f
    refine Ev.bind hz ?_
    simp only [if_neg hn, laws_toLay.f, Option.bind_some]
    have hc := laws_toStringS_is l1 (by omega)
    have h1 := spec_LayText_is a0_0 a0_1 l1 (by omega) (fun s hs => by have := q2 s hs; omega)
    have h2 := impl_LayText_is a0_0 a0_1 l1 (by omega) (fun s hs => by have := q2 s hs; omega)
    refine Ev.bind hc (Ev.bind h1 (Ev.bind hc (Ev.bind h2 ?_)))
    simp only [if_true, bne_self_eq_false]
    refine Ev.cut (f := fun k => (laws_toStringS.f k l1).bind fun t => (laws_eqStringS.f k l1 t).bind fun u => if u = true then some true else some false) (Ev.bind hc (Ev.bind (laws_eqStringS_refl l1 (by omega)) (Ev.all fun k => rfl))) (fun k => ?_)
    simp only [laws_FnExactLayText.j0, Bool.false_eq_true, if_false]

end Go.Proofs.Ytmiknhlogpoikaa.Pure
