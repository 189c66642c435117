/- The law FnLayObjs over numbers and lists, as the program's text computes it: it answers true. Conditions: the arguments are of their kinds, lengths fit. -/
import Derived.Test.YthgemejhciojbaaQx22
import Derived.OpenShut
import Derived.Laws.Strings
namespace Go.Proofs.Ythgemejhciojbaa.Pure
open Go.RowKit Go.Proofs.Ythgemejhciojbaa.Q Go.Proofs.YthgemejhciojbaaW.PrintWords Go.Proofs.YthgemejhciojbaaW.PrintLast
set_option linter.unusedVariables false
set_option linter.unusedSimpArgs false

/-! Words for the pure side: strings as lists of bytes, counters as natural numbers, what is answered from some round on. -/
def B (s : ByteArray) : List UInt8 := s.data.toList
theorem B_size (s : ByteArray) : s.size = (B s).length := (Array.length_toList).symm
theorem B_toList (s : ByteArray) : s.toList = B s := Go.ByteArray.toList_eq s
theorem B_inj {s t : ByteArray} (h : B s = B t) : s = t := by
  cases s; cases t
  simp only [B] at h
  congr 1
  exact Array.ext' h
theorem B_app (s t : ByteArray) : B (s ++ t) = B s ++ B t := by simp [B, ByteArray.data_append]
theorem app_size (s t : ByteArray) : (s ++ t).size = s.size + t.size := by rw [B_size, B_app, List.length_append, ← B_size, ← B_size]
theorem B_ext (s : ByteArray) (i j : Nat) : B (s.extract i j) = ((B s).take j).drop i := by
  simp [B, ByteArray.data_extract, List.extract_eq_take_drop, List.drop_take]
theorem B_nil : B (⟨#[]⟩ : ByteArray) = [] := rfl
theorem bt_B (s : ByteArray) (i : Nat) (h : i < (B s).length) : bt s (i : Int) = (((B s)[i]'h).toNat : Int) := by
  have h' : (i : Int).toNat < s.size := by rw [B_size]; simpa using h
  unfold bt
  rw [dif_pos h']
  rfl
theorem wsucc (i : Nat) (h : i < 4611686018427387904) : wrap64 ((i : Int) + 1) = ((i + 1 : Nat) : Int) := by unfold wrap64; omega
theorem wpred (i : Nat) (h : i < 4611686018427387904) (h0 : 0 < i) : wrap64 ((i : Int) - 1) = ((i - 1 : Nat) : Int) := by unfold wrap64; omega
theorem wid {x : Int} (h0 : -9223372036854775808 ≤ x) (h1 : x ≤ 9223372036854775807) : wrap64 x = x := by unfold wrap64; omega
theorem Ev.cut {α : Type} {g f : Nat → Option α} {r : α} (k : Ev f r) (h : ∀ k, g (k + 1) = f k) : Ev g r := Ev.step h k
theorem Ev.end_ {α : Type} {g : Nat → Option α} {r : α} (h : ∀ k, g (k + 1) = some r) : Ev g r := Ev.step h (Ev.now r)
theorem Ev.all {α : Type} {g : Nat → Option α} {r : α} (h : ∀ k, g k = some r) : Ev g r := ⟨0, fun k _ => h k⟩
theorem Ev.uniq {α : Type} {g : Nat → Option α} {r q : α} (h : Ev g r) (h' : Ev g q) : r = q := by
  obtain ⟨K, h⟩ := h
  obtain ⟨K', h'⟩ := h'
  have h1 := h (max K K') (by omega)
  rw [h' (max K K') (by omega)] at h1
  exact (Option.some.inj h1).symm
theorem dec_eq {p q : Prop} [Decidable p] [Decidable q] (h : p ↔ q) : (some (decide p) : Option Bool) = some (decide q) := by rw [decide_eq_decide.2 h]
theorem dec_false {q : Prop} [Decidable q] (h : ¬ q) : (some false : Option Bool) = some (decide q) := by rw [decide_eq_false h]
theorem dec_true {q : Prop} [Decidable q] (h : q) : (some true : Option Bool) = some (decide q) := by rw [decide_eq_true h]

def mkB (L : List UInt8) : ByteArray := ⟨L.toArray⟩
theorem B_mkB (L : List UInt8) : B (mkB L) = L := by simp [B, mkB]
theorem eq_mkB {r : ByteArray} {X : List UInt8} (h : B r = X) : r = mkB X := B_inj (by rw [h, B_mkB])
theorem mkB_B (s : ByteArray) : mkB (B s) = s := (eq_mkB rfl).symm
theorem mkB_size (L : List UInt8) : (mkB L).size = L.length := by rw [B_size, B_mkB]

/-! Layouts, valid. -/
def laOk (a b : Int) : Bool := decide (1 ≤ a ∧ a ≤ 8 ∧ 1 ≤ b ∧ b ≤ 3)
theorem spec_LayOk_is (a b : Int) : spec_LayOk.f a b = some (laOk a b) := by
  unfold spec_LayOk.f laOk
  repeat' split
  all_goals first | exact dec_eq (by omega) | exact dec_false (by omega)
theorem impl_LayOk_is (a b : Int) : impl_LayOk.f a b = some (laOk a b) := by
  unfold impl_LayOk.f laOk
  repeat' split
  all_goals first | exact dec_eq (by omega) | exact dec_false (by omega)

/-! Where a place lies. -/
def lAt (l m p : Int) : Int × Int := (p / l % m, p / l / m * l + p % l)
theorem lAt_bounds {l m p : Int} (hl : 1 ≤ l) (hl8 : l ≤ 8) (hm : 1 ≤ m) (hm3 : m ≤ 3) (h0 : 0 ≤ p) (h1 : p < 100) : 0 ≤ (lAt l m p).1 ∧ (lAt l m p).1 < m ∧ 0 ≤ (lAt l m p).2 ∧ (lAt l m p).2 ≤ p := by
  have hq0 : 0 ≤ p / l := Int.ediv_nonneg h0 (by omega)
  have e1 : p / l * l + p % l = p := by rw [Int.mul_comm]; exact Int.mul_ediv_add_emod p l
  have r0 : 0 ≤ p % l := Int.emod_nonneg _ (by omega)
  have hq2 : 0 ≤ p / l / m := Int.ediv_nonneg hq0 (by omega)
  have hq3 : p / l / m ≤ p / l := Int.ediv_le_self _ hq0
  refine ⟨Int.emod_nonneg _ (by omega), Int.emod_lt_of_pos _ (by omega), ?_, ?_⟩
  · exact Int.add_nonneg (Int.mul_nonneg hq2 (by omega)) r0
  · have := Int.mul_le_mul_of_nonneg_right hq3 (show 0 ≤ l by omega)
    show p / l / m * l + p % l ≤ p
    omega
theorem lAt_words {l m p : Int} (hl : 1 ≤ l) (hl8 : l ≤ 8) (hm : 1 ≤ m) (hm3 : m ≤ 3) (h0 : 0 ≤ p) (h1 : p < 100) :
    Int.tmod (wrap64 (Int.tdiv p l)) m = (lAt l m p).1 ∧ wrap64 ((wrap64 ((wrap64 (Int.tdiv (wrap64 (Int.tdiv p l)) m)) * l)) + (Int.tmod p l)) = (lAt l m p).2 := by
  have hq0 : 0 ≤ p / l := Int.ediv_nonneg h0 (by omega)
  have hqp : p / l ≤ p := Int.ediv_le_self _ h0
  have hq2 : 0 ≤ p / l / m := Int.ediv_nonneg hq0 (by omega)
  have hq3 : p / l / m ≤ p / l := Int.ediv_le_self _ hq0
  have r0 : 0 ≤ p % l := Int.emod_nonneg _ (by omega)
  have r1 : p % l < l := Int.emod_lt_of_pos _ (by omega)
  have m0 : 0 ≤ p / l / m * l := Int.mul_nonneg hq2 (by omega)
  have m1 : p / l / m * l ≤ 100 * 8 := Int.mul_le_mul (by omega) hl8 (by omega) (by omega)
  rw [Int.tdiv_eq_ediv_of_nonneg h0, wid (x := p / l) (by omega) (by omega), Int.tmod_eq_emod_of_nonneg hq0, Int.tdiv_eq_ediv_of_nonneg hq0, wid (x := p / l / m) (by omega) (by omega), wid (x := p / l / m * l) (by omega) (by omega), Int.tmod_eq_emod_of_nonneg h0, wid (by omega) (by omega)]
  exact ⟨rfl, rfl⟩
def lyAt (l m p : Int) : Int × Int := if laOk l m = true ∧ 0 ≤ p ∧ p < 48 then lAt l m p else (-1, -1)
theorem spec_l3At_is {l m p : Int} (hl : 1 ≤ l) (hl8 : l ≤ 8) (hm : 1 ≤ m) (hm3 : m ≤ 3) (h0 : 0 ≤ p) (h1 : p < 100) : spec_l3At.f l m p = some (lAt l m p) := by
  unfold spec_l3At.f
  obtain ⟨e1, e2⟩ := lAt_words hl hl8 hm hm3 h0 h1
  rw [if_neg (by omega), if_neg (by omega), e1, e2]

theorem impl_LayAt_is (l m p : Int) : impl_LayAt.f l m p = some (lyAt l m p) := by
  unfold impl_LayAt.f lyAt
  rw [impl_LayOk_is]
  cases h : laOk l m with
  | false => simp
  | true =>
    have h' := of_decide_eq_true h
    simp only [Option.bind_some, if_true]
    by_cases h0 : p < 0
    · rw [if_pos h0, if_neg (by omega)]
    · rw [if_neg h0]
      by_cases h1 : p ≥ 48
      · rw [if_pos h1, if_neg (by omega)]
      · obtain ⟨e1, e2⟩ := lAt_words (l := l) (m := m) (p := p) (by omega) (by omega) (by omega) (by omega) (by omega) (by omega)
        rw [if_neg h1, if_neg (show ¬ l = 0 by omega), if_neg (show ¬ m = 0 by omega), e1, e2, if_pos ⟨trivial, by omega, by omega⟩]

/-! Files, valid. -/
def cOk (c : UInt8) : Bool := decide (c.toNat = 46 ∨ (97 ≤ c.toNat ∧ c.toNat ≤ 122) ∨ (48 ≤ c.toNat ∧ c.toNat ≤ 57))
def tOk (l : List UInt8) : Bool := l.all cOk && decide (l.length ≤ 48)
theorem spec_l2Byte_is (c : UInt8) : spec_l2Byte.f (c.toNat : Int) = some (cOk c) := by
  unfold spec_l2Byte.f cOk
  repeat' split
  all_goals first | exact dec_true (by omega) | exact dec_eq (by omega) | exact dec_false (by omega)
theorem all_drop (l : List UInt8) (i : Nat) (h : i < l.length) : (l.drop i).all cOk = (cOk l[i] && (l.drop (i + 1)).all cOk) := by
  rw [List.drop_eq_getElem_cons h, List.all_cons]
theorem spec_TextOk_l (s : ByteArray) (hs : s.size < 4611686018427387904) : ∀ (d i : Nat), i + d = (B s).length → Ev (fun k => spec_TextOk.l0 k s (i : Int)) ((((B s).drop i).all cOk) && decide ((B s).length ≤ 48)) := by
  have hz : (s.size : Int) = ((B s).length : Int) := by rw [B_size]
  have hs' : (B s).length < 4611686018427387904 := by rw [← B_size]; exact hs
  intro d
  induction d with
  | zero =>
    intro i hi
    refine Ev.end_ (fun k => ?_)
    simp only [spec_TextOk.l0]
    rw [hz, if_neg (by omega), List.drop_of_length_le (by omega)]
    simp
    omega
  | succ d ih =>
    intro i hi
    have hlt : i < (B s).length := by omega
    have hr : (((B s).drop i).all cOk) = (cOk ((B s)[i]) && ((B s).drop (i + 1)).all cOk) := all_drop _ _ hlt
    rw [hr]
    cases hc : cOk ((B s)[i]) with
    | true =>
      refine Ev.cut (f := fun k => spec_TextOk.l0 k s ((i + 1 : Nat) : Int)) ?_ (fun k => ?_)
      · simpa using ih (i + 1) (by omega)
      · simp only [spec_TextOk.l0]
        rw [hz, if_pos (by omega), if_pos (by omega), bt_B s i hlt, spec_l2Byte_is, wsucc i (by omega), hc]
        rfl
    | false =>
      refine Ev.end_ (fun k => ?_)
      simp only [spec_TextOk.l0]
      rw [hz, if_pos (by omega), if_pos (by omega), bt_B s i hlt, spec_l2Byte_is, hc]
      simp
theorem spec_TextOk_is (s : ByteArray) (hs : s.size < 4611686018427387904) : Ev (fun k => spec_TextOk.f k s) (tOk (B s)) := by
  have h := spec_TextOk_l s hs (B s).length 0 (by omega)
  simpa [spec_TextOk.f, tOk] using h
theorem impl_TextOk_l (s : ByteArray) (hs : s.size < 4611686018427387904) : ∀ (d i : Nat), i + d = (B s).length → Ev (fun k => impl_TextOk.l0 k s (s.size : Int) (i : Int)) ((((B s).drop i).all cOk) && decide ((B s).length ≤ 48)) := by
  have hz : (s.size : Int) = ((B s).length : Int) := by rw [B_size]
  have hs' : (B s).length < 4611686018427387904 := by rw [← B_size]; exact hs
  intro d
  induction d with
  | zero =>
    intro i hi
    refine Ev.end_ (fun k => ?_)
    simp only [impl_TextOk.l0]
    rw [hz, if_neg (by omega), List.drop_of_length_le (by omega)]
    simp
    omega
  | succ d ih =>
    intro i hi
    have hlt : i < (B s).length := by omega
    have hr : (((B s).drop i).all cOk) = (cOk ((B s)[i]) && ((B s).drop (i + 1)).all cOk) := all_drop _ _ hlt
    rw [hr]
    cases hc : cOk ((B s)[i]) with
    | true =>
      have hc' := of_decide_eq_true hc
      refine Ev.cut (f := fun k => impl_TextOk.l0 k s (s.size : Int) ((i + 1 : Nat) : Int)) ?_ (fun k => ?_)
      · simpa using ih (i + 1) (by omega)
      · simp only [impl_TextOk.l0]
        rw [if_pos (by omega), if_pos (by omega), if_pos (by omega), bt_B s i hlt, wsucc i (by omega)]
        repeat' split
        all_goals first | rfl | (exfalso; omega)
    | false =>
      have hc' := of_decide_eq_false hc
      refine Ev.end_ (fun k => ?_)
      simp only [impl_TextOk.l0]
      rw [if_pos (by omega), if_pos (by omega), if_pos (by omega), bt_B s i hlt]
      simp only [Bool.false_and]
      repeat' split
      all_goals first | rfl | (exfalso; omega)
theorem impl_TextOk_is (s : ByteArray) (hs : s.size < 4611686018427387904) : Ev (fun k => impl_TextOk.f k s) (tOk (B s)) := by
  have h := impl_TextOk_l s hs (B s).length 0 (by omega)
  simpa [impl_TextOk.f, tOk] using h

theorem tOk_len {L : List UInt8} (h : tOk L = true) : L.length ≤ 48 := by
  simp [tOk] at h
  exact h.2

/-! Which place lies there. -/
def lBack (l m o a : Int) : Int := (a / l * m + o) * l + a % l
theorem lBack_bounds {l m o a : Int} (hl : 1 ≤ l) (hl8 : l ≤ 8) (hm : 1 ≤ m) (hm3 : m ≤ 3) (ho : 0 ≤ o) (ho3 : o < 3) (h0 : 0 ≤ a) (h1 : a < 100) : 0 ≤ lBack l m o a ∧ lBack l m o a ≤ 5000 := by
  have hq0 : 0 ≤ a / l := Int.ediv_nonneg h0 (by omega)
  have hqa : a / l ≤ a := Int.ediv_le_self _ h0
  have r0 : 0 ≤ a % l := Int.emod_nonneg _ (by omega)
  have r1 : a % l < l := Int.emod_lt_of_pos _ (by omega)
  have m0 : 0 ≤ a / l * m := Int.mul_nonneg hq0 (by omega)
  have m1 : a / l * m ≤ 100 * 3 := Int.mul_le_mul (by omega) hm3 (by omega) (by omega)
  have p0 : 0 ≤ (a / l * m + o) * l := Int.mul_nonneg (by omega) (by omega)
  have p1 : (a / l * m + o) * l ≤ 303 * 8 := Int.mul_le_mul (by omega) hl8 (by omega) (by omega)
  unfold lBack
  omega
theorem lBack_words {l m o a : Int} (hl : 1 ≤ l) (hl8 : l ≤ 8) (hm : 1 ≤ m) (hm3 : m ≤ 3) (ho : 0 ≤ o) (ho3 : o < 3) (h0 : 0 ≤ a) (h1 : a < 100) :
    wrap64 ((wrap64 ((wrap64 ((wrap64 ((wrap64 (Int.tdiv a l)) * m)) + o)) * l)) + (Int.tmod a l)) = lBack l m o a := by
  have hq0 : 0 ≤ a / l := Int.ediv_nonneg h0 (by omega)
  have hqa : a / l ≤ a := Int.ediv_le_self _ h0
  have r0 : 0 ≤ a % l := Int.emod_nonneg _ (by omega)
  have r1 : a % l < l := Int.emod_lt_of_pos _ (by omega)
  have m0 : 0 ≤ a / l * m := Int.mul_nonneg hq0 (by omega)
  have m1 : a / l * m ≤ 100 * 3 := Int.mul_le_mul (by omega) hm3 (by omega) (by omega)
  have p0 : 0 ≤ (a / l * m + o) * l := Int.mul_nonneg (by omega) (by omega)
  have p1 : (a / l * m + o) * l ≤ 303 * 8 := Int.mul_le_mul (by omega) hl8 (by omega) (by omega)
  rw [Int.tdiv_eq_ediv_of_nonneg h0, wid (x := a / l) (by omega) (by omega), wid (x := a / l * m) (by omega) (by omega), wid (x := a / l * m + o) (by omega) (by omega), wid (x := (a / l * m + o) * l) (by omega) (by omega), Int.tmod_eq_emod_of_nonneg h0, wid (by omega) (by omega)]
  rfl

theorem spec_l3Back_is {l m o a : Int} (hl : 1 ≤ l) (hl8 : l ≤ 8) (hm : 1 ≤ m) (hm3 : m ≤ 3) (ho : 0 ≤ o) (ho3 : o < 3) (h0 : 0 ≤ a) (h1 : a < 100) : spec_l3Back.f l m o a = some (lBack l m o a) := by
  unfold spec_l3Back.f
  rw [if_neg (by omega), lBack_words hl hl8 hm hm3 ho ho3 h0 h1]

theorem impl_back_is {l m o a : Int} (hl : 1 ≤ l) (hl8 : l ≤ 8) (hm : 1 ≤ m) (hm3 : m ≤ 3) (ho : 0 ≤ o) (ho3 : o < 3) (h0 : 0 ≤ a) (h1 : a < 100) : impl_back.f l m o a = some (lBack l m o a) := by
  unfold impl_back.f
  rw [if_neg (by omega), lBack_words hl hl8 hm hm3 ho ho3 h0 h1]

theorem l1Max_is (a b : Int) : spec_l1Max.f a b = some (mx a b) := by
  unfold spec_l1Max.f mx
  split <;> split <;> first | rfl | (congr 1; omega)

/-! How long a file is. -/
def lmax (l m : Int) : Int → List Int → Int → Int
  | _, [], acc => acc
  | i, n :: r, acc => lmax l m (i + 1) r (if n > 0 then mx acc (lBack l m i (n - 1) + 1) else acc)
def lens (L : List Int) : Bool := L.all fun n => decide (0 ≤ n ∧ n ≤ 48)
def lyLong (l m : Int) (L : List Int) : Int := if laOk l m = true ∧ (L.length : Int) = m ∧ lens L = true then (if lmax l m 0 L 0 > 48 then -1 else lmax l m 0 L 0) else -1
theorem rd_nat (L : List Int) (i : Nat) : rd L (i : Int) = L.getD i 0 := rfl
theorem drop_rd (L : List Int) (i : Nat) (h : i < L.length) : L.drop i = L.getD i 0 :: L.drop (i + 1) := by
  rw [List.drop_eq_getElem_cons h, List.getD_eq_getElem?_getD, List.getElem?_eq_getElem h]
  rfl
theorem lmax_stepb {l m : Int} {i : Nat} {n acc : Int} (hl : 1 ≤ l) (hl8 : l ≤ 8) (hm : 1 ≤ m) (hm3 : m ≤ 3) (hi : (i : Int) < m) (h0 : 0 ≤ n) (h1 : n ≤ 48) (a0 : 0 ≤ acc) (a1 : acc ≤ 10000) :
    0 ≤ (if n > 0 then mx acc (lBack l m i (n - 1) + 1) else acc) ∧ (if n > 0 then mx acc (lBack l m i (n - 1) + 1) else acc) ≤ 10000 := by
  split
  · have := lBack_bounds (l := l) (m := m) (o := i) (a := n - 1) hl hl8 hm hm3 (by omega) (by omega) (by omega) (by omega)
    unfold mx
    split <;> omega
  · omega
theorem lens_drop (L : List Int) (i : Nat) (h : i < L.length) : lens (L.drop i) = (decide (0 ≤ L.getD i 0 ∧ L.getD i 0 ≤ 48) && lens (L.drop (i + 1))) := by
  rw [drop_rd L i h]
  rfl
theorem lens_short (L : List Int) (i : Nat) (h : ¬ i < L.length) : lens (L.drop i) = true := by rw [List.drop_of_length_le (by omega)]; rfl

theorem spec_l3Long_l {l m : Int} (hl : 1 ≤ l) (hl8 : l ≤ 8) (hm : 1 ≤ m) (hm3 : m ≤ 3) (L : List Int) (hL : (L.length : Int) = m) (ho : lens L = true) : ∀ (d i : Nat) (acc : Int), i + d = L.length → 0 ≤ acc → acc ≤ 10000 →
    Ev (fun k => spec_l3Long.l0 k L acc (i : Int) l m) (lmax l m i (L.drop i) acc) := by
  intro d
  induction d with
  | zero =>
    intro i acc hi h0 h1
    refine Ev.end_ (fun k => ?_)
    simp only [spec_l3Long.l0]
    rw [if_neg (by omega), List.drop_of_length_le (by omega)]
    rfl
  | succ d ih =>
    intro i acc hi h0 h1
    have hlt : i < L.length := by omega
    have hn : 0 ≤ L.getD i 0 ∧ L.getD i 0 ≤ 48 := by
      have := List.all_eq_true.1 ho (L.getD i 0) (by rw [List.getD_eq_getElem?_getD, List.getElem?_eq_getElem hlt]; exact List.getElem_mem hlt)
      exact of_decide_eq_true this
    have hs := lmax_stepb (i := i) hl hl8 hm hm3 (by omega) hn.1 hn.2 h0 h1
    rw [drop_rd L i hlt]
    refine Ev.cut (f := fun k => spec_l3Long.l0 k L (if L.getD i 0 > 0 then mx acc (lBack l m i (L.getD i 0 - 1) + 1) else acc) ((i + 1 : Nat) : Int) l m) (ih (i + 1) _ (by omega) hs.1 hs.2) (fun k => ?_)
    simp only [spec_l3Long.l0]
    rw [if_pos (by omega), if_pos (by omega), rd_nat, wsucc i (by omega)]
    by_cases hp : L.getD i 0 > 0
    · have := lBack_bounds (l := l) (m := m) (o := i) (a := L.getD i 0 - 1) hl hl8 hm hm3 (by omega) (by omega) (by omega) (by omega)
      rw [if_pos hp, if_pos hp, wid (x := L.getD i 0 - 1) (by omega) (by omega), spec_l3Back_is hl hl8 hm hm3 (by omega) (by omega) (by omega) (by omega), Option.bind_some, l1Max_is, Option.bind_some, wid (by omega) (by omega)]
    · rw [if_neg hp, if_neg hp]
theorem spec_LayLong_l {l m : Int} (hl : 1 ≤ l) (hl8 : l ≤ 8) (hm : 1 ≤ m) (hm3 : m ≤ 3) (L : List Int) (hL : (L.length : Int) = m) : ∀ (d i : Nat), i + d = L.length → lens (L.take i) = true →
    Ev (fun k => spec_LayLong.l0 k L (i : Int) l m) (if lens (L.drop i) = true then (if lmax l m 0 L 0 > 48 then -1 else lmax l m 0 L 0) else -1) := by
  intro d
  induction d with
  | zero =>
    intro i hi hp
    rw [lens_short L i (by omega), if_pos rfl]
    have ho : lens L = true := by rwa [List.take_of_length_le (by omega)] at hp
    have h := spec_l3Long_l hl hl8 hm hm3 L hL ho L.length 0 0 (by omega) (by omega) (by omega)
    refine Ev.cut (f := fun k => (spec_l3Long.f k l m L).bind fun t => if t > 48 then some (-1) else some t) (Ev.bind (a := lmax l m 0 L 0) (by simpa [spec_l3Long.f] using h) (Ev.all fun k => ?_)) (fun k => ?_)
    · split <;> rfl
    · simp only [spec_LayLong.l0]
      rw [if_neg (by omega)]
  | succ d ih =>
    intro i hi hp
    have hlt : i < L.length := by omega
    rw [lens_drop L i hlt]
    by_cases hn : 0 ≤ L.getD i 0 ∧ L.getD i 0 ≤ 48
    · rw [decide_eq_true hn, Bool.true_and]
      refine Ev.cut (f := fun k => spec_LayLong.l0 k L ((i + 1 : Nat) : Int) l m) (ih (i + 1) (by omega) ?_) (fun k => ?_)
      · rw [List.take_succ_eq_append_getElem hlt]
        unfold lens at hp ⊢
        rw [List.all_append, hp]
        rw [List.getD_eq_getElem?_getD, List.getElem?_eq_getElem hlt, Option.getD_some] at hn
        simp
        omega
      · simp only [spec_LayLong.l0]
        rw [if_pos (by omega), if_pos (by omega), rd_nat, if_neg (by omega), if_neg (by omega), wsucc i (by omega)]
    · rw [decide_eq_false hn, Bool.false_and]
      refine Ev.end_ (fun k => ?_)
      simp only [spec_LayLong.l0]
      simp only [Bool.false_eq_true, if_false]
      rw [if_pos (by omega), if_pos (by omega), rd_nat]
      by_cases h0 : L.getD i 0 < 0
      · rw [if_pos h0]
      · rw [if_neg h0, if_pos (by omega)]
theorem spec_LayLong_is (l m : Int) (L : List Int) : Ev (fun k => spec_LayLong.f k l m L) (lyLong l m L) := by
  unfold spec_LayLong.f lyLong
  rw [spec_LayOk_is]
  cases h : laOk l m with
  | false => exact Ev.end_ (fun k => by simp [spec_LayLong.j0])
  | true =>
    have h' := of_decide_eq_true h
    simp only [Option.bind_some, if_true]
    by_cases hL : (L.length : Int) = m
    · refine Ev.cut (f := fun k => spec_LayLong.l0 k L ((0 : Nat) : Int) l m) ?_ (fun k => by simp [spec_LayLong.j0, hL])
      have hh := spec_LayLong_l (l := l) (m := m) (by omega) (by omega) (by omega) (by omega) L hL L.length 0 (by omega) (by rfl)
      simpa [hL] using hh
    · exact Ev.end_ (fun k => by simp [spec_LayLong.j0, hL])

theorem impl_LayLong_l {l m : Int} (hl : 1 ≤ l) (hl8 : l ≤ 8) (hm : 1 ≤ m) (hm3 : m ≤ 3) (L : List Int) (hL : (L.length : Int) = m) : ∀ (d i : Nat) (acc : Int), i + d = L.length → 0 ≤ acc → acc ≤ 10000 →
    Ev (fun k => impl_LayLong.l0 k acc L (L.length : Int) (i : Int) l m) (if lens (L.drop i) = true then (if lmax l m i (L.drop i) acc > 48 then -1 else lmax l m i (L.drop i) acc) else -1) := by
  intro d
  induction d with
  | zero =>
    intro i acc hi h0 h1
    rw [lens_short L i (by omega), if_pos rfl, List.drop_of_length_le (by omega)]
    refine Ev.end_ (fun k => ?_)
    simp only [impl_LayLong.l0]
    rw [if_neg (by omega)]
    unfold lmax
    split <;> rfl
  | succ d ih =>
    intro i acc hi h0 h1
    have hlt : i < L.length := by omega
    rw [lens_drop L i hlt]
    by_cases hn : 0 ≤ L.getD i 0 ∧ L.getD i 0 ≤ 48
    · rw [decide_eq_true hn, Bool.true_and, drop_rd L i hlt]
      have hs := lmax_stepb (i := i) hl hl8 hm hm3 (by omega) hn.1 hn.2 h0 h1
      refine Ev.cut (f := fun k => impl_LayLong.j2 k acc (i : Int) (L.getD i 0) L (L.length : Int) (i : Int) false l m) (Ev.cut (f := fun k => impl_LayLong.l0 k (if L.getD i 0 > 0 then mx acc (lBack l m i (L.getD i 0 - 1) + 1) else acc) L (L.length : Int) ((i + 1 : Nat) : Int) l m) (ih (i + 1) _ (by omega) hs.1 hs.2) (fun k => ?_)) (fun k => ?_)
      · simp only [impl_LayLong.j2]
        rw [if_neg (by simp), wsucc i (by omega)]
        by_cases hp : L.getD i 0 > 0
        · have := lBack_bounds (l := l) (m := m) (o := i) (a := L.getD i 0 - 1) hl hl8 hm hm3 (by omega) (by omega) (by omega) (by omega)
          rw [if_pos hp, if_pos hp, wid (x := L.getD i 0 - 1) (by omega) (by omega), impl_back_is hl hl8 hm hm3 (by omega) (by omega) (by omega) (by omega), Option.bind_some, wid (by omega) (by omega)]
        · rw [if_neg hp, if_neg hp]
      · simp only [impl_LayLong.l0]
        rw [if_pos (by omega), if_pos (by omega), if_pos (by omega), rd_nat, if_neg (by omega), decide_eq_false (show ¬ L.getD i 0 > 48 by omega)]
    · rw [decide_eq_false hn, Bool.false_and, if_neg (by simp)]
      refine Ev.cut (f := fun k => impl_LayLong.j2 k acc (i : Int) (L.getD i 0) L (L.length : Int) (i : Int) true l m) (Ev.end_ (fun k => ?_)) (fun k => ?_)
      · simp only [impl_LayLong.j2]
        rw [if_pos trivial]
      · simp only [impl_LayLong.l0]
        rw [if_pos (by omega), if_pos (by omega), if_pos (by omega), rd_nat]
        by_cases h2 : L.getD i 0 < 0
        · rw [if_pos h2]
        · rw [if_neg h2, decide_eq_true (show L.getD i 0 > 48 by omega)]
theorem impl_LayLong_is (l m : Int) (L : List Int) : Ev (fun k => impl_LayLong.f k l m L) (lyLong l m L) := by
  unfold impl_LayLong.f lyLong
  rw [impl_LayOk_is]
  cases h : laOk l m with
  | false => exact Ev.end_ (fun k => by simp [impl_LayLong.j0])
  | true =>
    have h' := of_decide_eq_true h
    simp only [Option.bind_some, if_true]
    by_cases hL : (L.length : Int) = m
    · refine Ev.cut (f := fun k => impl_LayLong.l0 k 0 L (L.length : Int) ((0 : Nat) : Int) l m) ?_ (fun k => by simp [impl_LayLong.j0, hL])
      have hh := impl_LayLong_l (l := l) (m := m) (by omega) (by omega) (by omega) (by omega) L hL L.length 0 0 (by omega) (by omega) (by omega)
      simpa [hL] using hh
    · exact Ev.end_ (fun k => by simp [impl_LayLong.j0, hL])

theorem getD_lt (L : List UInt8) (i : Nat) (h : i < L.length) : L[i]? = some (L.getD i 46) := by
  rw [List.getD_eq_getElem?_getD, List.getElem?_eq_getElem h]
  rfl
theorem getD_ge (L : List UInt8) (i : Nat) (h : ¬ i < L.length) : L.getD i 46 = 46 := by
  rw [List.getD_eq_getElem?_getD, List.getElem?_eq_none (by omega)]
  rfl
theorem tOk_iff {L : List UInt8} : tOk L = true ↔ (∀ x ∈ L, cOk x = true) ∧ L.length ≤ 48 := by
  unfold tOk
  rw [Bool.and_eq_true, List.all_eq_true, decide_eq_true_iff]
theorem bt_get {s : ByteArray} {i : Nat} {x : UInt8} (h : (B s)[i]? = some x) : bt s (i : Int) = (x.toNat : Int) := by
  have hl := (List.getElem?_eq_some_iff.1 h).1
  rw [bt_B s i hl, (List.getElem?_eq_some_iff.1 h).2]

theorem one_size (s : ByteArray) (i : Nat) : (s.extract i (i + 1)).size ≤ 1 := by
  rw [B_size, B_ext, List.length_drop, List.length_take]
  omega

/-! A file, dealt to its objects. -/
def deal (l m : Int) (s : ByteArray) (out : List ByteArray) (i : Nat) : List ByteArray := out.set (lAt l m i).1.toNat (rdOf ByteArray.empty out (lAt l m i).1 ++ s.extract i (i + 1))
def lyOf (l m : Int) (s : ByteArray) : List ByteArray := if laOk l m = true ∧ tOk (B s) = true then (List.range' 0 s.size).foldl (deal l m s) (List.replicate m.toNat (⟨#[]⟩ : ByteArray)) else []
theorem deal_length (l m : Int) (s : ByteArray) (out : List ByteArray) (i : Nat) : (deal l m s out i).length = out.length := by simp [deal]
theorem rdOf_size {out : List ByteArray} {i n : Nat} (h : ∀ x ∈ out, x.size ≤ n) : (rdOf ByteArray.empty out (i : Int)).size ≤ n := by
  unfold rdOf
  rw [show (i : Int).toNat = i from rfl, List.getD_eq_getElem?_getD]
  cases e : out[i]? with
  | none => simp
  | some x => exact h x (List.mem_of_getElem? e)
theorem deal_sizes {l m : Int} {s : ByteArray} {out : List ByteArray} {i : Nat} (h : ∀ x ∈ out, x.size ≤ i) (h0 : 0 ≤ (lAt l m i).1) : ∀ x ∈ deal l m s out i, x.size ≤ i + 1 := by
  intro x hx
  unfold deal at hx
  rcases List.mem_or_eq_of_mem_set hx with hx | rfl
  · exact Nat.le_succ_of_le (h x hx)
  · have h1 := one_size s i
    have h2 := rdOf_size (i := (lAt l m i).1.toNat) h
    rw [Int.toNat_of_nonneg h0] at h2
    rw [B_size, B_app, List.length_append, ← B_size, ← B_size]
    omega
theorem spec_LayOf_l1 {l m : Int} (hl : 1 ≤ l) (hl8 : l ≤ 8) (hm : 1 ≤ m) (hm3 : m ≤ 3) (s : ByteArray) (hs : s.size ≤ 48) : ∀ (d i : Nat) (out : List ByteArray), i + d = s.size → (out.length : Int) = m → (∀ x ∈ out, x.size ≤ i) →
    Ev (fun k => spec_LayOf.l1 k s out (i : Int) l m) ((List.range' i d).foldl (deal l m s) out) := by
  intro d
  induction d with
  | zero =>
    intro i out hi hm' hx
    refine Ev.end_ (fun k => ?_)
    simp only [spec_LayOf.l1]
    rw [if_neg (by omega)]
    rfl
  | succ d ih =>
    intro i out hi hm' hx
    obtain ⟨b1, b2, b3, b4⟩ := lAt_bounds (l := l) (m := m) (p := i) hl hl8 hm hm3 (by omega) (by omega)
    have z1 := one_size s i
    have z2 := rdOf_size (i := (lAt l m i).1.toNat) hx
    rw [Int.toNat_of_nonneg b1] at z2
    rw [List.range'_succ, List.foldl_cons]
    refine Ev.cut (f := fun k => spec_LayOf.l1 k s (deal l m s out i) ((i + 1 : Nat) : Int) l m) (ih (i + 1) _ (by omega) (by rw [deal_length]; exact hm') (deal_sizes hx b1)) (fun k => ?_)
    simp only [spec_LayOf.l1]
    rw [if_pos (by omega), spec_l3At_is hl hl8 hm hm3 (by omega) (by omega)]
    simp only [Option.bind_some]
    rw [if_pos b1, if_pos (by omega), if_pos (by omega), wsucc i (by omega), if_pos (by omega), if_pos (by omega), if_pos ?_]
    · rfl
    · show (rdOf ByteArray.empty out (lAt l m i).1).size + (s.extract i (i + 1)).size ≤ _
      omega
theorem spec_LayOf_l0 {l m : Int} (hl : 1 ≤ l) (hl8 : l ≤ 8) (hm : 1 ≤ m) (hm3 : m ≤ 3) (s : ByteArray) (hs : s.size ≤ 48) : ∀ (d i : Nat), (i : Int) + d = m →
    Ev (fun k => spec_LayOf.l0 k s (List.replicate i (⟨#[]⟩ : ByteArray)) (i : Int) l m) ((List.range' 0 s.size).foldl (deal l m s) (List.replicate m.toNat (⟨#[]⟩ : ByteArray))) := by
  intro d
  induction d with
  | zero =>
    intro i hi
    obtain rfl : m.toNat = i := by omega
    refine Ev.cut (f := fun k => spec_LayOf.l1 k s (List.replicate m.toNat (⟨#[]⟩ : ByteArray)) ((0 : Nat) : Int) l m) (spec_LayOf_l1 hl hl8 hm hm3 s hs s.size 0 _ (by omega) (by simp; omega) (fun x hx => by rw [List.eq_of_mem_replicate hx]; exact Nat.le_refl _)) (fun k => ?_)
    simp only [spec_LayOf.l0]
    rw [if_neg (by omega)]
    rfl
  | succ d ih =>
    intro i hi
    refine Ev.cut (f := fun k => spec_LayOf.l0 k s (List.replicate (i + 1) (⟨#[]⟩ : ByteArray)) ((i + 1 : Nat) : Int) l m) (ih (i + 1) (by omega)) (fun k => ?_)
    simp only [spec_LayOf.l0]
    rw [if_pos (by omega), if_pos (by simp; omega), wsucc i (by omega), ← List.replicate_succ']
theorem spec_LayOf_is (l m : Int) (s : ByteArray) (hz : s.size < 4611686018427387904) : Ev (fun k => spec_LayOf.f k l m s) (lyOf l m s) := by
  unfold spec_LayOf.f lyOf
  simp only [Option.bind_some, spec_LayOk_is]
  cases h : laOk l m with
  | false => exact Ev.end_ (fun k => by simp [spec_LayOf.j0])
  | true =>
    have h' := of_decide_eq_true h
    simp only [if_true]
    refine Ev.bind (spec_TextOk_is s hz) ?_
    cases ht : tOk (B s) with
    | false => exact Ev.end_ (fun k => by simp [spec_LayOf.j0])
    | true =>
      have hs : s.size ≤ 48 := by rw [B_size]; simp [tOk] at ht; exact ht.2
      simp only [true_and, if_true]
      refine Ev.cut (f := fun k => spec_LayOf.l0 k s (List.replicate 0 (⟨#[]⟩ : ByteArray)) ((0 : Nat) : Int) l m) (spec_LayOf_l0 (by omega) (by omega) (by omega) (by omega) s hs m.toNat 0 (by omega)) (fun k => ?_)
      simp [spec_LayOf.j0]
theorem lyOf_small (l m : Int) (s : ByteArray) : (lyOf l m s).length ≤ 3 := by
  unfold lyOf
  split
  · rename_i h
    have h' := of_decide_eq_true h.1
    have : ∀ (L : List Nat) (out : List ByteArray), (L.foldl (deal l m s) out).length = out.length := by
      intro L
      induction L with
      | nil => intro out; rfl
      | cons a L ih => intro out; rw [List.foldl_cons, ih, deal_length]
    rw [this]
    simp
    omega
  · simp

theorem rdOf_mem (l : List ByteArray) (i : Int) (h0 : 0 ≤ i) (h1 : i < (l.length : Int)) : rdOf ByteArray.empty l i ∈ l := by
  unfold rdOf
  rw [List.getD_eq_getElem?_getD, List.getElem?_eq_getElem (by omega)]
  exact List.getElem_mem _

/-! A file out of its objects. -/
def olens (objs : List ByteArray) : List Int := objs.map fun s => (s.size : Int)
def byteAt (l m : Int) (objs : List ByteArray) (i : Nat) : UInt8 := (B (rdOf ByteArray.empty objs (lAt l m i).1)).getD (lAt l m i).2.toNat 46
def lyText (l m : Int) (objs : List ByteArray) : List UInt8 × Bool :=
  if (∀ s ∈ objs, tOk (B s) = true) then (if lyLong l m (olens objs) < 0 then ([], false) else ((List.range (lyLong l m (olens objs)).toNat).map (byteAt l m objs), true)) else ([], false)
theorem lyLong_ok {l m : Int} {L : List Int} (h : ¬ lyLong l m L < 0) : laOk l m = true ∧ (L.length : Int) = m ∧ lens L = true ∧ lyLong l m L ≤ 48 ∧ 0 ≤ lyLong l m L ∧ lyLong l m L = lmax l m 0 L 0 := by
  unfold lyLong at h ⊢
  split at h
  · rename_i hc
    rw [if_pos hc]
    split at h
    · omega
    · rename_i h2
      rw [if_neg h2]
      exact ⟨hc.1, hc.2.1, hc.2.2, by omega, by omega, rfl⟩
  · omega
theorem range_map_succ (f : Nat → UInt8) (i : Nat) : (List.range (i + 1)).map f = (List.range i).map f ++ [f i] := by rw [List.range_succ, List.map_append]; rfl
theorem take_olens (objs : List ByteArray) (i : Nat) (h : i < objs.length) : olens (objs.take (i + 1)) = olens (objs.take i) ++ [((objs.getD i ByteArray.empty).size : Int)] := by
  unfold olens
  rw [List.take_succ_eq_append_getElem h, List.map_append, List.getD_eq_getElem?_getD, List.getElem?_eq_getElem h]
  rfl

theorem spec_LayText_l1 {l m : Int} (hl : 1 ≤ l) (hl8 : l ≤ 8) (hm : 1 ≤ m) (hm3 : m ≤ 3) (objs : List ByteArray) (hob : (objs.length : Int) = m) (hos : ∀ s ∈ objs, s.size ≤ 48) (n : Nat) (hn : n ≤ 48) : ∀ (d i : Nat) (x : ByteArray), i + d = n → B x = (List.range i).map (byteAt l m objs) →
    Ev (fun k => spec_LayText.l1 k objs (n : Int) x (i : Int) l m) (mkB ((List.range n).map (byteAt l m objs)), true) := by
  intro d
  induction d with
  | zero =>
    intro i x hi hx
    refine Ev.end_ (fun k => ?_)
    simp only [spec_LayText.l1]
    rw [if_neg (by omega)]
    obtain rfl : i = n := by omega
    rw [← hx, mkB_B]
  | succ d ih =>
    intro i x hi hx
    obtain ⟨b1, b2, b3, b4⟩ := lAt_bounds (l := l) (m := m) (p := i) hl hl8 hm hm3 (by omega) (by omega)
    have hxs : x.size = i := by rw [B_size, hx]; simp
    have hosz : (rdOf ByteArray.empty objs (lAt l m i).1).size ≤ 48 := hos _ (rdOf_mem objs _ b1 (by omega))
    by_cases hlt : (lAt l m i).2 < ((rdOf ByteArray.empty objs (lAt l m i).1).size : Int)
    · have e : B (x ++ (rdOf ByteArray.empty objs (lAt l m i).1).extract (lAt l m i).2.toNat ((lAt l m i).2.toNat + 1)) = (List.range (i + 1)).map (byteAt l m objs) := by
        rw [B_app, range_map_succ, hx]
        congr 1
        rw [B_ext, List.drop_take, show (lAt l m i).2.toNat + 1 - (lAt l m i).2.toNat = 1 by omega]
        unfold byteAt
        generalize rdOf ByteArray.empty objs (lAt l m i).1 = o at hlt
        have hl2 : (lAt l m i).2.toNat < (B o).length := by rw [← B_size]; omega
        rw [List.drop_eq_getElem_cons hl2, List.getD_eq_getElem?_getD, List.getElem?_eq_getElem hl2]
        rfl
      have ez : ((rdOf ByteArray.empty objs (lAt l m i).1).extract (lAt l m i).2.toNat ((lAt l m i).2.toNat + 1)).size ≤ 1 := one_size _ _
      refine Ev.cut (f := fun k => spec_LayText.l1 k objs (n : Int) (x ++ (rdOf ByteArray.empty objs (lAt l m i).1).extract (lAt l m i).2.toNat ((lAt l m i).2.toNat + 1)) ((i + 1 : Nat) : Int) l m) (ih (i + 1) _ (by omega) e) (fun k => ?_)
      simp only [spec_LayText.l1]
      have hw : wrap64 ((lAt l m i).2 + 1) = (lAt l m i).2 + 1 := wid (by omega) (by omega)
      have hw2 : ((lAt l m i).2 + 1).toNat = (lAt l m i).2.toNat + 1 := by omega
      rw [if_pos (by omega), spec_l3At_is hl hl8 hm hm3 (by omega) (by omega)]
      simp only [Option.bind_some]
      rw [if_pos b1, if_pos (by omega), if_pos hlt, if_pos b3, hw, if_pos (by omega), if_pos (by omega), hw2, if_pos (by omega), wsucc i (by omega)]
    · have e : B (x ++ (⟨#[46]⟩ : ByteArray)) = (List.range (i + 1)).map (byteAt l m objs) := by
        rw [B_app, range_map_succ, hx]
        congr 1
        unfold byteAt
        rw [List.getD_eq_getElem?_getD, List.getElem?_eq_none (by rw [← B_size]; omega)]
        rfl
      refine Ev.cut (f := fun k => spec_LayText.l1 k objs (n : Int) (x ++ (⟨#[46]⟩ : ByteArray)) ((i + 1 : Nat) : Int) l m) (ih (i + 1) _ (by omega) e) (fun k => ?_)
      simp only [spec_LayText.l1]
      rw [if_pos (by omega), spec_l3At_is hl hl8 hm hm3 (by omega) (by omega)]
      simp only [Option.bind_some]
      rw [if_pos b1, if_pos (by omega), if_neg hlt, if_pos (by omega), wsucc i (by omega)]
theorem spec_LayText_l0 (l m : Int) (objs : List ByteArray) (hol : objs.length ≤ 2000000) (hos : ∀ s ∈ objs, s.size < 4611686018427387904) : ∀ (d i : Nat), i + d = objs.length → (∀ s ∈ objs.take i, tOk (B s) = true) →
    Ev (fun k => spec_LayText.l0 k objs (olens (objs.take i)) (i : Int) l m) (mkB (lyText l m objs).1, (lyText l m objs).2) := by
  intro d
  induction d with
  | zero =>
    intro i hi hp
    rw [List.take_of_length_le (by omega)] at hp
    have hll := spec_LayLong_is l m (olens objs)
    unfold lyText
    rw [if_pos hp]
    refine Ev.cut (f := fun k => (spec_LayLong.f k l m (olens objs)).bind fun t => if t < 0 then some ((⟨#[]⟩ : ByteArray), false) else spec_LayText.l1 k objs t (⟨#[]⟩ : ByteArray) 0 l m) (Ev.bind hll ?_) (fun k => ?_)
    · by_cases hn : lyLong l m (olens objs) < 0
      · simp only [if_pos hn]
        exact Ev.now _
      · simp only [if_neg hn]
        obtain ⟨k1, k2, k3, k4, k5, _⟩ := lyLong_ok hn
        have hok := of_decide_eq_true k1
        have h := spec_LayText_l1 (l := l) (m := m) (by omega) (by omega) (by omega) (by omega) objs (by rw [← k2]; simp [olens]) (fun s hs => by rw [B_size]; exact tOk_len (hp s hs)) (lyLong l m (olens objs)).toNat (by omega) (lyLong l m (olens objs)).toNat 0 (⟨#[]⟩ : ByteArray) (by omega) rfl
        rw [Int.toNat_of_nonneg k5] at h
        exact h
    · simp only [spec_LayText.l0]
      rw [if_neg (by omega), List.take_of_length_le (by omega)]
  | succ d ih =>
    intro i hi hp
    have hlt : i < objs.length := by omega
    have hgd : objs.getD i ByteArray.empty = objs[i] := by rw [List.getD_eq_getElem?_getD, List.getElem?_eq_getElem hlt]; rfl
    have hto := spec_TextOk_is (objs.getD i ByteArray.empty) (by rw [hgd]; exact hos _ (List.getElem_mem hlt))
    cases ht : tOk (B (objs.getD i ByteArray.empty)) with
    | true =>
      have h := ih (i + 1) (by omega) (by
        intro s hs
        rw [List.take_succ_eq_append_getElem hlt, List.mem_append] at hs
        rcases hs with hs | hs
        · exact hp s hs
        · simp at hs
          subst hs
          rw [← hgd]
          exact ht)
      rw [ht] at hto
      refine Ev.cut (f := fun k => (spec_TextOk.f k (objs.getD i ByteArray.empty)).bind fun t => if t = true then (if (olens (objs.take i)).length < 17592186044416 then spec_LayText.l0 k objs (olens (objs.take i) ++ [((objs.getD i ByteArray.empty).size : Int)]) (wrap64 ((i : Int) + 1)) l m else none) else some ((⟨#[]⟩ : ByteArray), false)) (Ev.bind hto ?_) (fun k => ?_)
      · simp only [if_true]
        simp only [if_pos (show (olens (objs.take i)).length < 17592186044416 by simp [olens]; omega), wsucc i (by omega)]
        rw [← take_olens objs i hlt]
        exact h
      · simp only [spec_LayText.l0]
        rw [if_pos (by omega), if_pos (by omega)]
        rfl
    | false =>
      rw [ht] at hto
      have e : lyText l m objs = ([], false) := if_neg (fun hh => by
        have := hh (objs.getD i ByteArray.empty) (by rw [hgd]; exact List.getElem_mem hlt)
        rw [ht] at this
        cases this)
      rw [e]
      refine Ev.cut (f := fun k => (spec_TextOk.f k (objs.getD i ByteArray.empty)).bind fun t => if t = true then (if (olens (objs.take i)).length < 17592186044416 then spec_LayText.l0 k objs (olens (objs.take i) ++ [((objs.getD i ByteArray.empty).size : Int)]) (wrap64 ((i : Int) + 1)) l m else none) else some ((⟨#[]⟩ : ByteArray), false)) (Ev.bind hto (Ev.all fun k => by simp; rfl)) (fun k => ?_)
      simp only [spec_LayText.l0]
      rw [if_pos (by omega), if_pos (by omega)]
      rfl
theorem spec_LayText_is (l m : Int) (objs : List ByteArray) (hol : objs.length ≤ 2000000) (hos : ∀ s ∈ objs, s.size < 4611686018427387904) : Ev (fun k => spec_LayText.f k l m objs) (mkB (lyText l m objs).1, (lyText l m objs).2) := by
  have h := spec_LayText_l0 l m objs hol hos objs.length 0 (by omega) (fun s hs => by simp at hs)
  simpa [spec_LayText.f, olens] using h

theorem impl_LayText_l1 {l m : Int} (hl : 1 ≤ l) (hl8 : l ≤ 8) (hm : 1 ≤ m) (hm3 : m ≤ 3) (objs : List ByteArray) (hob : (objs.length : Int) = m) (n : Nat) (hn : n ≤ 48) : ∀ (d i : Nat), i + d = n →
    Ev (fun k => impl_LayText.l1 k objs ((List.range i).map fun j => ((byteAt l m objs j).toNat : Int)) (n : Int) (i : Int) l m) (mkB ((List.range n).map (byteAt l m objs)), true) := by
  have ho : laOk l m = true := decide_eq_true ⟨hl, hl8, hm, hm3⟩
  intro d
  induction d with
  | zero =>
    intro i hi
    refine Ev.end_ (fun k => ?_)
    simp only [impl_LayText.l1]
    rw [if_neg (by omega)]
    obtain rfl : i = n := by omega
    congr 2
    refine eq_mkB ?_
    show (((List.range i).map fun j => ((byteAt l m objs j).toNat : Int)).map fun n => UInt8.ofNat n.toNat).toArray.toList = _
    rw [List.map_map]
    simp
  | succ d ih =>
    intro i hi
    obtain ⟨b1, b2, b3, b4⟩ := lAt_bounds (l := l) (m := m) (p := i) hl hl8 hm hm3 (by omega) (by omega)
    have hy : lyAt l m (i : Int) = lAt l m (i : Int) := if_pos ⟨ho, by omega, by omega⟩
    have hr : ((List.range (i + 1)).map fun j => ((byteAt l m objs j).toNat : Int)) = ((List.range i).map fun j => ((byteAt l m objs j).toNat : Int)) ++ [((byteAt l m objs i).toNat : Int)] := by rw [List.range_succ, List.map_append]; rfl
    have h := ih (i + 1) (by omega)
    rw [hr] at h
    refine Ev.cut h (fun k => ?_)
    simp only [impl_LayText.l1]
    rw [if_pos (by omega), impl_LayAt_is, hy]
    simp only [Option.bind_some]
    rw [if_pos b1, if_pos (by omega)]
    by_cases hlt : (lAt l m i).2 < ((rdOf ByteArray.empty objs (lAt l m i).1).size : Int)
    · have e : bt (rdOf ByteArray.empty objs (lAt l m i).1) (lAt l m i).2 = ((byteAt l m objs i).toNat : Int) := by
        unfold byteAt
        generalize rdOf ByteArray.empty objs (lAt l m i).1 = o at hlt
        have hl2 : (lAt l m i).2.toNat < (B o).length := by rw [← B_size]; omega
        have hb := bt_B o (lAt l m i).2.toNat hl2
        rw [Int.toNat_of_nonneg b3] at hb
        rw [hb, List.getD_eq_getElem?_getD, List.getElem?_eq_getElem hl2]
        rfl
      rw [if_pos hlt, if_pos b3, if_pos (by simp; omega), wsucc i (by omega), e]
    · have e : (46 : Int) = ((byteAt l m objs i).toNat : Int) := by
        unfold byteAt
        rw [List.getD_eq_getElem?_getD, List.getElem?_eq_none (by rw [← B_size]; omega)]
        rfl
      rw [if_neg hlt, if_pos (by simp; omega), wsucc i (by omega), ← e]
theorem impl_LayText_l0 (l m : Int) (objs : List ByteArray) (hol : objs.length ≤ 2000000) (hos : ∀ s ∈ objs, s.size < 4611686018427387904) : ∀ (d i : Nat), i + d = objs.length → (∀ s ∈ objs.take i, tOk (B s) = true) →
    Ev (fun k => impl_LayText.l0 k objs (olens (objs.take i)) objs (objs.length : Int) (i : Int) l m) (mkB (lyText l m objs).1, (lyText l m objs).2) := by
  intro d
  induction d with
  | zero =>
    intro i hi hp
    rw [List.take_of_length_le (by omega)] at hp
    have hll := impl_LayLong_is l m (olens objs)
    unfold lyText
    rw [if_pos hp]
    refine Ev.cut (f := fun k => (impl_LayLong.f k l m (olens objs)).bind fun t => if t < 0 then some ((⟨#[]⟩ : ByteArray), false) else impl_LayText.l1 k objs ([] : List Int) t 0 l m) (Ev.bind hll ?_) (fun k => ?_)
    · by_cases hn : lyLong l m (olens objs) < 0
      · simp only [if_pos hn]
        exact Ev.now _
      · simp only [if_neg hn]
        obtain ⟨k1, k2, k3, k4, k5, _⟩ := lyLong_ok hn
        have hok := of_decide_eq_true k1
        have h := impl_LayText_l1 (l := l) (m := m) (by omega) (by omega) (by omega) (by omega) objs (by rw [← k2]; simp [olens]) (lyLong l m (olens objs)).toNat (by omega) (lyLong l m (olens objs)).toNat 0 (by omega)
        rw [Int.toNat_of_nonneg k5] at h
        exact h
    · simp only [impl_LayText.l0]
      rw [if_neg (by omega), List.take_of_length_le (by omega)]
  | succ d ih =>
    intro i hi hp
    have hlt : i < objs.length := by omega
    have hgd : objs.getD i ByteArray.empty = objs[i] := by rw [List.getD_eq_getElem?_getD, List.getElem?_eq_getElem hlt]; rfl
    have hto := impl_TextOk_is (objs.getD i ByteArray.empty) (by rw [hgd]; exact hos _ (List.getElem_mem hlt))
    cases ht : tOk (B (objs.getD i ByteArray.empty)) with
    | true =>
      have h := ih (i + 1) (by omega) (by
        intro s hs
        rw [List.take_succ_eq_append_getElem hlt, List.mem_append] at hs
        rcases hs with hs | hs
        · exact hp s hs
        · simp at hs
          subst hs
          rw [← hgd]
          exact ht)
      rw [ht] at hto
      refine Ev.cut (f := fun k => (impl_TextOk.f k (objs.getD i ByteArray.empty)).bind fun t => if t = true then (if (olens (objs.take i)).length < 17592186044416 then impl_LayText.l0 k objs (olens (objs.take i) ++ [((objs.getD i ByteArray.empty).size : Int)]) objs (objs.length : Int) (wrap64 ((i : Int) + 1)) l m else none) else some ((⟨#[]⟩ : ByteArray), false)) (Ev.bind hto ?_) (fun k => ?_)
      · simp only [if_true]
        simp only [if_pos (show (olens (objs.take i)).length < 17592186044416 by simp [olens]; omega), wsucc i (by omega)]
        rw [← take_olens objs i hlt]
        exact h
      · simp only [impl_LayText.l0]
        rw [if_pos (by omega), if_pos (by omega), if_pos (by omega)]
        rfl
    | false =>
      rw [ht] at hto
      have e : lyText l m objs = ([], false) := if_neg (fun hh => by
        have := hh (objs.getD i ByteArray.empty) (by rw [hgd]; exact List.getElem_mem hlt)
        rw [ht] at this
        cases this)
      rw [e]
      refine Ev.cut (f := fun k => (impl_TextOk.f k (objs.getD i ByteArray.empty)).bind fun t => if t = true then (if (olens (objs.take i)).length < 17592186044416 then impl_LayText.l0 k objs (olens (objs.take i) ++ [((objs.getD i ByteArray.empty).size : Int)]) objs (objs.length : Int) (wrap64 ((i : Int) + 1)) l m else none) else some ((⟨#[]⟩ : ByteArray), false)) (Ev.bind hto (Ev.all fun k => by simp; rfl)) (fun k => ?_)
      simp only [impl_LayText.l0]
      rw [if_pos (by omega), if_pos (by omega), if_pos (by omega)]
      rfl
theorem impl_LayText_is (l m : Int) (objs : List ByteArray) (hol : objs.length ≤ 2000000) (hos : ∀ s ∈ objs, s.size < 4611686018427387904) : Ev (fun k => impl_LayText.f k l m objs) (mkB (lyText l m objs).1, (lyText l m objs).2) := by
  have h := impl_LayText_l0 l m objs hol hos objs.length 0 (by omega) (fun s hs => by simp at hs)
  simpa [impl_LayText.f, olens] using h

/-! A file made longer. -/
def padL (L : List UInt8) (n : Nat) : List UInt8 := L ++ List.replicate (n - L.length) 46
theorem padL_length (L : List UInt8) (n : Nat) : (padL L n).length = max L.length n := by simp [padL]; omega
theorem padL_short (L : List UInt8) (n : Nat) (h : n ≤ L.length) : padL L n = L := by simp [padL, Nat.sub_eq_zero_of_le h]
theorem l2Long_l : ∀ (d : Nat) (s : ByteArray) (n : Int), n.toNat - (B s).length = d → s.size < 4611686018427387904 → n < 4611686018427387904 → Ev (fun k => spec_l2Long.l0 k s n) (mkB (padL (B s) n.toNat)) := by
  intro d
  induction d with
  | zero =>
    intro s n hd hs hn
    refine Ev.end_ (fun k => ?_)
    simp only [spec_l2Long.l0]
    rw [if_neg (by rw [B_size]; omega), padL_short _ _ (by omega), mkB_B]
  | succ d ih =>
    intro s n hd hs hn
    have hb : B (s ++ (⟨#[46]⟩ : ByteArray)) = B s ++ [46] := by rw [B_app]; rfl
    have hz : (B s).length = s.size := (B_size s).symm
    have h := ih (s ++ (⟨#[46]⟩ : ByteArray)) n (by rw [hb]; simp; omega) (by rw [B_size, hb]; simp; omega) hn
    have e : padL (B (s ++ (⟨#[46]⟩ : ByteArray))) n.toNat = padL (B s) n.toNat := by
      rw [hb]
      unfold padL
      rw [List.append_assoc, List.length_append]
      congr 1
      rw [show n.toNat - (B s).length = (n.toNat - ((B s).length + [46].length)) + 1 by simp; omega, List.replicate_succ]
      rfl
    rw [e] at h
    refine Ev.cut h (fun k => ?_)
    simp only [spec_l2Long.l0]
    rw [if_pos (by rw [B_size]; omega), if_pos (by omega)]
theorem l2Long_is (s : ByteArray) (n : Int) (hs : s.size < 4611686018427387904) (hn : n < 4611686018427387904) : Ev (fun k => spec_l2Long.f k s n) (mkB (padL (B s) n.toNat)) := l2Long_l _ s n rfl hs hn

/-! The reader of draws. -/
def RB (b : List Int) : Prop := b.length ≤ 2000 ∧ ∀ x ∈ b, 0 ≤ x ∧ x ≤ 255
theorem rd_byte {b : List Int} (hb : RB b) (i : Int) : 0 ≤ rd b i ∧ rd b i ≤ 255 := by
  unfold rd
  rw [List.getD_eq_getElem?_getD]
  cases e : b[i.toNat]? with
  | none => simp
  | some x => exact hb.2 x (List.mem_of_getElem? e)
theorem open_is (l : List Int) (hw : ∀ x ∈ l, (Lit.int .u8 x).wf = true) : ∃ b, spec_l10Open.f l = some (b, 0) ∧ RB b := by
  have h : ∀ x ∈ l, 0 ≤ x ∧ x ≤ 255 := fun x hx => bounds_u8 (hw x hx)
  unfold spec_l10Open.f
  by_cases hl : (l.length : Int) > 2000
  · rw [if_pos hl, if_pos (by omega)]
    exact ⟨_, rfl, by rw [List.length_take]; omega, fun x hx => h x (List.mem_of_mem_take hx)⟩
  · rw [if_neg hl]
    exact ⟨_, rfl, by omega, h⟩
theorem xor_nonneg (a b : Int) (ha0 : 0 ≤ a) (ha : a < 1152921504606846976) (hb0 : 0 ≤ b) (hb : b < 1152921504606846976) : 0 ≤ Go.bits .xor .i64 a b := by
  obtain ⟨m, rfl⟩ := Int.eq_ofNat_of_zero_le ha0
  obtain ⟨n, rfl⟩ := Int.eq_ofNat_of_zero_le hb0
  have hm : m < 2 ^ 60 := by omega
  have hn : n < 2 ^ 60 := by omega
  have hx : m ^^^ n < 2 ^ 60 := Nat.xor_lt_two_pow hm hn
  have hm' : m % 2 ^ IntKind.i64.bits = m := Nat.mod_eq_of_lt (show m < 2 ^ 64 by omega)
  have hn' : n % 2 ^ IntKind.i64.bits = n := Nat.mod_eq_of_lt (show n < 2 ^ 64 by omega)
  have e : Go.bits .xor .i64 (m : Int) (n : Int) = IntKind.i64.wrap ((m ^^^ n : Nat) : Int) := by
    simp only [bits, BitVec.ofInt_natCast, BitVec.toNat_xor, BitVec.toNat_ofNat, hm', hn']
  rw [e, IntKind.wrap_i64]
  omega
theorem pick_is {b : List Int} (hb : RB b) (p n : Int) (h0 : 0 ≤ p) (h1 : p ≤ 1099511627776) (hn1 : 1 ≤ n) : ∃ v, Ev (fun k => spec_l10Rd_pick.f k b p n) (v, p + 1) ∧ 0 ≤ v ∧ v < n := by
  have e1 : wrap64 (p + 1) = p + 1 := wid (by omega) (by omega)
  have e2 : wrap64 (p + 1 - 1) = p := by rw [show p + 1 - 1 = p by omega]; exact wid (by omega) (by omega)
  have hl := hb.1
  by_cases hz : (b.length : Int) = 0
  · refine ⟨0, Ev.end_ (fun k => ?_), by omega, by omega⟩
    unfold spec_l10Rd_pick.f
    rw [if_neg (by omega), e1]
    simp only [spec_l10Rd_pick.j0]
    rw [if_pos (by simpa using hz)]
  · by_cases hlt : p < (b.length : Int)
    · have hr := rd_byte hb p
      refine ⟨Int.tmod (rd b p) n, Ev.end_ (fun k => ?_), ?_, ?_⟩
      · unfold spec_l10Rd_pick.f
        rw [if_neg (by omega), e1]
        simp only [spec_l10Rd_pick.j0]
        rw [if_neg (by simpa using hz), e2, if_pos hlt, if_pos h0, if_neg (by omega), wid (by omega) (by omega)]
      · rw [Int.tmod_eq_emod_of_nonneg hr.1]; exact Int.emod_nonneg _ (by omega)
      · rw [Int.tmod_eq_emod_of_nonneg hr.1]; exact Int.emod_lt_of_pos _ (by omega)
    · have e3 : wrap64 (p * 7) = p * 7 := wid (by omega) (by omega)
      have e4 : wrap64 (p * 7 + 3) = p * 7 + 3 := wid (by omega) (by omega)
      have q0 : 0 ≤ p % (b.length : Int) := Int.emod_nonneg _ hz
      have q1 : p % (b.length : Int) < (b.length : Int) := Int.emod_lt_of_pos _ (by omega)
      have q2 : 0 ≤ (p * 7 + 3) % (b.length : Int) := Int.emod_nonneg _ hz
      have q3 : (p * 7 + 3) % (b.length : Int) < (b.length : Int) := Int.emod_lt_of_pos _ (by omega)
      have q4 : 0 ≤ p / (b.length : Int) := Int.ediv_nonneg h0 (by omega)
      have q5 : p / (b.length : Int) ≤ p := Int.ediv_le_self _ h0
      have r1 := rd_byte hb (p % (b.length : Int))
      have r2 := rd_byte hb ((p * 7 + 3) % (b.length : Int))
      obtain ⟨X, hX⟩ : ∃ X, X = rd b (p % (b.length : Int)) * 131 + rd b ((p * 7 + 3) % (b.length : Int)) * 1117 + p * 29 + p / (b.length : Int) * 53 := ⟨_, rfl⟩
      have x0 : 0 ≤ X := by omega
      have x1 : X < 1152921504606846976 := by omega
      have y := xor_nonneg X (X / 64) x0 x1 (by omega) (by omega)
      refine ⟨Int.tmod (Go.bits .xor .i64 X (X / 64)) n, Ev.end_ (fun k => ?_), ?_, ?_⟩
      · unfold spec_l10Rd_pick.f
        rw [if_neg (by omega), e1]
        simp only [spec_l10Rd_pick.j0]
        rw [if_neg (by simpa using hz), e2, if_neg hlt, if_neg hz, Int.tmod_eq_emod_of_nonneg h0, if_pos q0, if_pos q1, e3, e4, Int.tmod_eq_emod_of_nonneg (show 0 ≤ p * 7 + 3 by omega), if_pos q2, if_pos q3, if_neg (by omega), Int.tdiv_eq_ediv_of_nonneg h0,
          wid (x := rd b (p % (b.length : Int))) (by omega) (by omega), wid (x := rd b ((p * 7 + 3) % (b.length : Int))) (by omega) (by omega), wid (x := rd b (p % (b.length : Int)) * 131) (by omega) (by omega), wid (x := rd b ((p * 7 + 3) % (b.length : Int)) * 1117) (by omega) (by omega),
          wid (x := rd b (p % (b.length : Int)) * 131 + rd b ((p * 7 + 3) % (b.length : Int)) * 1117) (by omega) (by omega), wid (x := p * 29) (by omega) (by omega), wid (x := rd b (p % (b.length : Int)) * 131 + rd b ((p * 7 + 3) % (b.length : Int)) * 1117 + p * 29) (by omega) (by omega),
          wid (x := p / (b.length : Int)) (by omega) (by omega), wid (x := p / (b.length : Int) * 53) (by omega) (by omega), ← hX, wid (x := X) (by omega) (by omega), Int.tdiv_eq_ediv_of_nonneg x0, wid (x := X / 64) (by omega) (by omega)]
      · rw [Int.tmod_eq_emod_of_nonneg y]; exact Int.emod_nonneg _ (by omega)
      · rw [Int.tmod_eq_emod_of_nonneg y]; exact Int.emod_lt_of_pos _ (by omega)

/-! One of a list of numbers. -/
theorem rd_mem (l : List Int) (i : Int) (h0 : 0 ≤ i) (h1 : i < (l.length : Int)) : rd l i ∈ l := by
  unfold rd
  rw [List.getD_eq_getElem?_getD, List.getElem?_eq_getElem (by omega)]
  exact List.getElem_mem _
theorem num_is {b : List Int} (hb : RB b) (p : Int) (l : List Int) (h0 : 0 ≤ p) (h1 : p ≤ 1099511627776) (hn1 : 1 ≤ (l.length : Int)) : ∃ v, Ev (fun k => spec_l10Rd_num.f k b p l) (v, p + 1) ∧ v ∈ l := by
  obtain ⟨i, hi, i0, i1⟩ := pick_is hb p (l.length : Int) h0 h1 hn1
  refine ⟨rd l i, Ev.bind hi (Ev.all fun k => ?_), rd_mem l i i0 i1⟩
  rw [if_pos i0, if_pos i1]

/-! One of a list of strings. -/
theorem of_is {b : List Int} (hb : RB b) (p : Int) (l : List ByteArray) (h0 : 0 ≤ p) (h1 : p ≤ 1099511627776) (hn1 : 1 ≤ (l.length : Int)) : ∃ v, Ev (fun k => spec_l10Rd_of.f k b p l) (v, p + 1) ∧ v ∈ l := by
  obtain ⟨i, hi, i0, i1⟩ := pick_is hb p (l.length : Int) h0 h1 hn1
  refine ⟨rdOf ByteArray.empty l i, Ev.bind hi (Ev.all fun k => ?_), rdOf_mem l i i0 i1⟩
  rw [if_pos i0, if_pos i1]

/-! A file, drawn. -/
theorem l2Text_l {b : List Int} (hb : RB b) : ∀ (n : Nat) (s : ByteArray) (p : Int), n ≤ 1000 → s.size + n ≤ 1000 → 0 ≤ p → p + n ≤ 1000000000000 → ∃ t, Ev (fun k => spec_l2Text.l0 k s (n : Int) b p) (t, p + n) ∧ t.size = s.size + n := by
  intro n
  induction n with
  | zero =>
    intro s p hn hs h0 h1
    refine ⟨s, Ev.end_ (fun k => ?_), by omega⟩
    simp only [spec_l2Text.l0]
    rw [if_neg (by omega)]
    simp
  | succ n ih =>
    intro s p hn hs h0 h1
    obtain ⟨v, hv, vm⟩ := of_is hb p [(⟨#[97]⟩ : ByteArray), (⟨#[98]⟩ : ByteArray), (⟨#[99]⟩ : ByteArray), (⟨#[55]⟩ : ByteArray), (⟨#[46]⟩ : ByteArray), (⟨#[122]⟩ : ByteArray)] h0 (by omega) (by simp)
    have hv1 : v.size = 1 := by
      simp only [List.mem_cons, List.not_mem_nil, or_false] at vm
      rcases vm with rfl | rfl | rfl | rfl | rfl | rfl <;> rfl
    have hz : (s ++ v).size = s.size + 1 := by rw [B_size, B_app, List.length_append, ← B_size, ← B_size, hv1]
    obtain ⟨t, ht, tz⟩ := ih (s ++ v) (p + 1) (by omega) (by omega) (by omega) (by omega)
    refine ⟨t, ?_, by omega⟩
    rw [show p + ((n + 1 : Nat) : Int) = p + 1 + (n : Int) by omega]
    refine Ev.cut (f := fun k => (spec_l10Rd_of.f k b p [(⟨#[97]⟩ : ByteArray), (⟨#[98]⟩ : ByteArray), (⟨#[99]⟩ : ByteArray), (⟨#[55]⟩ : ByteArray), (⟨#[46]⟩ : ByteArray), (⟨#[122]⟩ : ByteArray)]).bind fun r => if s.size + r.1.size ≤ 9223372036854775807 then spec_l2Text.l0 k (s ++ r.1) (wrap64 (((n + 1 : Nat) : Int) - 1)) b r.2 else none) (Ev.bind hv ?_) (fun k => ?_)
    · simp only [if_pos (show s.size + v.size ≤ 9223372036854775807 by omega)]
      rw [show wrap64 (((n + 1 : Nat) : Int) - 1) = (n : Int) by rw [wid (by omega) (by omega)]; omega]
      exact ht
    · simp only [spec_l2Text.l0]
      rw [if_pos (by omega)]
theorem l2Text_is {b : List Int} (hb : RB b) (p m : Int) (h0 : 0 ≤ p) (h1 : p ≤ 100000000000) (m0 : 0 ≤ m) (m1 : m ≤ 100) : ∃ t q, Ev (fun k => spec_l2Text.f k b p m) (t, q) ∧ t.size ≤ 100 ∧ p ≤ q ∧ q ≤ p + 102 := by
  obtain ⟨i, hi, i0, i1⟩ := pick_is hb p (m + 1) h0 (by omega) (by omega)
  obtain ⟨t, ht, tz⟩ := l2Text_l hb i.toNat (⟨#[]⟩ : ByteArray) (p + 1) (by omega) (by show 0 + _ ≤ _; omega) (by omega) (by omega)
  rw [Int.toNat_of_nonneg i0] at ht
  refine ⟨t, p + 1 + i, ?_, by rw [tz]; show 0 + _ ≤ _; omega, by omega, by omega⟩
  unfold spec_l2Text.f
  rw [wid (x := m + 1) (by omega) (by omega)]
  exact Ev.bind hi ht
theorem l2Some_is {b : List Int} (hb : RB b) (p : Int) (h0 : 0 ≤ p) (h1 : p ≤ 10000000000) : ∃ s q, Ev (fun k => spec_l2Some.f k b p) (s, q) ∧ s.size ≤ 200 ∧ p ≤ q ∧ q ≤ p + 110 := by
  obtain ⟨v, hv, vm⟩ := num_is hb p [6, 12, 20, 30, 48] h0 (by omega) (by simp)
  have hv2 : 0 ≤ v ∧ v ≤ 48 := by simp at vm; omega
  obtain ⟨t, q, ht, tz, q0, q1⟩ := l2Text_is hb (p + 1) v (by omega) (by omega) hv2.1 (by omega)
  obtain ⟨u, hu, u0, u1⟩ := pick_is hb q 60 (by omega) (by omega) (by omega)
  by_cases c0 : u = 0
  · exact ⟨t ++ (⟨#[65]⟩ : ByteArray), q + 1, Ev.bind hv (Ev.bind ht (Ev.bind hu (Ev.all fun k => by rw [if_pos c0, if_pos (show t.size + 1 ≤ 9223372036854775807 by omega)]))), by rw [B_size, B_app, List.length_append, ← B_size, ← B_size]; show t.size + 1 ≤ _; omega, by omega, by omega⟩
  by_cases c1 : u = 1
  · exact ⟨t ++ (⟨#[32]⟩ : ByteArray), q + 1, Ev.bind hv (Ev.bind ht (Ev.bind hu (Ev.all fun k => by rw [if_neg c0, if_pos c1, if_pos (show t.size + 1 ≤ 9223372036854775807 by omega)]))), by rw [B_size, B_app, List.length_append, ← B_size, ← B_size]; show t.size + 1 ≤ _; omega, by omega, by omega⟩
  by_cases c2 : u = 2
  · refine ⟨mkB (padL (B t) 49), q + 1, Ev.bind hv (Ev.bind ht (Ev.bind hu ?_)), by rw [mkB_size, padL_length, ← B_size]; omega, by omega, by omega⟩
    simp only [if_neg c0, if_neg c1, if_pos c2]
    exact Ev.bind (l2Long_is t 49 (by omega) (by omega)) (Ev.now _)
  · exact ⟨t, q + 1, Ev.bind hv (Ev.bind ht (Ev.bind hu (Ev.all fun k => by rw [if_neg c0, if_neg c1, if_neg c2]))), by omega, by omega, by omega⟩

/-! A layout, drawn. -/
theorem l3Lay_is {b : List Int} (hb : RB b) (p : Int) (h0 : 0 ≤ p) (h1 : p ≤ 1000000000000) : ∃ x y, Ev (fun k => spec_l3Lay.f k b p) (x, y, p + 1 + 1) ∧ laOk x y = true := by
  obtain ⟨v, hv, vm⟩ := num_is hb p [1, 2, 3, 4, 5, 8] h0 (by omega) (by simp)
  obtain ⟨x, hx, x0, x1⟩ := pick_is hb (p + 1) 3 (by omega) (by omega) (by omega)
  have hv2 : 1 ≤ v ∧ v ≤ 8 := by simp at vm; omega
  refine ⟨v, 1 + x, Ev.bind hv (Ev.bind hx (Ev.all fun k => ?_)), decide_eq_true (by omega)⟩
  rw [wid (by omega) (by omega)]
theorem l3Lays_is {b : List Int} (hb : RB b) (p : Int) (h0 : 0 ≤ p) (h1 : p ≤ 1000000000000) : ∃ x y q, Ev (fun k => spec_l3Lays.f k b p) (x, y, q) ∧ p ≤ q ∧ q ≤ p + 4 ∧ y ≤ 4 := by
  obtain ⟨x, y, hx, hok⟩ := l3Lay_is hb p h0 h1
  have hok := of_decide_eq_true hok
  obtain ⟨v, hv, v0, v1⟩ := pick_is hb (p + 1 + 1) 36 (by omega) (by omega) (by omega)
  by_cases c0 : v = 0
  · obtain ⟨u, hu, um⟩ := num_is hb (p + 1 + 1 + 1) [0, -1, 9] (by omega) (by omega) (by simp)
    exact ⟨u, y, p + 1 + 1 + 1 + 1, Ev.bind hx (Ev.bind hv (by simp only [if_pos c0]; exact Ev.bind hu (Ev.now _))), by omega, by omega, by omega⟩
  by_cases c1 : v = 1
  · obtain ⟨u, hu, um⟩ := num_is hb (p + 1 + 1 + 1) [0, -1, 4] (by omega) (by omega) (by simp)
    have hu4 : u ≤ 4 := by simp at um; omega
    exact ⟨x, u, p + 1 + 1 + 1 + 1, Ev.bind hx (Ev.bind hv (by simp only [if_neg c0, if_pos c1]; exact Ev.bind hu (Ev.now _))), by omega, by omega, hu4⟩
  by_cases c2 : v = 2
  · exact ⟨0, 0, p + 1 + 1 + 1, Ev.bind hx (Ev.bind hv (by simp only [if_neg c0, if_neg c1, if_pos c2]; exact Ev.now _)), by omega, by omega, by omega⟩
  · exact ⟨x, y, p + 1 + 1 + 1, Ev.bind hx (Ev.bind hv (by simp only [if_neg c0, if_neg c1, if_neg c2]; exact Ev.now _)), by omega, by omega, by omega⟩

theorem lyOf_size (l m : Int) (s : ByteArray) : ∀ x ∈ lyOf l m s, x.size ≤ 100 := by
  unfold lyOf
  split
  · rename_i hc
    have hok := of_decide_eq_true hc.1
    have hs : s.size ≤ 48 := by rw [B_size]; exact tOk_len hc.2
    have key : ∀ (d i : Nat) (out : List ByteArray), i + d = s.size → (∀ x ∈ out, x.size ≤ i) → ∀ x ∈ (List.range' i d).foldl (deal l m s) out, x.size ≤ s.size := by
      intro d
      induction d with
      | zero => exact fun i out hi h x hx => by have := h x hx; omega
      | succ d ih =>
        intro i out hi h
        rw [List.range'_succ, List.foldl_cons]
        obtain ⟨b1, _⟩ := lAt_bounds (l := l) (m := m) (p := i) (by omega) (by omega) (by omega) (by omega) (by omega) (by omega)
        exact ih (i + 1) _ (by omega) (deal_sizes h b1)
    intro x hx
    have := key s.size 0 _ (by omega) (fun x hx => by rw [List.eq_of_mem_replicate hx]; exact Nat.le_refl _) x hx
    omega
  · intro x hx
    simp at hx
theorem DrawLayText_l {b : List Int} (hb : RB b) (l m : Int) : ∀ (d : Nat) (L : List ByteArray) (i p : Int), 0 ≤ i → i + d = 5 → L.length ≤ 10 + i → (∀ x ∈ L, x.size ≤ 200) → 0 ≤ p → p ≤ 1000000 + 1000 * i →
    ∃ R, Ev (fun k => spec_DrawLayText.l0 k L i b p l m) (l, m, R) ∧ R.length ≤ 100 ∧ ∀ x ∈ R, x.size ≤ 200 := by
  have fin_ : ∀ (L : List ByteArray) (p : Int), L.length ≤ 50 → (∀ x ∈ L, x.size ≤ 200) → 0 ≤ p → p ≤ 2000000 → ∃ R, Ev (fun k => spec_DrawLayText.j1 k L b p l m) (l, m, R) ∧ R.length ≤ 100 ∧ ∀ x ∈ R, x.size ≤ 200 := by
    intro L p hL hs hp0 hp1
    by_cases hz : (L.length : Int) > 0
    · obtain ⟨v, hv, v0, v1⟩ := pick_is hb p 16 hp0 (by omega) (by omega)
      by_cases c0 : v = 0
      · obtain ⟨t, q, ht, tz, _⟩ := l2Some_is hb (p + 1) (by omega) (by omega)
        refine ⟨L.set 0 t, Ev.cut (f := fun k => (spec_l10Rd_pick.f k b p 16).bind fun x => if x.1 = 0 then ((spec_l2Some.f k b x.2).bind fun y => if 0 < (L.length : Int) then some (l, m, L.set (0 : Int).toNat y.1) else none) else some (l, m, L)) (Ev.bind hv ?_) (fun k => ?_), by simp; omega, ?_⟩
        · simp only [if_pos c0]
          exact Ev.bind ht (Ev.all fun k => by rw [if_pos (by omega)]; rfl)
        · simp only [spec_DrawLayText.j1]
          rw [if_pos hz]
        · intro x hx
          rcases List.mem_or_eq_of_mem_set hx with hx | rfl
          · exact hs x hx
          · exact tz
      · refine ⟨L, Ev.cut (f := fun k => (spec_l10Rd_pick.f k b p 16).bind fun x => if x.1 = 0 then ((spec_l2Some.f k b x.2).bind fun y => if 0 < (L.length : Int) then some (l, m, L.set (0 : Int).toNat y.1) else none) else some (l, m, L)) (Ev.bind hv (Ev.all fun k => by rw [if_neg c0])) (fun k => ?_), by omega, hs⟩
        simp only [spec_DrawLayText.j1]
        rw [if_pos hz]
    · refine ⟨L, Ev.end_ (fun k => ?_), by omega, hs⟩
      simp only [spec_DrawLayText.j1]
      rw [if_neg hz]
  intro d
  induction d with
  | zero =>
    intro L i p h0 h5 hL hs hp0 hp1
    obtain ⟨R, hR, hl⟩ := fin_ L p (by omega) hs hp0 (by omega)
    refine ⟨R, Ev.cut hR (fun k => ?_), hl⟩
    simp only [spec_DrawLayText.l0]
    split
    · rw [if_neg (by omega)]
    · rfl
  | succ d ih =>
    intro L i p h0 h5 hL hs hp0 hp1
    by_cases hi : i < m
    · obtain ⟨t, q, ht, tz, q0, q1⟩ := l2Text_is hb p 14 hp0 (by omega) (by omega) (by omega)
      obtain ⟨R, hR, hl⟩ := ih (L ++ [t]) (i + 1) q (by omega) (by omega) (by simp; omega) (by
        intro x hx
        rcases List.mem_append.1 hx with hx | hx
        · exact hs x hx
        · simp at hx
          subst hx
          omega) (by omega) (by omega)
      refine ⟨R, Ev.cut (f := fun k => (spec_l2Text.f k b p 14).bind fun x => if L.length < 8796093022208 then spec_DrawLayText.l0 k (L ++ [x.1]) (wrap64 (i + 1)) b x.2 l m else none) (Ev.bind ht ?_) (fun k => ?_), hl⟩
      · simp only [if_pos (show L.length < 8796093022208 by omega), wid (x := i + 1) (by omega) (by omega)]
        exact hR
      · simp only [spec_DrawLayText.l0]
        rw [if_pos hi, if_pos (by omega)]
    · obtain ⟨R, hR, hl⟩ := fin_ L p (by omega) hs hp0 (by omega)
      refine ⟨R, Ev.cut hR (fun k => ?_), hl⟩
      simp only [spec_DrawLayText.l0]
      rw [if_neg hi]
theorem DrawLayText_is (l : List Int) (hw : ∀ x ∈ l, (Lit.int .u8 x).wf = true) : ∃ a b L, Ev (fun k => spec_DrawLayText.f k l) (a, b, L) ∧ L.length ≤ 100 ∧ ∀ x ∈ L, x.size ≤ 200 := by
  obtain ⟨r, hr, hb⟩ := open_is l hw
  obtain ⟨x, y, q, h1, q0, q1, _⟩ := l3Lays_is hb 0 (by omega) (by omega)
  obtain ⟨v, h2, v0, v1⟩ := pick_is hb q 2 (by omega) (by omega) (by omega)
  unfold spec_DrawLayText.f
  simp only [hr, Option.bind_some]
  by_cases c0 : v = 0
  · obtain ⟨s, p, h3, hs, _⟩ := l2Some_is hb (q + 1) (by omega) (by omega)
    refine ⟨x, y, lyOf x y s, Ev.bind h1 (Ev.bind h2 ?_), by have := lyOf_small x y s; omega, fun z hz => by have := lyOf_size x y s z hz; omega⟩
    simp only [if_pos c0]
    exact Ev.bind h3 (Ev.bind (spec_LayOf_is x y s (by omega)) (Ev.now _))
  · obtain ⟨R, h3, hl, hs⟩ := DrawLayText_l hb x y 5 [] 0 (q + 1) (by omega) (by omega) (by simp) (fun z hz => by simp at hz) (by omega) (by omega)
    refine ⟨x, y, R, Ev.bind h1 (Ev.bind h2 ?_), hl, hs⟩
    simp only [if_neg c0]
    exact h3
theorem objs_loop {l m : Int} (hk : laOk l m = true) (A : List ByteArray) (hA : (A.length : Int) = m) (hall : ∀ s ∈ A, tOk (B s) = true) (n : Nat) (hn : n ≤ 48) (x : ByteArray) (hx : B x = (List.range n).map (byteAt l m A)) : ∀ (d i : Nat), i + d = n →
    Ev (fun k => laws_FnLayObjs.l0 k A x (i : Int) l m) true := by
  have hok := of_decide_eq_true hk
  have hxl : x.size = n := by rw [B_size, hx]; simp
  intro d
  induction d with
  | zero =>
    intro i hi
    have ho := impl_TextOk_is x (by omega)
    have ht : tOk (B x) = true := by
      refine tOk_iff.2 ⟨fun y hy => ?_, by rw [← B_size]; omega⟩
      rw [hx] at hy
      obtain ⟨i, hi, rfl⟩ := List.mem_map.1 hy
      unfold byteAt
      have hi' := List.mem_range.1 hi
      obtain ⟨b1, b2, b3, b4⟩ := lAt_bounds (l := l) (m := m) (p := i) (by omega) (by omega) (by omega) (by omega) (by omega) (by omega)
      have hm := hall _ (rdOf_mem A _ b1 (by omega))
      generalize rdOf ByteArray.empty A (lAt l m i).1 = o at hm
      by_cases hlt : (lAt l m i).2.toNat < (B o).length
      · exact (tOk_iff.1 hm).1 _ (List.mem_of_getElem? (getD_lt (B o) _ hlt))
      · rw [getD_ge _ _ hlt]
        rfl
    rw [ht] at ho
    refine Ev.cut (f := fun k => (impl_TextOk.f k x).bind fun t => some t) (Ev.bind ho (Ev.now _)) (fun k => ?_)
    simp only [laws_FnLayObjs.l0]
    rw [if_neg (by omega)]
  | succ d ih =>
    intro i hi
    obtain ⟨b1, b2, b3, b4⟩ := lAt_bounds (l := l) (m := m) (p := i) (by omega) (by omega) (by omega) (by omega) (by omega) (by omega)
    have hy : lyAt l m (i : Int) = lAt l m (i : Int) := if_pos ⟨hk, by omega, by omega⟩
    have hb : bt x (i : Int) = ((byteAt l m A i).toNat : Int) := by
      refine bt_get ?_
      rw [hx, List.getElem?_map, List.getElem?_range (by omega)]
      rfl
    refine Ev.cut (ih (i + 1) (by omega)) (fun k => ?_)
    simp only [laws_FnLayObjs.l0]
    rw [if_pos (by omega), impl_LayAt_is, hy]
    simp only [Option.bind_some]
    rw [if_neg (by omega), if_neg (by omega), if_pos b1, if_pos (by omega), hb, wsucc i (by omega)]
    unfold byteAt
    generalize rdOf ByteArray.empty A (lAt l m i).1 = o
    by_cases hlt : (lAt l m i).2 < (o.size : Int)
    · have hl2 : (lAt l m i).2.toNat < (B o).length := by rw [← B_size]; omega
      have hbo := bt_get (getD_lt (B o) _ hl2)
      rw [Int.toNat_of_nonneg b3] at hbo
      rw [if_pos hlt, if_pos b3, if_pos (by omega), hbo, if_pos rfl, if_neg (by omega)]
    · have hl2 : ¬ (lAt l m i).2.toNat < (B o).length := by rw [← B_size]; omega
      rw [if_neg hlt, if_pos (by omega), if_pos (by omega), getD_ge _ _ hl2, if_pos (by decide)]

theorem FnLayObjs (l0 : List Int) (hm0 : l0.length ≤ maxLen) (hw0 : ∀ x ∈ l0, (Lit.int .u8 x).wf = true) : ∃ k, laws_FnLayObjs.f k l0 = some true := by
  have hm := hm0
  have hw := hw0
  by_cases h : (l0.length : Int) > 1048576
  · exact ⟨0, by unfold laws_FnLayObjs.f; rw [if_pos h]⟩
  refine Ev.rounds (r := true) (g := fun k => laws_FnLayObjs.f k l0) ?_
  unfold laws_FnLayObjs.f
  simp only [if_neg h]
  obtain ⟨l, m, A, hd, hl, hs⟩ := DrawLayText_is l0 hw
  have hs' : ∀ s ∈ A, s.size < 4611686018427387904 := fun x hx => by have := hs x hx; omega
  refine Ev.bind hd (Ev.bind (impl_LayText_is l m A (by omega) hs') (Ev.bind (spec_LayText_is l m A (by omega) hs') ?_))
  simp only [if_true, bne_self_eq_false]
  have hneg : lyText l m A = ([], false) → Ev (fun k => laws_FnLayObjs.j0 k A (mkB (lyText l m A).1) (lyText l m A).2 false l m) true := by
    intro e
    rw [e]
    refine Ev.end_ (fun k => ?_)
    simp only [laws_FnLayObjs.j0, Bool.false_eq_true, if_false]
    rw [B_toList, B_mkB]
    rfl
  by_cases hall : ∀ s ∈ A, tOk (B s) = true
  · by_cases hn : lyLong l m (olens A) < 0
    · refine hneg ?_
      unfold lyText
      rw [if_pos hall, if_pos hn]
    · obtain ⟨k1, k2, k3, k4, k5, _⟩ := lyLong_ok hn
      have e : lyText l m A = ((List.range (lyLong l m (olens A)).toNat).map (byteAt l m A), true) := by
        unfold lyText
        rw [if_pos hall, if_neg hn]
      rw [e]
      refine Ev.cut (objs_loop k1 A (by rw [← k2]; simp [olens]) hall (lyLong l m (olens A)).toNat (by omega) _ (B_mkB _) _ 0 (Nat.zero_add _)) (fun k => ?_)
      simp only [laws_FnLayObjs.j0, Bool.false_eq_true, if_false, if_true]
      rfl
  · exact hneg (if_neg hall)

end Go.Proofs.Ythgemejhciojbaa.Pure
