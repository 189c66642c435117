/- The law FnLayWrite over numbers and lists, as the program's text computes it: it answers true. Conditions: the arguments are of their kinds, lengths fit. -/
import Derived.Test.YtfomnpbhpncpaaaQx39
import Derived.OpenShut
import Derived.Laws.Strings
namespace Go.Proofs.Ytfomnpbhpncpaaa.Pure
open Go.RowKit Go.Proofs.Ytfomnpbhpncpaaa.Q Go.Proofs.YtfomnpbhpncpaaaW.PrintWords Go.Proofs.YtfomnpbhpncpaaaW.PrintLast
set_option linter.unusedVariables false
set_option linter.unusedSimpArgs false

/-! Words for the pure side: strings as lists of bytes, counters as natural numbers, what is answered from some round on. -/
def B (s : ByteArray) : List UInt8 := s.data.toList
theorem B_size (s : ByteArray) : s.size = (B s).length := (Array.length_toList).symm
theorem B_toList (s : ByteArray) : s.toList = B s := Go.ByteArray.toList_eq s
theorem B_inj {s t : ByteArray} (h : B s = B t) : s = t := by
  cases s; cases t
  simp only [B] at h
  congr 1
  exact Array.ext' h
theorem B_app (s t : ByteArray) : B (s ++ t) = B s ++ B t := by simp [B, ByteArray.data_append]
theorem app_size (s t : ByteArray) : (s ++ t).size = s.size + t.size := by rw [B_size, B_app, List.length_append, ← B_size, ← B_size]
theorem B_ext (s : ByteArray) (i j : Nat) : B (s.extract i j) = ((B s).take j).drop i := by
  simp [B, ByteArray.data_extract, List.extract_eq_take_drop, List.drop_take]
theorem B_nil : B (⟨#[]⟩ : ByteArray) = [] := rfl
theorem bt_B (s : ByteArray) (i : Nat) (h : i < (B s).length) : bt s (i : Int) = (((B s)[i]'h).toNat : Int) := by
  have h' : (i : Int).toNat < s.size := by rw [B_size]; simpa using h
  unfold bt
  rw [dif_pos h']
  rfl
theorem wsucc (i : Nat) (h : i < 4611686018427387904) : wrap64 ((i : Int) + 1) = ((i + 1 : Nat) : Int) := by unfold wrap64; omega
theorem wpred (i : Nat) (h : i < 4611686018427387904) (h0 : 0 < i) : wrap64 ((i : Int) - 1) = ((i - 1 : Nat) : Int) := by unfold wrap64; omega
theorem wid {x : Int} (h0 : -9223372036854775808 ≤ x) (h1 : x ≤ 9223372036854775807) : wrap64 x = x := by unfold wrap64; omega
theorem Ev.cut {α : Type} {g f : Nat → Option α} {r : α} (k : Ev f r) (h : ∀ k, g (k + 1) = f k) : Ev g r := Ev.step h k
theorem Ev.end_ {α : Type} {g : Nat → Option α} {r : α} (h : ∀ k, g (k + 1) = some r) : Ev g r := Ev.step h (Ev.now r)
theorem Ev.all {α : Type} {g : Nat → Option α} {r : α} (h : ∀ k, g k = some r) : Ev g r := ⟨0, fun k _ => h k⟩
theorem Ev.uniq {α : Type} {g : Nat → Option α} {r q : α} (h : Ev g r) (h' : Ev g q) : r = q := by
  obtain ⟨K, h⟩ := h
  obtain ⟨K', h'⟩ := h'
  have h1 := h (max K K') (by omega)
  rw [h' (max K K') (by omega)] at h1
  exact (Option.some.inj h1).symm
theorem dec_eq {p q : Prop} [Decidable p] [Decidable q] (h : p ↔ q) : (some (decide p) : Option Bool) = some (decide q) := by rw [decide_eq_decide.2 h]
theorem dec_false {q : Prop} [Decidable q] (h : ¬ q) : (some false : Option Bool) = some (decide q) := by rw [decide_eq_false h]
theorem dec_true {q : Prop} [Decidable q] (h : q) : (some true : Option Bool) = some (decide q) := by rw [decide_eq_true h]

def mkB (L : List UInt8) : ByteArray := ⟨L.toArray⟩
theorem B_mkB (L : List UInt8) : B (mkB L) = L := by simp [B, mkB]
theorem eq_mkB {r : ByteArray} {X : List UInt8} (h : B r = X) : r = mkB X := B_inj (by rw [h, B_mkB])
theorem mkB_B (s : ByteArray) : mkB (B s) = s := (eq_mkB rfl).symm
theorem mkB_size (L : List UInt8) : (mkB L).size = L.length := by rw [B_size, B_mkB]

/-! Files, valid. -/
def cOk (c : UInt8) : Bool := decide (c.toNat = 46 ∨ (97 ≤ c.toNat ∧ c.toNat ≤ 122) ∨ (48 ≤ c.toNat ∧ c.toNat ≤ 57))
def tOk (l : List UInt8) : Bool := l.all cOk && decide (l.length ≤ 48)
theorem spec_l2Byte_is (c : UInt8) : spec_l2Byte.f (c.toNat : Int) = some (cOk c) := by
  unfold spec_l2Byte.f cOk
  repeat' split
  all_goals first | exact dec_true (by omega) | exact dec_eq (by omega) | exact dec_false (by omega)
theorem all_drop (l : List UInt8) (i : Nat) (h : i < l.length) : (l.drop i).all cOk = (cOk l[i] && (l.drop (i + 1)).all cOk) := by
  rw [List.drop_eq_getElem_cons h, List.all_cons]
theorem spec_TextOk_l (s : ByteArray) (hs : s.size < 4611686018427387904) : ∀ (d i : Nat), i + d = (B s).length → Ev (fun k => spec_TextOk.l0 k s (i : Int)) ((((B s).drop i).all cOk) && decide ((B s).length ≤ 48)) := by
  have hz : (s.size : Int) = ((B s).length : Int) := by rw [B_size]
  have hs' : (B s).length < 4611686018427387904 := by rw [← B_size]; exact hs
  intro d
  induction d with
  | zero =>
    intro i hi
    refine Ev.end_ (fun k => ?_)
    simp only [spec_TextOk.l0]
    rw [hz, if_neg (by omega), List.drop_of_length_le (by omega)]
    simp
    omega
  | succ d ih =>
    intro i hi
    have hlt : i < (B s).length := by omega
    have hr : (((B s).drop i).all cOk) = (cOk ((B s)[i]) && ((B s).drop (i + 1)).all cOk) := all_drop _ _ hlt
    rw [hr]
    cases hc : cOk ((B s)[i]) with
    | true =>
      refine Ev.cut (f := fun k => spec_TextOk.l0 k s ((i + 1 : Nat) : Int)) ?_ (fun k => ?_)
      · simpa using ih (i + 1) (by omega)
      · simp only [spec_TextOk.l0]
        rw [hz, if_pos (by omega), if_pos (by omega), bt_B s i hlt, spec_l2Byte_is, wsucc i (by omega), hc]
        rfl
    | false =>
      refine Ev.end_ (fun k => ?_)
      simp only [spec_TextOk.l0]
      rw [hz, if_pos (by omega), if_pos (by omega), bt_B s i hlt, spec_l2Byte_is, hc]
      simp
theorem spec_TextOk_is (s : ByteArray) (hs : s.size < 4611686018427387904) : Ev (fun k => spec_TextOk.f k s) (tOk (B s)) := by
  have h := spec_TextOk_l s hs (B s).length 0 (by omega)
  simpa [spec_TextOk.f, tOk] using h
theorem impl_TextOk_l (s : ByteArray) (hs : s.size < 4611686018427387904) : ∀ (d i : Nat), i + d = (B s).length → Ev (fun k => impl_TextOk.l0 k s (s.size : Int) (i : Int)) ((((B s).drop i).all cOk) && decide ((B s).length ≤ 48)) := by
  have hz : (s.size : Int) = ((B s).length : Int) := by rw [B_size]
  have hs' : (B s).length < 4611686018427387904 := by rw [← B_size]; exact hs
  intro d
  induction d with
  | zero =>
    intro i hi
    refine Ev.end_ (fun k => ?_)
    simp only [impl_TextOk.l0]
    rw [hz, if_neg (by omega), List.drop_of_length_le (by omega)]
    simp
    omega
  | succ d ih =>
    intro i hi
    have hlt : i < (B s).length := by omega
    have hr : (((B s).drop i).all cOk) = (cOk ((B s)[i]) && ((B s).drop (i + 1)).all cOk) := all_drop _ _ hlt
    rw [hr]
    cases hc : cOk ((B s)[i]) with
    | true =>
      have hc' := of_decide_eq_true hc
      refine Ev.cut (f := fun k => impl_TextOk.l0 k s (s.size : Int) ((i + 1 : Nat) : Int)) ?_ (fun k => ?_)
      · simpa using ih (i + 1) (by omega)
      · simp only [impl_TextOk.l0]
        rw [if_pos (by omega), if_pos (by omega), if_pos (by omega), bt_B s i hlt, wsucc i (by omega)]
        repeat' split
        all_goals first | rfl | (exfalso; omega)
    | false =>
      have hc' := of_decide_eq_false hc
      refine Ev.end_ (fun k => ?_)
      simp only [impl_TextOk.l0]
      rw [if_pos (by omega), if_pos (by omega), if_pos (by omega), bt_B s i hlt]
      simp only [Bool.false_and]
      repeat' split
      all_goals first | rfl | (exfalso; omega)
theorem impl_TextOk_is (s : ByteArray) (hs : s.size < 4611686018427387904) : Ev (fun k => impl_TextOk.f k s) (tOk (B s)) := by
  have h := impl_TextOk_l s hs (B s).length 0 (by omega)
  simpa [impl_TextOk.f, tOk] using h

theorem tOk_len {L : List UInt8} (h : tOk L = true) : L.length ≤ 48 := by
  simp [tOk] at h
  exact h.2

/-! Layouts, valid. -/
def laOk (a b : Int) : Bool := decide (1 ≤ a ∧ a ≤ 8 ∧ 1 ≤ b ∧ b ≤ 3)
theorem spec_LayOk_is (a b : Int) : spec_LayOk.f a b = some (laOk a b) := by
  unfold spec_LayOk.f laOk
  repeat' split
  all_goals first | exact dec_eq (by omega) | exact dec_false (by omega)
theorem impl_LayOk_is (a b : Int) : impl_LayOk.f a b = some (laOk a b) := by
  unfold impl_LayOk.f laOk
  repeat' split
  all_goals first | exact dec_eq (by omega) | exact dec_false (by omega)

/-! Where a place lies. -/
def lAt (l m p : Int) : Int × Int := (p / l % m, p / l / m * l + p % l)
theorem lAt_bounds {l m p : Int} (hl : 1 ≤ l) (hl8 : l ≤ 8) (hm : 1 ≤ m) (hm3 : m ≤ 3) (h0 : 0 ≤ p) (h1 : p < 100) : 0 ≤ (lAt l m p).1 ∧ (lAt l m p).1 < m ∧ 0 ≤ (lAt l m p).2 ∧ (lAt l m p).2 ≤ p := by
  have hq0 : 0 ≤ p / l := Int.ediv_nonneg h0 (by omega)
  have e1 : p / l * l + p % l = p := by rw [Int.mul_comm]; exact Int.mul_ediv_add_emod p l
  have r0 : 0 ≤ p % l := Int.emod_nonneg _ (by omega)
  have hq2 : 0 ≤ p / l / m := Int.ediv_nonneg hq0 (by omega)
  have hq3 : p / l / m ≤ p / l := Int.ediv_le_self _ hq0
  refine ⟨Int.emod_nonneg _ (by omega), Int.emod_lt_of_pos _ (by omega), ?_, ?_⟩
  · exact Int.add_nonneg (Int.mul_nonneg hq2 (by omega)) r0
  · have := Int.mul_le_mul_of_nonneg_right hq3 (show 0 ≤ l by omega)
    show p / l / m * l + p % l ≤ p
    omega
theorem lAt_words {l m p : Int} (hl : 1 ≤ l) (hl8 : l ≤ 8) (hm : 1 ≤ m) (hm3 : m ≤ 3) (h0 : 0 ≤ p) (h1 : p < 100) :
    Int.tmod (wrap64 (Int.tdiv p l)) m = (lAt l m p).1 ∧ wrap64 ((wrap64 ((wrap64 (Int.tdiv (wrap64 (Int.tdiv p l)) m)) * l)) + (Int.tmod p l)) = (lAt l m p).2 := by
  have hq0 : 0 ≤ p / l := Int.ediv_nonneg h0 (by omega)
  have hqp : p / l ≤ p := Int.ediv_le_self _ h0
  have hq2 : 0 ≤ p / l / m := Int.ediv_nonneg hq0 (by omega)
  have hq3 : p / l / m ≤ p / l := Int.ediv_le_self _ hq0
  have r0 : 0 ≤ p % l := Int.emod_nonneg _ (by omega)
  have r1 : p % l < l := Int.emod_lt_of_pos _ (by omega)
  have m0 : 0 ≤ p / l / m * l := Int.mul_nonneg hq2 (by omega)
  have m1 : p / l / m * l ≤ 100 * 8 := Int.mul_le_mul (by omega) hl8 (by omega) (by omega)
  rw [Int.tdiv_eq_ediv_of_nonneg h0, wid (x := p / l) (by omega) (by omega), Int.tmod_eq_emod_of_nonneg hq0, Int.tdiv_eq_ediv_of_nonneg hq0, wid (x := p / l / m) (by omega) (by omega), wid (x := p / l / m * l) (by omega) (by omega), Int.tmod_eq_emod_of_nonneg h0, wid (by omega) (by omega)]
  exact ⟨rfl, rfl⟩
def lyAt (l m p : Int) : Int × Int := if laOk l m = true ∧ 0 ≤ p ∧ p < 48 then lAt l m p else (-1, -1)
theorem impl_LayAt_is (l m p : Int) : impl_LayAt.f l m p = some (lyAt l m p) := by
  unfold impl_LayAt.f lyAt
  rw [impl_LayOk_is]
  cases h : laOk l m with
  | false => simp
  | true =>
    have h' := of_decide_eq_true h
    simp only [Option.bind_some, if_true]
    by_cases h0 : p < 0
    · rw [if_pos h0, if_neg (by omega)]
    · rw [if_neg h0]
      by_cases h1 : p ≥ 48
      · rw [if_pos h1, if_neg (by omega)]
      · obtain ⟨e1, e2⟩ := lAt_words (l := l) (m := m) (p := p) (by omega) (by omega) (by omega) (by omega) (by omega) (by omega)
        rw [if_neg h1, if_neg (show ¬ l = 0 by omega), if_neg (show ¬ m = 0 by omega), e1, e2, if_pos ⟨trivial, by omega, by omega⟩]

/-! Which place lies there. -/
def lBack (l m o a : Int) : Int := (a / l * m + o) * l + a % l
theorem lBack_bounds {l m o a : Int} (hl : 1 ≤ l) (hl8 : l ≤ 8) (hm : 1 ≤ m) (hm3 : m ≤ 3) (ho : 0 ≤ o) (ho3 : o < 3) (h0 : 0 ≤ a) (h1 : a < 100) : 0 ≤ lBack l m o a ∧ lBack l m o a ≤ 5000 := by
  have hq0 : 0 ≤ a / l := Int.ediv_nonneg h0 (by omega)
  have hqa : a / l ≤ a := Int.ediv_le_self _ h0
  have r0 : 0 ≤ a % l := Int.emod_nonneg _ (by omega)
  have r1 : a % l < l := Int.emod_lt_of_pos _ (by omega)
  have m0 : 0 ≤ a / l * m := Int.mul_nonneg hq0 (by omega)
  have m1 : a / l * m ≤ 100 * 3 := Int.mul_le_mul (by omega) hm3 (by omega) (by omega)
  have p0 : 0 ≤ (a / l * m + o) * l := Int.mul_nonneg (by omega) (by omega)
  have p1 : (a / l * m + o) * l ≤ 303 * 8 := Int.mul_le_mul (by omega) hl8 (by omega) (by omega)
  unfold lBack
  omega
theorem lBack_words {l m o a : Int} (hl : 1 ≤ l) (hl8 : l ≤ 8) (hm : 1 ≤ m) (hm3 : m ≤ 3) (ho : 0 ≤ o) (ho3 : o < 3) (h0 : 0 ≤ a) (h1 : a < 100) :
    wrap64 ((wrap64 ((wrap64 ((wrap64 ((wrap64 (Int.tdiv a l)) * m)) + o)) * l)) + (Int.tmod a l)) = lBack l m o a := by
  have hq0 : 0 ≤ a / l := Int.ediv_nonneg h0 (by omega)
  have hqa : a / l ≤ a := Int.ediv_le_self _ h0
  have r0 : 0 ≤ a % l := Int.emod_nonneg _ (by omega)
  have r1 : a % l < l := Int.emod_lt_of_pos _ (by omega)
  have m0 : 0 ≤ a / l * m := Int.mul_nonneg hq0 (by omega)
  have m1 : a / l * m ≤ 100 * 3 := Int.mul_le_mul (by omega) hm3 (by omega) (by omega)
  have p0 : 0 ≤ (a / l * m + o) * l := Int.mul_nonneg (by omega) (by omega)
  have p1 : (a / l * m + o) * l ≤ 303 * 8 := Int.mul_le_mul (by omega) hl8 (by omega) (by omega)
  rw [Int.tdiv_eq_ediv_of_nonneg h0, wid (x := a / l) (by omega) (by omega), wid (x := a / l * m) (by omega) (by omega), wid (x := a / l * m + o) (by omega) (by omega), wid (x := (a / l * m + o) * l) (by omega) (by omega), Int.tmod_eq_emod_of_nonneg h0, wid (by omega) (by omega)]
  rfl

theorem impl_back_is {l m o a : Int} (hl : 1 ≤ l) (hl8 : l ≤ 8) (hm : 1 ≤ m) (hm3 : m ≤ 3) (ho : 0 ≤ o) (ho3 : o < 3) (h0 : 0 ≤ a) (h1 : a < 100) : impl_back.f l m o a = some (lBack l m o a) := by
  unfold impl_back.f
  rw [if_neg (by omega), lBack_words hl hl8 hm hm3 ho ho3 h0 h1]

theorem l1Min_is (a b : Int) : spec_l1Min.f a b = some (mn a b) := by
  unfold spec_l1Min.f mn
  split <;> split <;> first | rfl | (congr 1; omega)

/-! How long a file is. -/
def lmax (l m : Int) : Int → List Int → Int → Int
  | _, [], acc => acc
  | i, n :: r, acc => lmax l m (i + 1) r (if n > 0 then mx acc (lBack l m i (n - 1) + 1) else acc)
def lens (L : List Int) : Bool := L.all fun n => decide (0 ≤ n ∧ n ≤ 48)
def lyLong (l m : Int) (L : List Int) : Int := if laOk l m = true ∧ (L.length : Int) = m ∧ lens L = true then (if lmax l m 0 L 0 > 48 then -1 else lmax l m 0 L 0) else -1
theorem rd_nat (L : List Int) (i : Nat) : rd L (i : Int) = L.getD i 0 := rfl
theorem drop_rd (L : List Int) (i : Nat) (h : i < L.length) : L.drop i = L.getD i 0 :: L.drop (i + 1) := by
  rw [List.drop_eq_getElem_cons h, List.getD_eq_getElem?_getD, List.getElem?_eq_getElem h]
  rfl
theorem lmax_stepb {l m : Int} {i : Nat} {n acc : Int} (hl : 1 ≤ l) (hl8 : l ≤ 8) (hm : 1 ≤ m) (hm3 : m ≤ 3) (hi : (i : Int) < m) (h0 : 0 ≤ n) (h1 : n ≤ 48) (a0 : 0 ≤ acc) (a1 : acc ≤ 10000) :
    0 ≤ (if n > 0 then mx acc (lBack l m i (n - 1) + 1) else acc) ∧ (if n > 0 then mx acc (lBack l m i (n - 1) + 1) else acc) ≤ 10000 := by
  split
  · have := lBack_bounds (l := l) (m := m) (o := i) (a := n - 1) hl hl8 hm hm3 (by omega) (by omega) (by omega) (by omega)
    unfold mx
    split <;> omega
  · omega
theorem lens_drop (L : List Int) (i : Nat) (h : i < L.length) : lens (L.drop i) = (decide (0 ≤ L.getD i 0 ∧ L.getD i 0 ≤ 48) && lens (L.drop (i + 1))) := by
  rw [drop_rd L i h]
  rfl
theorem lens_short (L : List Int) (i : Nat) (h : ¬ i < L.length) : lens (L.drop i) = true := by rw [List.drop_of_length_le (by omega)]; rfl

theorem impl_LayLong_l {l m : Int} (hl : 1 ≤ l) (hl8 : l ≤ 8) (hm : 1 ≤ m) (hm3 : m ≤ 3) (L : List Int) (hL : (L.length : Int) = m) : ∀ (d i : Nat) (acc : Int), i + d = L.length → 0 ≤ acc → acc ≤ 10000 →
    Ev (fun k => impl_LayLong.l0 k acc L (L.length : Int) (i : Int) l m) (if lens (L.drop i) = true then (if lmax l m i (L.drop i) acc > 48 then -1 else lmax l m i (L.drop i) acc) else -1) := by
  intro d
  induction d with
  | zero =>
    intro i acc hi h0 h1
    rw [lens_short L i (by omega), if_pos rfl, List.drop_of_length_le (by omega)]
    refine Ev.end_ (fun k => ?_)
    simp only [impl_LayLong.l0]
    rw [if_neg (by omega)]
    unfold lmax
    split <;> rfl
  | succ d ih =>
    intro i acc hi h0 h1
    have hlt : i < L.length := by omega
    rw [lens_drop L i hlt]
    by_cases hn : 0 ≤ L.getD i 0 ∧ L.getD i 0 ≤ 48
    · rw [decide_eq_true hn, Bool.true_and, drop_rd L i hlt]
      have hs := lmax_stepb (i := i) hl hl8 hm hm3 (by omega) hn.1 hn.2 h0 h1
      refine Ev.cut (f := fun k => impl_LayLong.j2 k acc (i : Int) (L.getD i 0) L (L.length : Int) (i : Int) false l m) (Ev.cut (f := fun k => impl_LayLong.l0 k (if L.getD i 0 > 0 then mx acc (lBack l m i (L.getD i 0 - 1) + 1) else acc) L (L.length : Int) ((i + 1 : Nat) : Int) l m) (ih (i + 1) _ (by omega) hs.1 hs.2) (fun k => ?_)) (fun k => ?_)
      · simp only [impl_LayLong.j2]
        rw [if_neg (by simp), wsucc i (by omega)]
        by_cases hp : L.getD i 0 > 0
        · have := lBack_bounds (l := l) (m := m) (o := i) (a := L.getD i 0 - 1) hl hl8 hm hm3 (by omega) (by omega) (by omega) (by omega)
          rw [if_pos hp, if_pos hp, wid (x := L.getD i 0 - 1) (by omega) (by omega), impl_back_is hl hl8 hm hm3 (by omega) (by omega) (by omega) (by omega), Option.bind_some, wid (by omega) (by omega)]
        · rw [if_neg hp, if_neg hp]
      · simp only [impl_LayLong.l0]
        rw [if_pos (by omega), if_pos (by omega), if_pos (by omega), rd_nat, if_neg (by omega), decide_eq_false (show ¬ L.getD i 0 > 48 by omega)]
    · rw [decide_eq_false hn, Bool.false_and, if_neg (by simp)]
      refine Ev.cut (f := fun k => impl_LayLong.j2 k acc (i : Int) (L.getD i 0) L (L.length : Int) (i : Int) true l m) (Ev.end_ (fun k => ?_)) (fun k => ?_)
      · simp only [impl_LayLong.j2]
        rw [if_pos trivial]
      · simp only [impl_LayLong.l0]
        rw [if_pos (by omega), if_pos (by omega), if_pos (by omega), rd_nat]
        by_cases h2 : L.getD i 0 < 0
        · rw [if_pos h2]
        · rw [if_neg h2, decide_eq_true (show L.getD i 0 > 48 by omega)]
theorem impl_LayLong_is (l m : Int) (L : List Int) : Ev (fun k => impl_LayLong.f k l m L) (lyLong l m L) := by
  unfold impl_LayLong.f lyLong
  rw [impl_LayOk_is]
  cases h : laOk l m with
  | false => exact Ev.end_ (fun k => by simp [impl_LayLong.j0])
  | true =>
    have h' := of_decide_eq_true h
    simp only [Option.bind_some, if_true]
    by_cases hL : (L.length : Int) = m
    · refine Ev.cut (f := fun k => impl_LayLong.l0 k 0 L (L.length : Int) ((0 : Nat) : Int) l m) ?_ (fun k => by simp [impl_LayLong.j0, hL])
      have hh := impl_LayLong_l (l := l) (m := m) (by omega) (by omega) (by omega) (by omega) L hL L.length 0 0 (by omega) (by omega) (by omega)
      simpa [hL] using hh
    · exact Ev.end_ (fun k => by simp [impl_LayLong.j0, hL])

theorem getD_lt (L : List UInt8) (i : Nat) (h : i < L.length) : L[i]? = some (L.getD i 46) := by
  rw [List.getD_eq_getElem?_getD, List.getElem?_eq_getElem h]
  rfl
theorem getD_ge (L : List UInt8) (i : Nat) (h : ¬ i < L.length) : L.getD i 46 = 46 := by
  rw [List.getD_eq_getElem?_getD, List.getElem?_eq_none (by omega)]
  rfl
theorem tOk_iff {L : List UInt8} : tOk L = true ↔ (∀ x ∈ L, cOk x = true) ∧ L.length ≤ 48 := by
  unfold tOk
  rw [Bool.and_eq_true, List.all_eq_true, decide_eq_true_iff]
theorem bt_get {s : ByteArray} {i : Nat} {x : UInt8} (h : (B s)[i]? = some x) : bt s (i : Int) = (x.toNat : Int) := by
  have hl := (List.getElem?_eq_some_iff.1 h).1
  rw [bt_B s i hl, (List.getElem?_eq_some_iff.1 h).2]

/-! Files that are one place by place. -/
theorem ext_getD {L M : List UInt8} (h : L.length = M.length) (g : ∀ i, L.getD i 46 = M.getD i 46) : L = M := by
  apply List.ext_getElem?
  intro i
  by_cases hi : i < L.length
  · rw [getD_lt L i hi, getD_lt M i (by omega), g]
  · rw [List.getElem?_eq_none (by omega), List.getElem?_eq_none (by omega)]

theorem one_size (s : ByteArray) (i : Nat) : (s.extract i (i + 1)).size ≤ 1 := by
  rw [B_size, B_ext, List.length_drop, List.length_take]
  omega

/-! A file, dealt to its objects. -/
def deal (l m : Int) (s : ByteArray) (out : List ByteArray) (i : Nat) : List ByteArray := out.set (lAt l m i).1.toNat (rdOf ByteArray.empty out (lAt l m i).1 ++ s.extract i (i + 1))
def lyOf (l m : Int) (s : ByteArray) : List ByteArray := if laOk l m = true ∧ tOk (B s) = true then (List.range' 0 s.size).foldl (deal l m s) (List.replicate m.toNat (⟨#[]⟩ : ByteArray)) else []
theorem deal_length (l m : Int) (s : ByteArray) (out : List ByteArray) (i : Nat) : (deal l m s out i).length = out.length := by simp [deal]
theorem rdOf_size {out : List ByteArray} {i n : Nat} (h : ∀ x ∈ out, x.size ≤ n) : (rdOf ByteArray.empty out (i : Int)).size ≤ n := by
  unfold rdOf
  rw [show (i : Int).toNat = i from rfl, List.getD_eq_getElem?_getD]
  cases e : out[i]? with
  | none => simp
  | some x => exact h x (List.mem_of_getElem? e)
theorem deal_sizes {l m : Int} {s : ByteArray} {out : List ByteArray} {i : Nat} (h : ∀ x ∈ out, x.size ≤ i) (h0 : 0 ≤ (lAt l m i).1) : ∀ x ∈ deal l m s out i, x.size ≤ i + 1 := by
  intro x hx
  unfold deal at hx
  rcases List.mem_or_eq_of_mem_set hx with hx | rfl
  · exact Nat.le_succ_of_le (h x hx)
  · have h1 := one_size s i
    have h2 := rdOf_size (i := (lAt l m i).1.toNat) h
    rw [Int.toNat_of_nonneg h0] at h2
    rw [B_size, B_app, List.length_append, ← B_size, ← B_size]
    omega
theorem impl_LayOf_l0 {l m : Int} (hl : 1 ≤ l) (hl8 : l ≤ 8) (hm : 1 ≤ m) (hm3 : m ≤ 3) (s : ByteArray) (hs : s.size ≤ 48) : ∀ (d i : Nat) (out : List ByteArray), i + d = s.size → (out.length : Int) = m → (∀ x ∈ out, x.size ≤ i) →
    Ev (fun k => impl_LayOf.l0 k s out (s.size : Int) (i : Int) l m) ((List.range' i d).foldl (deal l m s) out) := by
  have ho : laOk l m = true := decide_eq_true ⟨hl, hl8, hm, hm3⟩
  intro d
  induction d with
  | zero =>
    intro i out hi hm' hx
    refine Ev.end_ (fun k => ?_)
    simp only [impl_LayOf.l0]
    rw [if_neg (by omega)]
    rfl
  | succ d ih =>
    intro i out hi hm' hx
    obtain ⟨b1, b2, b3, b4⟩ := lAt_bounds (l := l) (m := m) (p := i) hl hl8 hm hm3 (by omega) (by omega)
    have z1 := one_size s i
    have z2 := rdOf_size (i := (lAt l m i).1.toNat) hx
    rw [Int.toNat_of_nonneg b1] at z2
    rw [List.range'_succ, List.foldl_cons]
    refine Ev.cut (f := fun k => impl_LayOf.l0 k s (deal l m s out i) (s.size : Int) ((i + 1 : Nat) : Int) l m) (ih (i + 1) _ (by omega) (by rw [deal_length]; exact hm') (deal_sizes hx b1)) (fun k => ?_)
    simp only [impl_LayOf.l0]
    have hy : lyAt l m (i : Int) = lAt l m (i : Int) := if_pos ⟨ho, by omega, by omega⟩
    rw [if_pos (by omega), impl_LayAt_is, hy]
    simp only [Option.bind_some]
    rw [if_pos b1, if_pos (by omega), if_pos (by omega), wsucc i (by omega), if_pos (by omega), if_pos (by omega), if_pos ?_]
    · rfl
    · show (rdOf ByteArray.empty out (lAt l m i).1).size + (s.extract i (i + 1)).size ≤ _
      omega
theorem impl_LayOf_is (l m : Int) (s : ByteArray) (hz : s.size < 4611686018427387904) : Ev (fun k => impl_LayOf.f k l m s) (lyOf l m s) := by
  unfold impl_LayOf.f lyOf
  simp only [impl_LayOk_is, Option.bind_some]
  cases h : laOk l m with
  | false => exact Ev.end_ (fun k => by simp [impl_LayOf.j0])
  | true =>
    have h' := of_decide_eq_true h
    simp only [if_true]
    refine Ev.bind (impl_TextOk_is s hz) ?_
    cases ht : tOk (B s) with
    | false => exact Ev.end_ (fun k => by simp [impl_LayOf.j0])
    | true =>
      have hs : s.size ≤ 48 := by rw [B_size]; simp [tOk] at ht; exact ht.2
      simp only [true_and, if_true]
      refine Ev.cut (f := fun k => impl_LayOf.l0 k s (List.replicate m.toNat (⟨#[]⟩ : ByteArray)) (s.size : Int) ((0 : Nat) : Int) l m) (impl_LayOf_l0 (by omega) (by omega) (by omega) (by omega) s hs s.size 0 _ (by omega) (by simp; omega) (fun x hx => by rw [List.eq_of_mem_replicate hx]; exact Nat.le_refl _)) (fun k => ?_)
      simp only [impl_LayOf.j0]
      rw [if_neg (by simp), if_pos (by omega), if_pos (by omega)]
      rfl
theorem lyOf_small (l m : Int) (s : ByteArray) : (lyOf l m s).length ≤ 3 := by
  unfold lyOf
  split
  · rename_i h
    have h' := of_decide_eq_true h.1
    have : ∀ (L : List Nat) (out : List ByteArray), (L.foldl (deal l m s) out).length = out.length := by
      intro L
      induction L with
      | nil => intro out; rfl
      | cons a L ih => intro out; rw [List.foldl_cons, ih, deal_length]
    rw [this]
    simp
    omega
  · simp

/-! Facts on layouts that are few enough to be looked at one by one. -/
theorem lay_all (Q : Int → Int → Int → Prop) [∀ a b c, Decidable (Q a b c)] (h : ∀ l : Fin 8, ∀ m : Fin 3, ∀ p : Fin 50, Q (((l.val + 1 : Nat) : Int)) (((m.val + 1 : Nat) : Int)) ((p.val : Nat) : Int)) {l m p : Int} (hl : 1 ≤ l) (hl8 : l ≤ 8) (hm : 1 ≤ m) (hm3 : m ≤ 3) (h0 : 0 ≤ p) (h1 : p < 50) : Q l m p := by
  have e1 : (((⟨(l - 1).toNat, by omega⟩ : Fin 8).val + 1 : Nat) : Int) = l := by show (((l - 1).toNat + 1 : Nat) : Int) = l; omega
  have e2 : (((⟨(m - 1).toNat, by omega⟩ : Fin 3).val + 1 : Nat) : Int) = m := by show (((m - 1).toNat + 1 : Nat) : Int) = m; omega
  have e3 : (((⟨p.toNat, by omega⟩ : Fin 50).val : Nat) : Int) = p := by show ((p.toNat : Nat) : Int) = p; omega
  have := h ⟨(l - 1).toNat, by omega⟩ ⟨(m - 1).toNat, by omega⟩ ⟨p.toNat, by omega⟩
  rwa [e1, e2, e3] at this

/-! What lies on each object. -/
def onObj (l m : Int) (o : Int) (n : Nat) : List Nat := (List.range n).filter fun p => decide ((lAt l m (p : Int)).1 = o)
def objL (l m : Int) (L : List UInt8) (o : Int) (n : Nat) : List UInt8 := (onObj l m o n).map fun p => L.getD p 46
theorem onObj_succ (l m o : Int) (n : Nat) : onObj l m o (n + 1) = onObj l m o n ++ (if (lAt l m (n : Int)).1 = o then [n] else []) := by
  unfold onObj
  rw [List.range_succ, List.filter_append]
  congr 1
  by_cases h : (lAt l m (n : Int)).1 = o
  · rw [if_pos h]; simp [h]
  · rw [if_neg h]; simp [h]
theorem onObj_add (l m o : Int) (n : Nat) : ∀ d, ∃ r, onObj l m o (n + d) = onObj l m o n ++ r := by
  intro d
  induction d with
  | zero => exact ⟨[], by simp⟩
  | succ d ih =>
    obtain ⟨r, hr⟩ := ih
    exact ⟨r ++ (if (lAt l m ((n + d : Nat) : Int)).1 = o then [n + d] else []), by rw [← Nat.add_assoc, onObj_succ, hr, List.append_assoc]⟩
theorem onObj_lt {l m o : Int} {n p : Nat} (h : p ∈ onObj l m o n) : p < n := by
  unfold onObj at h
  exact List.mem_range.1 (List.mem_filter.1 h).1
theorem obj_count {l m p : Int} (hl : 1 ≤ l) (hl8 : l ≤ 8) (hm : 1 ≤ m) (hm3 : m ≤ 3) (h0 : 0 ≤ p) (h1 : p < 50) : (onObj l m (lAt l m p).1 p.toNat).length = (lAt l m p).2.toNat :=
  lay_all (fun l m p => (onObj l m (lAt l m p).1 p.toNat).length = (lAt l m p).2.toNat) (by decide +kernel) hl hl8 hm hm3 h0 h1
theorem obj_at {l m : Int} (hl : 1 ≤ l) (hl8 : l ≤ 8) (hm : 1 ≤ m) (hm3 : m ≤ 3) {p n : Nat} (hp : p < n) (hn : p < 50) : (onObj l m (lAt l m p).1 n)[(lAt l m p).2.toNat]? = some p := by
  obtain ⟨r, hr⟩ := onObj_add l m (lAt l m p).1 (p + 1) (n - (p + 1))
  rw [show p + 1 + (n - (p + 1)) = n by omega, onObj_succ, if_pos rfl] at hr
  have hc := obj_count (p := p) hl hl8 hm hm3 (by omega) (by omega)
  rw [Int.toNat_natCast] at hc
  rw [hr, List.append_assoc, List.getElem?_append_right (by omega), hc, Nat.sub_self]
  rfl
theorem deal_inv {l m : Int} (hl : 1 ≤ l) (hl8 : l ≤ 8) (hm : 1 ≤ m) (hm3 : m ≤ 3) (s : ByteArray) (hs : s.size ≤ 48) : ∀ (d i : Nat) (out : List ByteArray), i + d = s.size → (out.length : Int) = m → (∀ o : Nat, (o : Int) < m → B (out.getD o ByteArray.empty) = objL l m (B s) (o : Int) i) →
    (((List.range' i d).foldl (deal l m s) out).length : Int) = m ∧ ∀ o : Nat, (o : Int) < m → B (((List.range' i d).foldl (deal l m s) out).getD o ByteArray.empty) = objL l m (B s) (o : Int) s.size := by
  intro d
  induction d with
  | zero =>
    intro i out hi hlen h
    obtain rfl : i = s.size := by omega
    exact ⟨hlen, h⟩
  | succ d ih =>
    intro i out hi hlen h
    rw [List.range'_succ, List.foldl_cons]
    obtain ⟨b1, b2, b3, b4⟩ := lAt_bounds (l := l) (m := m) (p := i) hl hl8 hm hm3 (by omega) (by omega)
    refine ih (i + 1) _ (by omega) (by rw [deal_length]; exact hlen) (fun o ho => ?_)
    have hil : i < (B s).length := by rw [← B_size]; omega
    have hone : B (s.extract i (i + 1)) = [(B s).getD i 46] := by
      rw [B_ext, List.drop_take, show i + 1 - i = 1 by omega, List.drop_eq_getElem_cons hil, List.getD_eq_getElem?_getD, List.getElem?_eq_getElem hil]
      rfl
    unfold objL
    rw [onObj_succ, List.map_append]
    unfold deal
    rw [List.getD_eq_getElem?_getD]
    by_cases e : (lAt l m (i : Int)).1 = (o : Int)
    · rw [if_pos e, e, Int.toNat_natCast, List.getElem?_set_self (by omega)]
      show B (rdOf ByteArray.empty out (o : Int) ++ s.extract i (i + 1)) = _
      rw [B_app, hone]
      have := h o ho
      unfold objL at this
      rw [← this]
      rfl
    · rw [if_neg e, List.getElem?_set_ne (by omega), List.map_nil, List.append_nil, ← List.getD_eq_getElem?_getD]
      exact h o ho
theorem lyOf_objs {l m : Int} (hk : laOk l m = true) (s : ByteArray) (ht : tOk (B s) = true) : ((lyOf l m s).length : Int) = m ∧ ∀ o : Nat, (o : Int) < m → B ((lyOf l m s).getD o ByteArray.empty) = objL l m (B s) (o : Int) (B s).length := by
  have hok := of_decide_eq_true hk
  have hs : s.size ≤ 48 := by rw [B_size]; exact (tOk_len ht)
  unfold lyOf
  rw [if_pos ⟨hk, ht⟩]
  have h := deal_inv (l := l) (m := m) (by omega) (by omega) (by omega) (by omega) s hs s.size 0 (List.replicate m.toNat (⟨#[]⟩ : ByteArray)) (by omega) (by rw [List.length_replicate]; omega) (fun o ho => by
    rw [List.getD_eq_getElem?_getD, List.getElem?_replicate, if_pos (by omega)]
    rfl)
  rw [← B_size]
  exact h
theorem objL_len (l m : Int) (L : List UInt8) (o : Int) (n : Nat) : (objL l m L o n).length = (onObj l m o n).length := by simp [objL]
theorem objL_tOk {l m : Int} {L : List UInt8} {o : Int} (h : tOk L = true) : tOk (objL l m L o L.length) = true := by
  obtain ⟨h1, h2⟩ := tOk_iff.1 h
  refine tOk_iff.2 ⟨fun x hx => ?_, ?_⟩
  · obtain ⟨p, hp, rfl⟩ := List.mem_map.1 hx
    have hlt := onObj_lt hp
    rw [List.getD_eq_getElem?_getD, List.getElem?_eq_getElem hlt]
    exact h1 _ (List.getElem_mem hlt)
  · rw [objL_len]
    unfold onObj
    have := List.length_filter_le (fun p => decide ((lAt l m ((p : Nat) : Int)).1 = o)) (List.range L.length)
    rw [List.length_range] at this
    omega

theorem rdOf_mem (l : List ByteArray) (i : Int) (h0 : 0 ≤ i) (h1 : i < (l.length : Int)) : rdOf ByteArray.empty l i ∈ l := by
  unfold rdOf
  rw [List.getD_eq_getElem?_getD, List.getElem?_eq_getElem (by omega)]
  exact List.getElem_mem _

/-! A file out of its objects. -/
def olens (objs : List ByteArray) : List Int := objs.map fun s => (s.size : Int)
def byteAt (l m : Int) (objs : List ByteArray) (i : Nat) : UInt8 := (B (rdOf ByteArray.empty objs (lAt l m i).1)).getD (lAt l m i).2.toNat 46
def lyText (l m : Int) (objs : List ByteArray) : List UInt8 × Bool :=
  if (∀ s ∈ objs, tOk (B s) = true) then (if lyLong l m (olens objs) < 0 then ([], false) else ((List.range (lyLong l m (olens objs)).toNat).map (byteAt l m objs), true)) else ([], false)
theorem lyLong_ok {l m : Int} {L : List Int} (h : ¬ lyLong l m L < 0) : laOk l m = true ∧ (L.length : Int) = m ∧ lens L = true ∧ lyLong l m L ≤ 48 ∧ 0 ≤ lyLong l m L ∧ lyLong l m L = lmax l m 0 L 0 := by
  unfold lyLong at h ⊢
  split at h
  · rename_i hc
    rw [if_pos hc]
    split at h
    · omega
    · rename_i h2
      rw [if_neg h2]
      exact ⟨hc.1, hc.2.1, hc.2.2, by omega, by omega, rfl⟩
  · omega
theorem range_map_succ (f : Nat → UInt8) (i : Nat) : (List.range (i + 1)).map f = (List.range i).map f ++ [f i] := by rw [List.range_succ, List.map_append]; rfl
theorem take_olens (objs : List ByteArray) (i : Nat) (h : i < objs.length) : olens (objs.take (i + 1)) = olens (objs.take i) ++ [((objs.getD i ByteArray.empty).size : Int)] := by
  unfold olens
  rw [List.take_succ_eq_append_getElem h, List.map_append, List.getD_eq_getElem?_getD, List.getElem?_eq_getElem h]
  rfl

theorem impl_LayText_l1 {l m : Int} (hl : 1 ≤ l) (hl8 : l ≤ 8) (hm : 1 ≤ m) (hm3 : m ≤ 3) (objs : List ByteArray) (hob : (objs.length : Int) = m) (n : Nat) (hn : n ≤ 48) : ∀ (d i : Nat), i + d = n →
    Ev (fun k => impl_LayText.l1 k objs ((List.range i).map fun j => ((byteAt l m objs j).toNat : Int)) (n : Int) (i : Int) l m) (mkB ((List.range n).map (byteAt l m objs)), true) := by
  have ho : laOk l m = true := decide_eq_true ⟨hl, hl8, hm, hm3⟩
  intro d
  induction d with
  | zero =>
    intro i hi
    refine Ev.end_ (fun k => ?_)
    simp only [impl_LayText.l1]
    rw [if_neg (by omega)]
    obtain rfl : i = n := by omega
    congr 2
    refine eq_mkB ?_
    show (((List.range i).map fun j => ((byteAt l m objs j).toNat : Int)).map fun n => UInt8.ofNat n.toNat).toArray.toList = _
    rw [List.map_map]
    simp
  | succ d ih =>
    intro i hi
    obtain ⟨b1, b2, b3, b4⟩ := lAt_bounds (l := l) (m := m) (p := i) hl hl8 hm hm3 (by omega) (by omega)
    have hy : lyAt l m (i : Int) = lAt l m (i : Int) := if_pos ⟨ho, by omega, by omega⟩
    have hr : ((List.range (i + 1)).map fun j => ((byteAt l m objs j).toNat : Int)) = ((List.range i).map fun j => ((byteAt l m objs j).toNat : Int)) ++ [((byteAt l m objs i).toNat : Int)] := by rw [List.range_succ, List.map_append]; rfl
    have h := ih (i + 1) (by omega)
    rw [hr] at h
    refine Ev.cut h (fun k => ?_)
    simp only [impl_LayText.l1]
    rw [if_pos (by omega), impl_LayAt_is, hy]
    simp only [Option.bind_some]
    rw [if_pos b1, if_pos (by omega)]
    by_cases hlt : (lAt l m i).2 < ((rdOf ByteArray.empty objs (lAt l m i).1).size : Int)
    · have e : bt (rdOf ByteArray.empty objs (lAt l m i).1) (lAt l m i).2 = ((byteAt l m objs i).toNat : Int) := by
        unfold byteAt
        generalize rdOf ByteArray.empty objs (lAt l m i).1 = o at hlt
        have hl2 : (lAt l m i).2.toNat < (B o).length := by rw [← B_size]; omega
        have hb := bt_B o (lAt l m i).2.toNat hl2
        rw [Int.toNat_of_nonneg b3] at hb
        rw [hb, List.getD_eq_getElem?_getD, List.getElem?_eq_getElem hl2]
        rfl
      rw [if_pos hlt, if_pos b3, if_pos (by simp; omega), wsucc i (by omega), e]
    · have e : (46 : Int) = ((byteAt l m objs i).toNat : Int) := by
        unfold byteAt
        rw [List.getD_eq_getElem?_getD, List.getElem?_eq_none (by rw [← B_size]; omega)]
        rfl
      rw [if_neg hlt, if_pos (by simp; omega), wsucc i (by omega), ← e]
theorem impl_LayText_l0 (l m : Int) (objs : List ByteArray) (hol : objs.length ≤ 2000000) (hos : ∀ s ∈ objs, s.size < 4611686018427387904) : ∀ (d i : Nat), i + d = objs.length → (∀ s ∈ objs.take i, tOk (B s) = true) →
    Ev (fun k => impl_LayText.l0 k objs (olens (objs.take i)) objs (objs.length : Int) (i : Int) l m) (mkB (lyText l m objs).1, (lyText l m objs).2) := by
  intro d
  induction d with
  | zero =>
    intro i hi hp
    rw [List.take_of_length_le (by omega)] at hp
    have hll := impl_LayLong_is l m (olens objs)
    unfold lyText
    rw [if_pos hp]
    refine Ev.cut (f := fun k => (impl_LayLong.f k l m (olens objs)).bind fun t => if t < 0 then some ((⟨#[]⟩ : ByteArray), false) else impl_LayText.l1 k objs ([] : List Int) t 0 l m) (Ev.bind hll ?_) (fun k => ?_)
    · by_cases hn : lyLong l m (olens objs) < 0
      · simp only [if_pos hn]
        exact Ev.now _
      · simp only [if_neg hn]
        obtain ⟨k1, k2, k3, k4, k5, _⟩ := lyLong_ok hn
        have hok := of_decide_eq_true k1
        have h := impl_LayText_l1 (l := l) (m := m) (by omega) (by omega) (by omega) (by omega) objs (by rw [← k2]; simp [olens]) (lyLong l m (olens objs)).toNat (by omega) (lyLong l m (olens objs)).toNat 0 (by omega)
        rw [Int.toNat_of_nonneg k5] at h
        exact h
    · simp only [impl_LayText.l0]
      rw [if_neg (by omega), List.take_of_length_le (by omega)]
  | succ d ih =>
    intro i hi hp
    have hlt : i < objs.length := by omega
    have hgd : objs.getD i ByteArray.empty = objs[i] := by rw [List.getD_eq_getElem?_getD, List.getElem?_eq_getElem hlt]; rfl
    have hto := impl_TextOk_is (objs.getD i ByteArray.empty) (by rw [hgd]; exact hos _ (List.getElem_mem hlt))
    cases ht : tOk (B (objs.getD i ByteArray.empty)) with
    | true =>
      have h := ih (i + 1) (by omega) (by
        intro s hs
        rw [List.take_succ_eq_append_getElem hlt, List.mem_append] at hs
        rcases hs with hs | hs
        · exact hp s hs
        · simp at hs
          subst hs
          rw [← hgd]
          exact ht)
      rw [ht] at hto
      refine Ev.cut (f := fun k => (impl_TextOk.f k (objs.getD i ByteArray.empty)).bind fun t => if t = true then (if (olens (objs.take i)).length < 17592186044416 then impl_LayText.l0 k objs (olens (objs.take i) ++ [((objs.getD i ByteArray.empty).size : Int)]) objs (objs.length : Int) (wrap64 ((i : Int) + 1)) l m else none) else some ((⟨#[]⟩ : ByteArray), false)) (Ev.bind hto ?_) (fun k => ?_)
      · simp only [if_true]
        simp only [if_pos (show (olens (objs.take i)).length < 17592186044416 by simp [olens]; omega), wsucc i (by omega)]
        rw [← take_olens objs i hlt]
        exact h
      · simp only [impl_LayText.l0]
        rw [if_pos (by omega), if_pos (by omega), if_pos (by omega)]
        rfl
    | false =>
      rw [ht] at hto
      have e : lyText l m objs = ([], false) := if_neg (fun hh => by
        have := hh (objs.getD i ByteArray.empty) (by rw [hgd]; exact List.getElem_mem hlt)
        rw [ht] at this
        cases this)
      rw [e]
      refine Ev.cut (f := fun k => (impl_TextOk.f k (objs.getD i ByteArray.empty)).bind fun t => if t = true then (if (olens (objs.take i)).length < 17592186044416 then impl_LayText.l0 k objs (olens (objs.take i) ++ [((objs.getD i ByteArray.empty).size : Int)]) objs (objs.length : Int) (wrap64 ((i : Int) + 1)) l m else none) else some ((⟨#[]⟩ : ByteArray), false)) (Ev.bind hto (Ev.all fun k => by simp; rfl)) (fun k => ?_)
      simp only [impl_LayText.l0]
      rw [if_pos (by omega), if_pos (by omega), if_pos (by omega)]
      rfl
theorem impl_LayText_is (l m : Int) (objs : List ByteArray) (hol : objs.length ≤ 2000000) (hos : ∀ s ∈ objs, s.size < 4611686018427387904) : Ev (fun k => impl_LayText.f k l m objs) (mkB (lyText l m objs).1, (lyText l m objs).2) := by
  have h := impl_LayText_l0 l m objs hol hos objs.length 0 (by omega) (fun s hs => by simp at hs)
  simpa [impl_LayText.f, olens] using h

theorem long_count {l m : Int} {n : Nat} (hl : 1 ≤ l) (hl8 : l ≤ 8) (hm : 1 ≤ m) (hm3 : m ≤ 3) (hn : n ≤ 48) : lyLong l m ((List.range m.toNat).map fun (o : Nat) => ((onObj l m (o : Int) n).length : Int)) = n := by
  have h := lay_all (fun l m p => p ≤ 48 → lyLong l m ((List.range m.toNat).map fun (o : Nat) => ((onObj l m (o : Int) p.toNat).length : Int)) = p) (by decide +kernel) hl hl8 hm hm3 (p := (n : Int)) (by omega) (by omega) (by omega)
  rwa [Int.toNat_natCast] at h
theorem sum_count {l m : Int} {n : Nat} (hl : 1 ≤ l) (hl8 : l ≤ 8) (hm : 1 ≤ m) (hm3 : m ≤ 3) (hn : n ≤ 48) : ((List.range m.toNat).map fun (o : Nat) => ((onObj l m (o : Int) n).length : Int)).sum = n := by
  have h := lay_all (fun l m p => p ≤ 48 → ((List.range m.toNat).map fun (o : Nat) => ((onObj l m (o : Int) p.toNat).length : Int)).sum = p) (by decide +kernel) hl hl8 hm hm3 (p := (n : Int)) (by omega) (by omega) (by omega)
  rwa [Int.toNat_natCast] at h
theorem lyOf_lens {l m : Int} (hk : laOk l m = true) (s : ByteArray) (ht : tOk (B s) = true) : olens (lyOf l m s) = (List.range m.toNat).map fun (o : Nat) => ((onObj l m (o : Int) (B s).length).length : Int) := by
  obtain ⟨h1, h2⟩ := lyOf_objs hk s ht
  have hok := of_decide_eq_true hk
  apply List.ext_getElem?
  intro o
  unfold olens
  rw [List.getElem?_map, List.getElem?_map]
  by_cases ho : o < m.toNat
  · have hb := h2 o (by omega)
    rw [List.getElem?_range ho]
    have hlt : o < (lyOf l m s).length := by omega
    rw [List.getD_eq_getElem?_getD, List.getElem?_eq_getElem hlt] at hb
    rw [List.getElem?_eq_getElem hlt]
    show some (((lyOf l m s)[o].size : Nat) : Int) = some _
    rw [B_size]
    have hb' : B (lyOf l m s)[o] = objL l m (B s) (o : Int) (B s).length := hb
    rw [hb', objL_len]
  · rw [List.getElem?_eq_none (by omega), List.getElem?_eq_none (by simp; omega)]
    rfl
theorem lyText_lyOf {l m : Int} (hk : laOk l m = true) (s : ByteArray) (ht : tOk (B s) = true) : lyText l m (lyOf l m s) = (B s, true) := by
  obtain ⟨h1, h2⟩ := lyOf_objs hk s ht
  have hok := of_decide_eq_true hk
  have hsl := tOk_len ht
  have hall : ∀ x ∈ lyOf l m s, tOk (B x) = true := by
    intro x hx
    obtain ⟨o, ho, rfl⟩ := List.mem_iff_getElem.1 hx
    have hb := h2 o (by omega)
    rw [List.getD_eq_getElem?_getD, List.getElem?_eq_getElem ho] at hb
    have hb' : B (lyOf l m s)[o] = objL l m (B s) (o : Int) (B s).length := hb
    rw [hb']
    exact objL_tOk ht
  unfold lyText
  rw [if_pos hall, lyOf_lens hk s ht, long_count (by omega) (by omega) (by omega) (by omega) hsl, if_neg (by omega), Int.toNat_natCast]
  congr 1
  refine ext_getD (by simp) (fun i => ?_)
  by_cases hi : i < (B s).length
  · rw [List.getD_eq_getElem?_getD, List.getElem?_map, List.getElem?_range hi]
    show byteAt l m (lyOf l m s) i = (B s).getD i 46
    obtain ⟨b1, b2, b3, b4⟩ := lAt_bounds (l := l) (m := m) (p := i) (by omega) (by omega) (by omega) (by omega) (by omega) (by omega)
    have hat := obj_at (l := l) (m := m) (by omega) (by omega) (by omega) (by omega) hi (by omega)
    unfold byteAt rdOf
    rw [h2 (lAt l m i).1.toNat (by omega), Int.toNat_of_nonneg b1, List.getD_eq_getElem?_getD]
    unfold objL
    rw [List.getElem?_map, hat]
    rfl
  · rw [List.getD_eq_getElem?_getD, List.getElem?_eq_none (by simp; omega), getD_ge _ _ hi]
    rfl

/-! A file made longer. -/
def padL (L : List UInt8) (n : Nat) : List UInt8 := L ++ List.replicate (n - L.length) 46
theorem padL_length (L : List UInt8) (n : Nat) : (padL L n).length = max L.length n := by simp [padL]; omega
theorem padL_short (L : List UInt8) (n : Nat) (h : n ≤ L.length) : padL L n = L := by simp [padL, Nat.sub_eq_zero_of_le h]
theorem l2Long_l : ∀ (d : Nat) (s : ByteArray) (n : Int), n.toNat - (B s).length = d → s.size < 4611686018427387904 → n < 4611686018427387904 → Ev (fun k => spec_l2Long.l0 k s n) (mkB (padL (B s) n.toNat)) := by
  intro d
  induction d with
  | zero =>
    intro s n hd hs hn
    refine Ev.end_ (fun k => ?_)
    simp only [spec_l2Long.l0]
    rw [if_neg (by rw [B_size]; omega), padL_short _ _ (by omega), mkB_B]
  | succ d ih =>
    intro s n hd hs hn
    have hb : B (s ++ (⟨#[46]⟩ : ByteArray)) = B s ++ [46] := by rw [B_app]; rfl
    have hz : (B s).length = s.size := (B_size s).symm
    have h := ih (s ++ (⟨#[46]⟩ : ByteArray)) n (by rw [hb]; simp; omega) (by rw [B_size, hb]; simp; omega) hn
    have e : padL (B (s ++ (⟨#[46]⟩ : ByteArray))) n.toNat = padL (B s) n.toNat := by
      rw [hb]
      unfold padL
      rw [List.append_assoc, List.length_append]
      congr 1
      rw [show n.toNat - (B s).length = (n.toNat - ((B s).length + [46].length)) + 1 by simp; omega, List.replicate_succ]
      rfl
    rw [e] at h
    refine Ev.cut h (fun k => ?_)
    simp only [spec_l2Long.l0]
    rw [if_pos (by rw [B_size]; omega), if_pos (by omega)]
theorem l2Long_is (s : ByteArray) (n : Int) (hs : s.size < 4611686018427387904) (hn : n < 4611686018427387904) : Ev (fun k => spec_l2Long.f k s n) (mkB (padL (B s) n.toNat)) := l2Long_l _ s n rfl hs hn

/-! Ranges, valid. -/
def spOk (a b : Int) : Bool := decide (0 ≤ a ∧ a < b ∧ b ≤ 48)
theorem impl_SpanOk_is (a b : Int) : impl_SpanOk.f a b = some (spOk a b) := by
  unfold impl_SpanOk.f spOk
  repeat' split
  all_goals first | exact dec_eq (by omega) | exact dec_false (by omega)

/-! A file cut, or made longer: the two programs'. -/
theorem sized_is (s : ByteArray) (n : Int) (h0 : 0 ≤ n) (hn : n ≤ 1000) (hs : s.size ≤ 1000) : impl_sized.f s n = some (mkB ((padL (B s) n.toNat).take n.toNat)) := by
  have hz : (B s).length = s.size := (B_size s).symm
  unfold impl_sized.f
  by_cases h : n ≤ (s.size : Int)
  · rw [if_pos h, if_pos h0]
    congr 1
    refine eq_mkB ?_
    rw [B_ext, padL_short _ _ (by omega)]
    rfl
  · have hw : wrap64 (n - (s.size : Int)) = n - (s.size : Int) := wid (by omega) (by omega)
    have hrep : Lib.repeatL (⟨#[46]⟩ : ByteArray).data.toList (n - (s.size : Int)).toNat = List.replicate (n - (s.size : Int)).toNat 46 := by
      have := Lib.repeatL_replicate 46 1 (n - (s.size : Int)).toNat
      rw [Nat.mul_one] at this
      exact this
    rw [if_neg h, hw]
    unfold strings_Repeat.f
    rw [if_pos (by omega), if_pos (by omega), if_pos (by show 1 * _ ≤ _; omega), Option.bind_some, hrep]
    have e : B (⟨(List.replicate (n - (s.size : Int)).toNat (46 : UInt8)).toArray⟩ : ByteArray) = List.replicate (n - (s.size : Int)).toNat 46 := B_mkB _
    have e2 : (⟨(List.replicate (n - (s.size : Int)).toNat (46 : UInt8)).toArray⟩ : ByteArray).size = (n - (s.size : Int)).toNat := by rw [B_size, e, List.length_replicate]
    rw [if_pos (by rw [e2]; omega)]
    congr 1
    refine eq_mkB ?_
    rw [B_app, e, List.take_of_length_le (by rw [padL_length]; omega)]
    unfold padL
    rw [show n.toNat - (B s).length = (n - (s.size : Int)).toNat by omega]
def tCut (L : List UInt8) (n : Int) : List UInt8 × Bool := if tOk L = true then (if 0 ≤ n ∧ n ≤ 48 then ((padL L n.toNat).take n.toNat, true) else (L, false)) else ([], false)
theorem impl_TextCut_is (s : ByteArray) (n : Int) (hz : s.size < 4611686018427387904) : Ev (fun k => impl_TextCut.f k s n) (mkB (tCut (B s) n).1, (tCut (B s) n).2) := by
  unfold impl_TextCut.f tCut
  refine Ev.bind (impl_TextOk_is s hz) ?_
  cases ht : tOk (B s) with
  | false => exact Ev.all fun k => rfl
  | true =>
    have hl := tOk_len ht
    have hzz : (B s).length = s.size := (B_size s).symm
    simp only [if_true]
    refine Ev.all fun k => ?_
    by_cases h0 : n < 0
    · rw [if_pos h0, if_neg (by omega), mkB_B]
    rw [if_neg h0]
    by_cases h1 : n > 48
    · rw [if_pos h1, if_neg (by omega), mkB_B]
    rw [if_neg h1, if_pos ⟨by omega, by omega⟩, sized_is s n (by omega) (by omega) (by omega)]
    rfl
theorem spec_TextCut_is (s : ByteArray) (n : Int) (hz : s.size < 4611686018427387904) : Ev (fun k => spec_TextCut.f k s n) (mkB (tCut (B s) n).1, (tCut (B s) n).2) := by
  unfold spec_TextCut.f tCut
  refine Ev.bind (spec_TextOk_is s hz) ?_
  cases ht : tOk (B s) with
  | false => exact Ev.all fun k => rfl
  | true =>
    simp only [if_true]
    by_cases h0 : n < 0
    · exact Ev.all fun k => by rw [if_pos h0, if_neg (by omega), mkB_B]
    simp only [if_neg h0]
    by_cases h1 : n > 48
    · exact Ev.all fun k => by rw [if_pos h1, if_neg (by omega), mkB_B]
    simp only [if_neg h1, if_pos (show 0 ≤ n ∧ n ≤ 48 by omega)]
    refine Ev.bind (l2Long_is s n hz (by omega)) (Ev.all fun k => ?_)
    rw [if_pos (by omega), if_pos (by rw [mkB_size, padL_length]; omega)]
    congr 2
    refine eq_mkB ?_
    rw [B_ext, B_mkB]
    rfl

/-! Bytes put into a file: the two programs'. -/
def wrL (L : List UInt8) (a : Nat) (D : List UInt8) : List UInt8 := (padL L a).take a ++ D ++ L.drop (a + D.length)
def tWrite (L : List UInt8) (a : Int) (D : List UInt8) : List UInt8 × Bool := if tOk L = true then (if 0 ≤ a ∧ a ≤ 48 ∧ D ≠ [] ∧ tOk D = true ∧ a + D.length ≤ 48 then (wrL L a.toNat D, true) else (L, false)) else ([], false)

theorem padL_take (L : List UInt8) {a b : Nat} (h : a ≤ b) : (padL L b).take a = (padL L a).take a := by
  unfold padL
  by_cases hl : a ≤ L.length
  · rw [List.take_append_of_le_length hl, List.take_append_of_le_length hl]
  · rw [List.take_append, List.take_append, List.take_replicate, List.take_replicate]
    congr 2
    omega
theorem padL_drop (L : List UInt8) {a b : Nat} (h : a ≤ b) : (padL L a).drop b = L.drop b := by
  by_cases hl : a ≤ L.length
  · rw [padL_short _ _ hl]
  · rw [List.drop_of_length_le (by rw [padL_length]; omega), List.drop_of_length_le (by omega)]
theorem toList_nil (d : ByteArray) : d.toList = ([] : List UInt8) ↔ B d = [] := by rw [B_toList]
theorem impl_TextWrite_is (s : ByteArray) (a : Int) (d : ByteArray) (hz : s.size < 4611686018427387904) (hd : d.size < 4611686018427387904) :
    Ev (fun k => impl_TextWrite.f k s a d) (mkB (tWrite (B s) a (B d)).1, (tWrite (B s) a (B d)).2) := by
  unfold impl_TextWrite.f tWrite
  refine Ev.bind (impl_TextOk_is s hz) ?_
  cases ht : tOk (B s) with
  | false => exact Ev.all fun k => rfl
  | true =>
    have hl := tOk_len ht
    have hzz : s.size = (B s).length := B_size s
    have hdz : d.size = (B d).length := B_size d
    simp only [if_true]
    by_cases h0 : a < 0
    · exact Ev.all fun k => by rw [if_pos h0, if_neg (by omega), mkB_B]
    simp only [if_neg h0]
    by_cases h1 : a > 48
    · exact Ev.all fun k => by rw [if_pos h1, if_neg (by omega), mkB_B]
    simp only [if_neg h1]
    by_cases h2 : B d = []
    · exact Ev.all fun k => by rw [if_pos ((toList_nil d).2 h2), if_neg (fun h => h.2.2.1 h2), mkB_B]
    simp only [if_neg (fun h => h2 ((toList_nil d).1 h))]
    refine Ev.bind (impl_TextOk_is d hd) ?_
    cases h3 : tOk (B d) with
    | false => exact Ev.all fun k => by rw [if_neg (by simp), if_neg (by simp), mkB_B]
    | true =>
      simp only [if_true]
      have hdl := tOk_len h3
      have hw : wrap64 (a + (d.size : Int)) = a + ((B d).length : Int) := by rw [wid (by omega) (by omega), hdz]
      simp only [hw]
      by_cases h4 : a + ((B d).length : Int) > 48
      · exact Ev.all fun k => by rw [if_pos h4, if_neg (by omega), mkB_B]
      simp only [if_neg h4]
      refine Ev.all fun k => ?_
      have hmx : mx (s.size : Int) (a + ((B d).length : Int)) = max ((B s).length : Int) (a + ((B d).length : Int)) := by unfold mx; rw [hzz]; split <;> omega
      have hmn : mn (a + ((B d).length : Int)) (s.size : Int) = min (a + ((B d).length : Int)) ((B s).length : Int) := by unfold mn; rw [hzz]; split <;> omega
      rw [hmx, hmn, sized_is s _ (by omega) (by omega) (by omega), Option.bind_some, if_pos (show 0 ≤ a ∧ a ≤ 48 ∧ B d ≠ [] ∧ True ∧ a + ((B d).length : Int) ≤ 48 from ⟨by omega, by omega, h2, trivial, by omega⟩)]
      generalize hT : (padL (B s) (max ((B s).length : Int) (a + ((B d).length : Int))).toNat).take (max ((B s).length : Int) (a + ((B d).length : Int))).toNat = T
      have hTl : T.length = (max ((B s).length : Int) (a + ((B d).length : Int))).toNat := by rw [← hT, List.length_take, padL_length]; omega
      have hTt : T.take a.toNat = (padL (B s) a.toNat).take a.toNat := by
        rw [← hT, List.take_take, Nat.min_eq_left (by omega), padL_take _ (by omega)]
      have e1 : B ((mkB T).extract 0 a.toNat) = (padL (B s) a.toNat).take a.toNat := by rw [B_ext, B_mkB]; exact hTt
      have e1l : ((mkB T).extract 0 a.toNat).size ≤ 48 := by rw [B_size, e1, List.length_take, padL_length]; omega
      have e2 : B (s.extract (min (a + ((B d).length : Int)) ((B s).length : Int)).toNat s.size) = (B s).drop (a.toNat + (B d).length) := by
        rw [B_ext, hzz, List.take_length]
        by_cases hle : a + ((B d).length : Int) ≤ ((B s).length : Int)
        · rw [Int.min_eq_left hle, show (a + ((B d).length : Int)).toNat = a.toNat + (B d).length by omega]
        · rw [Int.min_eq_right (by omega), List.drop_of_length_le (by omega), List.drop_of_length_le (by omega)]
      have e2l : (s.extract (min (a + ((B d).length : Int)) ((B s).length : Int)).toNat s.size).size ≤ 48 := by rw [B_size, e2, List.length_drop]; omega
      rw [if_pos (by omega), if_pos (by rw [mkB_size, hTl]; omega), if_pos (by omega), if_pos (by omega), if_pos (by omega), if_pos (by rw [app_size]; omega)]
      congr 2
      refine eq_mkB ?_
      rw [B_app, B_app, e1, e2]
      rfl
theorem spec_TextWrite_is (s : ByteArray) (a : Int) (d : ByteArray) (hz : s.size < 4611686018427387904) (hd : d.size < 4611686018427387904) :
    Ev (fun k => spec_TextWrite.f k s a d) (mkB (tWrite (B s) a (B d)).1, (tWrite (B s) a (B d)).2) := by
  unfold spec_TextWrite.f tWrite
  refine Ev.bind (spec_TextOk_is s hz) ?_
  cases ht : tOk (B s) with
  | false => exact Ev.all fun k => rfl
  | true =>
    have hl := tOk_len ht
    have hzz : s.size = (B s).length := B_size s
    have hdz : d.size = (B d).length := B_size d
    simp only [if_true]
    by_cases h0 : a < 0
    · exact Ev.all fun k => by rw [if_pos h0, if_neg (by omega), mkB_B]
    simp only [if_neg h0]
    by_cases h1 : a > 48
    · exact Ev.all fun k => by rw [if_pos h1, if_neg (by omega), mkB_B]
    simp only [if_neg h1]
    refine Ev.bind (spec_TextOk_is d hd) ?_
    cases h3 : tOk (B d) with
    | false => exact Ev.all fun k => by rw [if_neg (by simp), if_neg (by simp), mkB_B]
    | true =>
      simp only [if_true]
      by_cases h2 : B d = []
      · exact Ev.all fun k => by rw [if_pos ((toList_nil d).2 h2), if_neg (fun h => h.2.2.1 h2), mkB_B]
      simp only [if_neg (fun h => h2 ((toList_nil d).1 h))]
      have hdl := tOk_len h3
      have hw : wrap64 (a + (d.size : Int)) = a + ((B d).length : Int) := by rw [wid (by omega) (by omega), hdz]
      simp only [hw]
      by_cases h4 : a + ((B d).length : Int) > 48
      · exact Ev.all fun k => by rw [if_pos h4, if_neg (by omega), mkB_B]
      simp only [if_neg h4]
      rw [if_pos (show 0 ≤ a ∧ a ≤ 48 ∧ B d ≠ [] ∧ True ∧ a + ((B d).length : Int) ≤ 48 from ⟨by omega, by omega, h2, trivial, by omega⟩)]
      unfold spec_l2Write.f
      simp only [hw]
      refine Ev.bind (a := mkB (wrL (B s) a.toNat (B d))) (Ev.bind (l2Long_is s a hz (by omega)) (Ev.all fun k => ?_)) (Ev.now _)
      have hTl : (padL (B s) a.toNat).length = max (B s).length a.toNat := padL_length _ _
      have e1 : B ((mkB (padL (B s) a.toNat)).extract 0 a.toNat) = (padL (B s) a.toNat).take a.toNat := by rw [B_ext, B_mkB]; rfl
      have e1l : ((mkB (padL (B s) a.toNat)).extract 0 a.toNat).size ≤ 48 := by rw [B_size, e1, List.length_take, padL_length]; omega
      have hmn : mn ((mkB (padL (B s) a.toNat)).size : Int) (a + ((B d).length : Int)) = min ((padL (B s) a.toNat).length : Int) (a + ((B d).length : Int)) := by unfold mn; rw [mkB_size]; split <;> omega
      have e2 : B ((mkB (padL (B s) a.toNat)).extract (min ((padL (B s) a.toNat).length : Int) (a + ((B d).length : Int))).toNat (mkB (padL (B s) a.toNat)).size) = (B s).drop (a.toNat + (B d).length) := by
        rw [B_ext, B_mkB, mkB_size, List.take_length]
        by_cases hle : a + ((B d).length : Int) ≤ ((padL (B s) a.toNat).length : Int)
        · rw [Int.min_eq_right hle, show (a + ((B d).length : Int)).toNat = a.toNat + (B d).length by omega, padL_drop _ (by omega)]
        · rw [Int.min_eq_left (by omega), List.drop_of_length_le (by omega), List.drop_of_length_le (by omega)]
      have e2l : ((mkB (padL (B s) a.toNat)).extract (min ((padL (B s) a.toNat).length : Int) (a + ((B d).length : Int))).toNat (mkB (padL (B s) a.toNat)).size).size ≤ 48 := by rw [B_size, e2, List.length_drop]; omega
      rw [if_pos (by omega), if_pos (by rw [mkB_size, hTl]; omega), if_pos (by omega), l1Min_is, Option.bind_some, hmn, if_pos (by omega), if_pos (by rw [mkB_size]; omega), if_pos (by rw [app_size]; omega)]
      congr 1
      refine eq_mkB ?_
      rw [B_app, B_app, e1, e2]
      rfl

/-! What a write leaves, place by place. -/
theorem padL_get (L : List UInt8) (n i : Nat) (h : i < max L.length n) : (padL L n)[i]? = some (L.getD i 46) := by
  unfold padL
  by_cases hl : i < L.length
  · rw [List.getElem?_append_left hl, getD_lt L i hl]
  · rw [List.getElem?_append_right (by omega), List.getElem?_replicate, if_pos (by omega), getD_ge L i hl]
theorem wrL_get (L : List UInt8) (a : Nat) (D : List UInt8) (i : Nat) : (wrL L a D)[i]? = if i < a then some (L.getD i 46) else if i < a + D.length then D[i - a]? else L[i]? := by
  have hl : ((padL L a).take a).length = a := by rw [List.length_take, padL_length]; omega
  unfold wrL
  by_cases h : i < a
  · rw [if_pos h, List.append_assoc, List.getElem?_append_left (by omega), List.getElem?_take, if_pos h, padL_get _ _ _ (by omega)]
  · rw [if_neg h]
    by_cases h2 : i < a + D.length
    · rw [if_pos h2, List.append_assoc, List.getElem?_append_right (by omega), hl, List.getElem?_append_left (by omega)]
    · rw [if_neg h2, List.append_assoc, List.getElem?_append_right (by omega), hl, List.getElem?_append_right (by omega), List.getElem?_drop]
      congr 1
      omega
theorem wrL_length (L : List UInt8) (a : Nat) (D : List UInt8) : (wrL L a D).length = max L.length (a + D.length) := by
  unfold wrL
  rw [List.length_append, List.length_append, List.length_take, padL_length, List.length_drop]
  omega
theorem padL_mem {L : List UInt8} {n : Nat} {x : UInt8} (h : x ∈ padL L n) : x ∈ L ∨ x = 46 := by
  unfold padL at h
  rcases List.mem_append.1 h with h | h
  · exact .inl h
  · exact .inr (List.eq_of_mem_replicate h)
theorem wrL_tOk {L : List UInt8} {a : Nat} {D : List UInt8} (h : tOk L = true) (hD : tOk D = true) (ha : a + D.length ≤ 48) : tOk (wrL L a D) = true := by
  obtain ⟨h1, h2⟩ := tOk_iff.1 h
  obtain ⟨d1, _⟩ := tOk_iff.1 hD
  refine tOk_iff.2 ⟨fun x hx => ?_, by rw [wrL_length]; omega⟩
  unfold wrL at hx
  rcases List.mem_append.1 hx with hx | hx
  · rcases List.mem_append.1 hx with hx | hx
    · rcases padL_mem (List.mem_of_mem_take hx) with hx | rfl
      · exact h1 x hx
      · rfl
    · exact d1 x hx
  · exact h1 x (List.mem_of_mem_drop hx)
theorem cut_tOk {L : List UInt8} {n : Nat} (h : tOk L = true) (hn : n ≤ 48) : tOk ((padL L n).take n) = true := by
  obtain ⟨h1, h2⟩ := tOk_iff.1 h
  refine tOk_iff.2 ⟨fun x hx => ?_, by rw [List.length_take]; omega⟩
  rcases padL_mem (List.mem_of_mem_take hx) with hx | rfl
  · exact h1 x hx
  · rfl
theorem wrL_again (L : List UInt8) (a : Nat) (D : List UInt8) : wrL (wrL L a D) a D = wrL L a D := by
  apply List.ext_getElem?
  intro i
  rw [wrL_get]
  by_cases h : i < a
  · rw [if_pos h, wrL_get, if_pos h, List.getD_eq_getElem?_getD, wrL_get, if_pos h]
    rfl
  · rw [if_neg h]
    by_cases h2 : i < a + D.length
    · rw [if_pos h2, wrL_get, if_neg h, if_pos h2]
    · rw [if_neg h2]
theorem wrL_read (L : List UInt8) (a : Nat) (D : List UInt8) : ((wrL L a D).take (a + D.length)).drop a = D := by
  apply List.ext_getElem?
  intro i
  rw [List.getElem?_drop, List.getElem?_take]
  by_cases h : i < D.length
  · rw [if_pos (by omega), wrL_get, if_neg (by omega), if_pos (by omega)]
    congr 1
    omega
  · rw [if_neg (by omega), List.getElem?_eq_none (by omega)]

theorem tWrite_true {L : List UInt8} {a : Int} {D : List UInt8} (h : (tWrite L a D).2 = true) : tOk L = true ∧ 0 ≤ a ∧ a ≤ 48 ∧ D ≠ [] ∧ tOk D = true ∧ a + D.length ≤ 48 ∧ (tWrite L a D).1 = wrL L a.toNat D := by
  unfold tWrite at h ⊢
  by_cases h1 : tOk L = true
  · rw [if_pos h1] at h ⊢
    by_cases h2 : 0 ≤ a ∧ a ≤ 48 ∧ D ≠ [] ∧ tOk D = true ∧ a + D.length ≤ 48
    · rw [if_pos h2]
      exact ⟨h1, h2.1, h2.2.1, h2.2.2.1, h2.2.2.2.1, h2.2.2.2.2, rfl⟩
    · rw [if_neg h2] at h
      cases h
  · rw [if_neg h1] at h
    cases h
theorem tWrite_mk {L : List UInt8} {a : Int} {D : List UInt8} (h1 : tOk L = true) (h2 : 0 ≤ a) (h3 : a ≤ 48) (h4 : D ≠ []) (h5 : tOk D = true) (h6 : a + D.length ≤ 48) : tWrite L a D = (wrL L a.toNat D, true) := by
  unfold tWrite
  rw [if_pos h1, if_pos ⟨h2, h3, h4, h5, h6⟩]
theorem tWrite_false {L : List UInt8} {a : Int} {D : List UInt8} (h : (tWrite L a D).2 = false) : (tOk L = true ∧ (tWrite L a D).1 = L) ∨ (tOk L = false ∧ (tWrite L a D).1 = []) := by
  unfold tWrite at h ⊢
  by_cases h1 : tOk L = true
  · rw [if_pos h1] at h ⊢
    by_cases h2 : 0 ≤ a ∧ a ≤ 48 ∧ D ≠ [] ∧ tOk D = true ∧ a + D.length ≤ 48
    · rw [if_pos h2] at h
      cases h
    · rw [if_neg h2]
      exact .inl ⟨h1, rfl⟩
  · rw [if_neg h1]
    exact .inr ⟨by simpa using h1, rfl⟩

theorem wrL_getD (L : List UInt8) (a : Nat) (D : List UInt8) (i : Nat) : (wrL L a D).getD i 46 = if a ≤ i ∧ i < a + D.length then D.getD (i - a) 46 else L.getD i 46 := by
  rw [List.getD_eq_getElem?_getD, wrL_get]
  by_cases h : i < a
  · rw [if_pos h, if_neg (by omega)]
    rfl
  · rw [if_neg h]
    by_cases h2 : i < a + D.length
    · rw [if_pos h2, if_pos ⟨by omega, h2⟩, List.getD_eq_getElem?_getD]
    · rw [if_neg h2, if_neg (by omega), List.getD_eq_getElem?_getD]
theorem app_getD (D E : List UInt8) (i : Nat) : (D ++ E).getD i 46 = if i < D.length then D.getD i 46 else E.getD (i - D.length) 46 := by
  rw [List.getD_eq_getElem?_getD]
  by_cases h : i < D.length
  · rw [if_pos h, List.getElem?_append_left h, List.getD_eq_getElem?_getD]
  · rw [if_neg h, List.getElem?_append_right (by omega), List.getD_eq_getElem?_getD]
theorem wrL_comm (L : List UInt8) {a c : Nat} {D E : List UInt8} (h : a + D.length ≤ c ∨ c + E.length ≤ a) : wrL (wrL L a D) c E = wrL (wrL L c E) a D := by
  refine ext_getD (by simp only [wrL_length]; omega) (fun i => ?_)
  simp only [wrL_getD]
  by_cases h1 : a ≤ i ∧ i < a + D.length
  · rw [if_neg (by omega), if_pos h1, if_pos h1]
  · rw [if_neg h1, if_neg h1]
theorem wrL_split (L : List UInt8) (a : Nat) (D E : List UInt8) : wrL (wrL L a D) (a + D.length) E = wrL L a (D ++ E) := by
  refine ext_getD (by simp only [wrL_length, List.length_append]; omega) (fun i => ?_)
  simp only [wrL_getD, List.length_append, app_getD]
  by_cases h1 : a ≤ i ∧ i < a + D.length
  · rw [if_neg (by omega), if_pos h1, if_pos ⟨h1.1, by omega⟩, if_pos (by omega)]
  · by_cases h2 : a + D.length ≤ i ∧ i < a + D.length + E.length
    · rw [if_pos h2, if_pos ⟨by omega, by omega⟩, if_neg (by omega)]
      congr 1
      omega
    · rw [if_neg h2, if_neg h1, if_neg (by omega)]
theorem wrL_back (L : List UInt8) (a : Nat) (D : List UInt8) (h : a + D.length ≤ L.length) : wrL (wrL L a D) a ((L.take (a + D.length)).drop a) = L := by
  have hl : ((L.take (a + D.length)).drop a).length = D.length := by rw [List.length_drop, List.length_take]; omega
  refine ext_getD (by simp only [wrL_length, hl]; omega) (fun i => ?_)
  simp only [wrL_getD, hl]
  by_cases h1 : a ≤ i ∧ i < a + D.length
  · rw [if_pos h1, List.getD_eq_getElem?_getD, List.getElem?_drop, List.getElem?_take, if_pos (by omega), show a + (i - a) = i by omega, List.getD_eq_getElem?_getD]
  · rw [if_neg h1, if_neg h1]

/-! The parts of a range, by the stripes. -/
theorem at_run {l m g q : Int} (hl : 1 ≤ l) (hl8 : l ≤ 8) (h0 : 0 ≤ g) (h1 : g ≤ q) (h2 : q < (g / l + 1) * l) : q / l = g / l ∧ q % l = g % l + (q - g) ∧ lAt l m q = ((lAt l m g).1, (lAt l m g).2 + (q - g)) ∧ (g < q → 0 < q % l) := by
  have hq : q / l = g / l ∧ q % l = g % l + (q - g) ∧ (g < q → 0 < q % l) := by
    have : l = 1 ∨ l = 2 ∨ l = 3 ∨ l = 4 ∨ l = 5 ∨ l = 6 ∨ l = 7 ∨ l = 8 := by omega
    rcases this with rfl | rfl | rfl | rfl | rfl | rfl | rfl | rfl <;> omega
  refine ⟨hq.1, hq.2.1, ?_, hq.2.2⟩
  unfold lAt
  rw [hq.1, hq.2.1, Int.add_assoc]
theorem run_gt {l f : Int} (hl : 1 ≤ l) (hl8 : l ≤ 8) (h0 : 0 ≤ f) : f < (f / l + 1) * l ∧ (f / l + 1) * l ≤ f + l ∧ ((f / l + 1) * l) % l = 0 := by
  have : l = 1 ∨ l = 2 ∨ l = 3 ∨ l = 4 ∨ l = 5 ∨ l = 6 ∨ l = 7 ∨ l = 8 := by omega
  rcases this with rfl | rfl | rfl | rfl | rfl | rfl | rfl | rfl <;> omega
def pc (l m f e : Int) : S68 := ⟨(lAt l m f).1, ⟨(lAt l m f).2, (lAt l m f).2 + (e - f)⟩, f⟩
def plL (l m h : Int) : Nat → Int → List S68
  | 0, _ => []
  | d + 1, f => if f < h then pc l m f (mn h ((f / l + 1) * l)) :: plL l m h d (mn h ((f / l + 1) * l)) else []
theorem plL_end (l m h : Int) (d : Nat) (f : Int) (hf : h ≤ f) : plL l m h d f = [] := by
  cases d with
  | zero => rfl
  | succ d => rw [plL, if_neg (by omega)]
theorem plL_len (l m h : Int) : ∀ (d : Nat) (f : Int), (plL l m h d f).length ≤ d
  | 0, _ => Nat.le_refl _
  | d + 1, f => by
    rw [plL]
    split
    · have := plL_len l m h d (mn h ((f / l + 1) * l))
      simp
      omega
    · simp
theorem plL_grow {l m p : Int} (hl : 1 ≤ l) (hl8 : l ≤ 8) : ∀ (d : Nat) (f : Int), 0 ≤ f → f ≤ p → p + 1 - f ≤ d →
    (f < p ∧ 0 < p % l → ∃ L0 g, plL l m p d f = L0 ++ [pc l m g p] ∧ plL l m (p + 1) d f = L0 ++ [pc l m g (p + 1)] ∧ g < p ∧ p < (g / l + 1) * l ∧ f ≤ g) ∧ (¬ (f < p ∧ 0 < p % l) → plL l m (p + 1) d f = plL l m p d f ++ [pc l m p (p + 1)])
  | 0, f, h0, h1, h2 => by omega
  | d + 1, f, h0, h1, h2 => by
    obtain ⟨g1, g2, g3⟩ := run_gt hl hl8 h0
    by_cases e : f = p
    · subst e
      refine ⟨fun h => by omega, fun _ => ?_⟩
      have em : mn (f + 1) ((f / l + 1) * l) = f + 1 := by unfold mn; split <;> omega
      rw [plL_end l m f (d + 1) f (Int.le_refl _), plL, if_pos (by omega), em, plL_end _ _ _ _ _ (Int.le_refl _)]
      rfl
    · by_cases hb : p < (f / l + 1) * l
      · have hr := (at_run (m := m) hl hl8 h0 h1 hb).2.2.2 (by omega)
        have em1 : mn (p + 1) ((f / l + 1) * l) = p + 1 := by unfold mn; split <;> omega
        have em0 : mn p ((f / l + 1) * l) = p := by unfold mn; split <;> omega
        refine ⟨fun _ => ⟨[], f, ?_, ?_, by omega, hb, Int.le_refl _⟩, fun h => absurd ⟨by omega, hr⟩ h⟩
        · rw [plL, if_pos (by omega), em0, plL_end _ _ _ _ _ (Int.le_refl _)]
          rfl
        · rw [plL, if_pos (by omega), em1, plL_end _ _ _ _ _ (Int.le_refl _)]
          rfl
      · have em1 : mn (p + 1) ((f / l + 1) * l) = (f / l + 1) * l := by unfold mn; split <;> omega
        have em0 : mn p ((f / l + 1) * l) = (f / l + 1) * l := by unfold mn; split <;> omega
        have c1 : plL l m p (d + 1) f = pc l m f ((f / l + 1) * l) :: plL l m p d ((f / l + 1) * l) := by rw [plL, if_pos (by omega), em0]
        have c2 : plL l m (p + 1) (d + 1) f = pc l m f ((f / l + 1) * l) :: plL l m (p + 1) d ((f / l + 1) * l) := by rw [plL, if_pos (by omega), em1]
        generalize (f / l + 1) * l = b at *
        obtain ⟨i1, i2⟩ := plL_grow (m := m) (p := p) hl hl8 d b (by omega) (by omega) (by omega)
        rw [c1, c2]
        refine ⟨fun h => ?_, fun h => ?_⟩
        · have hbp : b < p := by
            by_cases hh : b = p
            · rw [← hh, g3] at h
              omega
            · omega
          obtain ⟨L0, g, q1, q2, q3, q4, q5⟩ := i1 ⟨hbp, h.2⟩
          exact ⟨pc l m f b :: L0, g, by rw [q1]; rfl, by rw [q2]; rfl, q3, q4, by omega⟩
        · rw [i2 (fun hh => h ⟨by omega, hh.2⟩)]
          rfl
theorem plL_fuel {l m h : Int} (hl : 1 ≤ l) (hl8 : l ≤ 8) : ∀ (d : Nat) (f : Int), 0 ≤ f → h - f ≤ d → plL l m h (d + 1) f = plL l m h d f
  | 0, f, h0, h1 => by rw [plL_end _ _ _ _ _ (by omega), plL_end _ _ _ _ _ (by omega)]
  | d + 1, f, h0, h1 => by
    obtain ⟨g1, g2, g3⟩ := run_gt hl hl8 h0
    by_cases hf : f < h
    · have hb : f < mn h ((f / l + 1) * l) := by unfold mn; split <;> omega
      rw [plL, if_pos hf, plL_fuel hl hl8 d (mn h ((f / l + 1) * l)) (by omega) (by omega)]
      conv => rhs; rw [plL, if_pos hf]
    · rw [plL_end _ _ _ _ _ (by omega), plL_end _ _ _ _ _ (by omega)]
def lyParts (l m x y : Int) : List S68 := if laOk l m = true ∧ spOk x y = true then plL l m y 48 x else []
theorem impl_LayParts_l {l m : Int} (hk : laOk l m = true) (x y : Int) (hy : y ≤ 48) : ∀ (d : Nat) (f : Int) (out : List S68), 0 ≤ f → f ≤ y → y - f ≤ d → out.length + d ≤ 1000 → Ev (fun k => impl_LayParts.l0 k out f l m x y) (out ++ plL l m y d f) := by
  have hok := of_decide_eq_true hk
  intro d
  induction d with
  | zero =>
    intro f out h0 h1 h2 h3
    refine Ev.end_ (fun k => ?_)
    simp only [impl_LayParts.l0]
    rw [if_neg (by omega)]
    simp [plL]
  | succ d ih =>
    intro f out h0 h1 h2 h3
    by_cases hlt : f < y
    · obtain ⟨g1, g2, g3⟩ := run_gt hok.1 hok.2.1 h0
      have hb := lAt_bounds (l := l) (m := m) (p := f) hok.1 hok.2.1 hok.2.2.1 hok.2.2.2 h0 (by omega)
      have hq0 : 0 ≤ f / l := Int.ediv_nonneg h0 (by omega)
      have hq1 : f / l ≤ f := Int.ediv_le_self _ h0
      have hw : wrap64 (wrap64 (wrap64 (Int.tdiv f l) + 1) * l) = (f / l + 1) * l := by
        rw [Int.tdiv_eq_ediv_of_nonneg h0, wid (x := f / l) (by omega) (by omega), wid (x := f / l + 1) (by omega) (by omega), wid (by omega) (by omega)]
      have hmn : f < mn y ((f / l + 1) * l) ∧ mn y ((f / l + 1) * l) ≤ y := by unfold mn; split <;> omega
      have h := ih (mn y ((f / l + 1) * l)) (out ++ [pc l m f (mn y ((f / l + 1) * l))]) (by omega) (by omega) (by omega) (by simp; omega)
      have e : plL l m y (d + 1) f = pc l m f (mn y ((f / l + 1) * l)) :: plL l m y d (mn y ((f / l + 1) * l)) := by rw [plL, if_pos hlt]
      rw [e]
      rw [List.append_assoc] at h
      have hpc : (⟨(lAt l m f).1, ⟨(lAt l m f).2, wrap64 (wrap64 ((lAt l m f).2 + mn y ((f / l + 1) * l)) - f)⟩, f⟩ : S68) = pc l m f (mn y ((f / l + 1) * l)) := by
        unfold pc
        rw [wid (x := (lAt l m f).2 + mn y ((f / l + 1) * l)) (by omega) (by omega), wid (by omega) (by omega), Int.add_sub_assoc]
      refine Ev.cut h (fun k => ?_)
      simp only [impl_LayParts.l0, hw]
      rw [if_pos hlt, if_neg (by omega), impl_LayAt_is, show lyAt l m f = lAt l m f from if_pos ⟨hk, h0, by omega⟩]
      simp only [Option.bind_some]
      rw [if_pos (by omega), hpc]
    · rw [plL_end _ _ _ _ _ (by omega), List.append_nil]
      refine Ev.end_ (fun k => ?_)
      simp only [impl_LayParts.l0]
      rw [if_neg hlt]
theorem impl_LayParts_is (l m x y : Int) : Ev (fun k => impl_LayParts.f k l m x y) (lyParts l m x y) := by
  unfold impl_LayParts.f lyParts
  simp only [impl_LayOk_is, impl_SpanOk_is, Option.bind_some]
  have hbad : Ev (fun k => impl_LayParts.j0 k true l m x y) ([] : List S68) := Ev.end_ (fun k => by simp only [impl_LayParts.j0, if_true])
  cases hk : laOk l m with
  | false => simpa using hbad
  | true =>
    cases hs : spOk x y with
    | false => simpa using hbad
    | true =>
      have hs' := of_decide_eq_true hs
      simp only [if_true, and_self, Bool.not_true]
      refine Ev.cut (impl_LayParts_l hk x y hs'.2.2 48 x [] hs'.1 (by omega) (by omega) (by simp)) (fun k => ?_)
      simp only [impl_LayParts.j0, Bool.false_eq_true, if_false]
theorem rdPart_nat (L : List S68) (i : Nat) : rd_T68 L (i : Int) = L.getD i z68 := rfl
/-! Where the parts begin. -/
def nx (l h f : Int) : Int := mn h ((f / l + 1) * l)
def fsn (l h : Int) : Nat → Int → Int
  | 0, f => f
  | i + 1, f => fsn l h i (nx l h f)
theorem fsn_succ (l h : Int) : ∀ (i : Nat) (f : Int), fsn l h (i + 1) f = nx l h (fsn l h i f)
  | 0, f => rfl
  | i + 1, f => fsn_succ l h i (nx l h f)
theorem nx_facts {l h f : Int} (hl : 1 ≤ l) (hl8 : l ≤ 8) (h0 : 0 ≤ f) (h1 : f ≤ h) : f ≤ nx l h f ∧ nx l h f ≤ h ∧ nx l h f ≤ (f / l + 1) * l ∧ (f < h → f < nx l h f) ∧ nx l h f ≤ f + l := by
  obtain ⟨g1, g2, _⟩ := run_gt hl hl8 h0
  unfold nx mn
  split <;> omega
theorem fsn_le {l h : Int} (hl : 1 ≤ l) (hl8 : l ≤ 8) {f : Int} (h0 : 0 ≤ f) (h1 : f ≤ h) : ∀ i : Nat, f ≤ fsn l h i f ∧ fsn l h i f ≤ h
  | 0 => ⟨Int.le_refl _, h1⟩
  | i + 1 => by
    rw [fsn_succ]
    have ih := fsn_le hl hl8 h0 h1 i
    have := nx_facts (h := h) (f := fsn l h i f) hl hl8 (by omega) ih.2
    omega
theorem fsn_mono {l h : Int} (hl : 1 ≤ l) (hl8 : l ≤ 8) {f : Int} (h0 : 0 ≤ f) (h1 : f ≤ h) (i : Nat) : ∀ c : Nat, fsn l h i f ≤ fsn l h (i + c) f
  | 0 => Int.le_refl _
  | c + 1 => by
    have ih := fsn_mono hl hl8 h0 h1 i c
    have hb := fsn_le hl hl8 h0 h1 (i + c)
    have := nx_facts (h := h) (f := fsn l h (i + c) f) hl hl8 (by omega) hb.2
    rw [← Nat.add_assoc, fsn_succ]
    omega
theorem plL_at (l m h : Int) : ∀ (d : Nat) (f : Int) (i : Nat), i < (plL l m h d f).length → (plL l m h d f).getD i z68 = pc l m (fsn l h i f) (fsn l h (i + 1) f) ∧ fsn l h i f < h
  | 0, f, i, hi => by simp [plL] at hi
  | d + 1, f, i, hi => by
    rw [plL] at hi ⊢
    by_cases hf : f < h
    · rw [if_pos hf] at hi ⊢
      cases i with
      | zero => exact ⟨rfl, hf⟩
      | succ i => exact plL_at l m h d _ i (by simpa using hi)
    · rw [if_neg hf] at hi
      simp at hi
theorem plL_all {l m h : Int} (hl : 1 ≤ l) (hl8 : l ≤ 8) : ∀ (d : Nat) (f : Int), 0 ≤ f → f ≤ h → h - f ≤ d → fsn l h (plL l m h d f).length f = h
  | 0, f, h0, h1, h2 => by
    have : f = h := by omega
    exact this
  | d + 1, f, h0, h1, h2 => by
    rw [plL]
    by_cases hf : f < h
    · have hn := nx_facts (h := h) hl hl8 h0 h1
      rw [if_pos hf]
      exact plL_all hl hl8 d (nx l h f) (by omega) hn.2.1 (by have := hn.2.2.2.1 hf; omega)
    · rw [if_neg hf]
      show f = h
      omega
theorem part_at {l m x y : Int} (hk : laOk l m = true) (hs : spOk x y = true) (i : Nat) (hi : i < (lyParts l m x y).length) :
    ∃ f e, f = fsn l y i x ∧ e = fsn l y (i + 1) x ∧ (lyParts l m x y).getD i z68 = pc l m f e ∧ x ≤ f ∧ f < e ∧ e ≤ y ∧ e ≤ (f / l + 1) * l ∧ e - f ≤ l := by
  have hok := of_decide_eq_true hk
  have hs' := of_decide_eq_true hs
  have e0 : lyParts l m x y = plL l m y 48 x := if_pos ⟨hk, hs⟩
  rw [e0] at hi ⊢
  obtain ⟨h1, h2⟩ := plL_at l m y 48 x i hi
  have hb := fsn_le (h := y) hok.1 hok.2.1 hs'.1 (by omega) i
  have hn := nx_facts (h := y) (f := fsn l y i x) hok.1 hok.2.1 (by omega) hb.2
  refine ⟨_, _, rfl, rfl, h1, hb.1, ?_, ?_, ?_, ?_⟩ <;> rw [fsn_succ] <;> omega
theorem part_end {l m x y : Int} (hk : laOk l m = true) (hs : spOk x y = true) : fsn l y (lyParts l m x y).length x = y := by
  have hok := of_decide_eq_true hk
  have hs' := of_decide_eq_true hs
  have e0 : lyParts l m x y = plL l m y 48 x := if_pos ⟨hk, hs⟩
  rw [e0]
  exact plL_all hok.1 hok.2.1 48 x hs'.1 (by omega) (by omega)
theorem lyParts_len (l m x y : Int) : (lyParts l m x y).length ≤ 48 := by
  unfold lyParts
  split
  · exact plL_len _ _ _ _ _
  · simp

/-! The reader of draws. -/
def RB (b : List Int) : Prop := b.length ≤ 2000 ∧ ∀ x ∈ b, 0 ≤ x ∧ x ≤ 255
theorem rd_byte {b : List Int} (hb : RB b) (i : Int) : 0 ≤ rd b i ∧ rd b i ≤ 255 := by
  unfold rd
  rw [List.getD_eq_getElem?_getD]
  cases e : b[i.toNat]? with
  | none => simp
  | some x => exact hb.2 x (List.mem_of_getElem? e)
theorem open_is (l : List Int) (hw : ∀ x ∈ l, (Lit.int .u8 x).wf = true) : ∃ b, spec_l10Open.f l = some (b, 0) ∧ RB b := by
  have h : ∀ x ∈ l, 0 ≤ x ∧ x ≤ 255 := fun x hx => bounds_u8 (hw x hx)
  unfold spec_l10Open.f
  by_cases hl : (l.length : Int) > 2000
  · rw [if_pos hl, if_pos (by omega)]
    exact ⟨_, rfl, by rw [List.length_take]; omega, fun x hx => h x (List.mem_of_mem_take hx)⟩
  · rw [if_neg hl]
    exact ⟨_, rfl, by omega, h⟩
theorem xor_nonneg (a b : Int) (ha0 : 0 ≤ a) (ha : a < 1152921504606846976) (hb0 : 0 ≤ b) (hb : b < 1152921504606846976) : 0 ≤ Go.bits .xor .i64 a b := by
  obtain ⟨m, rfl⟩ := Int.eq_ofNat_of_zero_le ha0
  obtain ⟨n, rfl⟩ := Int.eq_ofNat_of_zero_le hb0
  have hm : m < 2 ^ 60 := by omega
  have hn : n < 2 ^ 60 := by omega
  have hx : m ^^^ n < 2 ^ 60 := Nat.xor_lt_two_pow hm hn
  have hm' : m % 2 ^ IntKind.i64.bits = m := Nat.mod_eq_of_lt (show m < 2 ^ 64 by omega)
  have hn' : n % 2 ^ IntKind.i64.bits = n := Nat.mod_eq_of_lt (show n < 2 ^ 64 by omega)
  have e : Go.bits .xor .i64 (m : Int) (n : Int) = IntKind.i64.wrap ((m ^^^ n : Nat) : Int) := by
    simp only [bits, BitVec.ofInt_natCast, BitVec.toNat_xor, BitVec.toNat_ofNat, hm', hn']
  rw [e, IntKind.wrap_i64]
  omega
theorem pick_is {b : List Int} (hb : RB b) (p n : Int) (h0 : 0 ≤ p) (h1 : p ≤ 1099511627776) (hn1 : 1 ≤ n) : ∃ v, Ev (fun k => spec_l10Rd_pick.f k b p n) (v, p + 1) ∧ 0 ≤ v ∧ v < n := by
  have e1 : wrap64 (p + 1) = p + 1 := wid (by omega) (by omega)
  have e2 : wrap64 (p + 1 - 1) = p := by rw [show p + 1 - 1 = p by omega]; exact wid (by omega) (by omega)
  have hl := hb.1
  by_cases hz : (b.length : Int) = 0
  · refine ⟨0, Ev.end_ (fun k => ?_), by omega, by omega⟩
    unfold spec_l10Rd_pick.f
    rw [if_neg (by omega), e1]
    simp only [spec_l10Rd_pick.j0]
    rw [if_pos (by simpa using hz)]
  · by_cases hlt : p < (b.length : Int)
    · have hr := rd_byte hb p
      refine ⟨Int.tmod (rd b p) n, Ev.end_ (fun k => ?_), ?_, ?_⟩
      · unfold spec_l10Rd_pick.f
        rw [if_neg (by omega), e1]
        simp only [spec_l10Rd_pick.j0]
        rw [if_neg (by simpa using hz), e2, if_pos hlt, if_pos h0, if_neg (by omega), wid (by omega) (by omega)]
      · rw [Int.tmod_eq_emod_of_nonneg hr.1]; exact Int.emod_nonneg _ (by omega)
      · rw [Int.tmod_eq_emod_of_nonneg hr.1]; exact Int.emod_lt_of_pos _ (by omega)
    · have e3 : wrap64 (p * 7) = p * 7 := wid (by omega) (by omega)
      have e4 : wrap64 (p * 7 + 3) = p * 7 + 3 := wid (by omega) (by omega)
      have q0 : 0 ≤ p % (b.length : Int) := Int.emod_nonneg _ hz
      have q1 : p % (b.length : Int) < (b.length : Int) := Int.emod_lt_of_pos _ (by omega)
      have q2 : 0 ≤ (p * 7 + 3) % (b.length : Int) := Int.emod_nonneg _ hz
      have q3 : (p * 7 + 3) % (b.length : Int) < (b.length : Int) := Int.emod_lt_of_pos _ (by omega)
      have q4 : 0 ≤ p / (b.length : Int) := Int.ediv_nonneg h0 (by omega)
      have q5 : p / (b.length : Int) ≤ p := Int.ediv_le_self _ h0
      have r1 := rd_byte hb (p % (b.length : Int))
      have r2 := rd_byte hb ((p * 7 + 3) % (b.length : Int))
      obtain ⟨X, hX⟩ : ∃ X, X = rd b (p % (b.length : Int)) * 131 + rd b ((p * 7 + 3) % (b.length : Int)) * 1117 + p * 29 + p / (b.length : Int) * 53 := ⟨_, rfl⟩
      have x0 : 0 ≤ X := by omega
      have x1 : X < 1152921504606846976 := by omega
      have y := xor_nonneg X (X / 64) x0 x1 (by omega) (by omega)
      refine ⟨Int.tmod (Go.bits .xor .i64 X (X / 64)) n, Ev.end_ (fun k => ?_), ?_, ?_⟩
      · unfold spec_l10Rd_pick.f
        rw [if_neg (by omega), e1]
        simp only [spec_l10Rd_pick.j0]
        rw [if_neg (by simpa using hz), e2, if_neg hlt, if_neg hz, Int.tmod_eq_emod_of_nonneg h0, if_pos q0, if_pos q1, e3, e4, Int.tmod_eq_emod_of_nonneg (show 0 ≤ p * 7 + 3 by omega), if_pos q2, if_pos q3, if_neg (by omega), Int.tdiv_eq_ediv_of_nonneg h0,
          wid (x := rd b (p % (b.length : Int))) (by omega) (by omega), wid (x := rd b ((p * 7 + 3) % (b.length : Int))) (by omega) (by omega), wid (x := rd b (p % (b.length : Int)) * 131) (by omega) (by omega), wid (x := rd b ((p * 7 + 3) % (b.length : Int)) * 1117) (by omega) (by omega),
          wid (x := rd b (p % (b.length : Int)) * 131 + rd b ((p * 7 + 3) % (b.length : Int)) * 1117) (by omega) (by omega), wid (x := p * 29) (by omega) (by omega), wid (x := rd b (p % (b.length : Int)) * 131 + rd b ((p * 7 + 3) % (b.length : Int)) * 1117 + p * 29) (by omega) (by omega),
          wid (x := p / (b.length : Int)) (by omega) (by omega), wid (x := p / (b.length : Int) * 53) (by omega) (by omega), ← hX, wid (x := X) (by omega) (by omega), Int.tdiv_eq_ediv_of_nonneg x0, wid (x := X / 64) (by omega) (by omega)]
      · rw [Int.tmod_eq_emod_of_nonneg y]; exact Int.emod_nonneg _ (by omega)
      · rw [Int.tmod_eq_emod_of_nonneg y]; exact Int.emod_lt_of_pos _ (by omega)

/-! One of a list of numbers. -/
theorem rd_mem (l : List Int) (i : Int) (h0 : 0 ≤ i) (h1 : i < (l.length : Int)) : rd l i ∈ l := by
  unfold rd
  rw [List.getD_eq_getElem?_getD, List.getElem?_eq_getElem (by omega)]
  exact List.getElem_mem _
theorem num_is {b : List Int} (hb : RB b) (p : Int) (l : List Int) (h0 : 0 ≤ p) (h1 : p ≤ 1099511627776) (hn1 : 1 ≤ (l.length : Int)) : ∃ v, Ev (fun k => spec_l10Rd_num.f k b p l) (v, p + 1) ∧ v ∈ l := by
  obtain ⟨i, hi, i0, i1⟩ := pick_is hb p (l.length : Int) h0 h1 hn1
  refine ⟨rd l i, Ev.bind hi (Ev.all fun k => ?_), rd_mem l i i0 i1⟩
  rw [if_pos i0, if_pos i1]

/-! One of a list of strings. -/
theorem of_is {b : List Int} (hb : RB b) (p : Int) (l : List ByteArray) (h0 : 0 ≤ p) (h1 : p ≤ 1099511627776) (hn1 : 1 ≤ (l.length : Int)) : ∃ v, Ev (fun k => spec_l10Rd_of.f k b p l) (v, p + 1) ∧ v ∈ l := by
  obtain ⟨i, hi, i0, i1⟩ := pick_is hb p (l.length : Int) h0 h1 hn1
  refine ⟨rdOf ByteArray.empty l i, Ev.bind hi (Ev.all fun k => ?_), rdOf_mem l i i0 i1⟩
  rw [if_pos i0, if_pos i1]

/-! A file, drawn. -/
theorem l2Text_l {b : List Int} (hb : RB b) : ∀ (n : Nat) (s : ByteArray) (p : Int), n ≤ 1000 → s.size + n ≤ 1000 → 0 ≤ p → p + n ≤ 1000000000000 → ∃ t, Ev (fun k => spec_l2Text.l0 k s (n : Int) b p) (t, p + n) ∧ t.size = s.size + n := by
  intro n
  induction n with
  | zero =>
    intro s p hn hs h0 h1
    refine ⟨s, Ev.end_ (fun k => ?_), by omega⟩
    simp only [spec_l2Text.l0]
    rw [if_neg (by omega)]
    simp
  | succ n ih =>
    intro s p hn hs h0 h1
    obtain ⟨v, hv, vm⟩ := of_is hb p [(⟨#[97]⟩ : ByteArray), (⟨#[98]⟩ : ByteArray), (⟨#[99]⟩ : ByteArray), (⟨#[55]⟩ : ByteArray), (⟨#[46]⟩ : ByteArray), (⟨#[122]⟩ : ByteArray)] h0 (by omega) (by simp)
    have hv1 : v.size = 1 := by
      simp only [List.mem_cons, List.not_mem_nil, or_false] at vm
      rcases vm with rfl | rfl | rfl | rfl | rfl | rfl <;> rfl
    have hz : (s ++ v).size = s.size + 1 := by rw [B_size, B_app, List.length_append, ← B_size, ← B_size, hv1]
    obtain ⟨t, ht, tz⟩ := ih (s ++ v) (p + 1) (by omega) (by omega) (by omega) (by omega)
    refine ⟨t, ?_, by omega⟩
    rw [show p + ((n + 1 : Nat) : Int) = p + 1 + (n : Int) by omega]
    refine Ev.cut (f := fun k => (spec_l10Rd_of.f k b p [(⟨#[97]⟩ : ByteArray), (⟨#[98]⟩ : ByteArray), (⟨#[99]⟩ : ByteArray), (⟨#[55]⟩ : ByteArray), (⟨#[46]⟩ : ByteArray), (⟨#[122]⟩ : ByteArray)]).bind fun r => if s.size + r.1.size ≤ 9223372036854775807 then spec_l2Text.l0 k (s ++ r.1) (wrap64 (((n + 1 : Nat) : Int) - 1)) b r.2 else none) (Ev.bind hv ?_) (fun k => ?_)
    · simp only [if_pos (show s.size + v.size ≤ 9223372036854775807 by omega)]
      rw [show wrap64 (((n + 1 : Nat) : Int) - 1) = (n : Int) by rw [wid (by omega) (by omega)]; omega]
      exact ht
    · simp only [spec_l2Text.l0]
      rw [if_pos (by omega)]
theorem l2Text_is {b : List Int} (hb : RB b) (p m : Int) (h0 : 0 ≤ p) (h1 : p ≤ 100000000000) (m0 : 0 ≤ m) (m1 : m ≤ 100) : ∃ t q, Ev (fun k => spec_l2Text.f k b p m) (t, q) ∧ t.size ≤ 100 ∧ p ≤ q ∧ q ≤ p + 102 := by
  obtain ⟨i, hi, i0, i1⟩ := pick_is hb p (m + 1) h0 (by omega) (by omega)
  obtain ⟨t, ht, tz⟩ := l2Text_l hb i.toNat (⟨#[]⟩ : ByteArray) (p + 1) (by omega) (by show 0 + _ ≤ _; omega) (by omega) (by omega)
  rw [Int.toNat_of_nonneg i0] at ht
  refine ⟨t, p + 1 + i, ?_, by rw [tz]; show 0 + _ ≤ _; omega, by omega, by omega⟩
  unfold spec_l2Text.f
  rw [wid (x := m + 1) (by omega) (by omega)]
  exact Ev.bind hi ht
theorem l2Some_is {b : List Int} (hb : RB b) (p : Int) (h0 : 0 ≤ p) (h1 : p ≤ 10000000000) : ∃ s q, Ev (fun k => spec_l2Some.f k b p) (s, q) ∧ s.size ≤ 200 ∧ p ≤ q ∧ q ≤ p + 110 := by
  obtain ⟨v, hv, vm⟩ := num_is hb p [6, 12, 20, 30, 48] h0 (by omega) (by simp)
  have hv2 : 0 ≤ v ∧ v ≤ 48 := by simp at vm; omega
  obtain ⟨t, q, ht, tz, q0, q1⟩ := l2Text_is hb (p + 1) v (by omega) (by omega) hv2.1 (by omega)
  obtain ⟨u, hu, u0, u1⟩ := pick_is hb q 60 (by omega) (by omega) (by omega)
  by_cases c0 : u = 0
  · exact ⟨t ++ (⟨#[65]⟩ : ByteArray), q + 1, Ev.bind hv (Ev.bind ht (Ev.bind hu (Ev.all fun k => by rw [if_pos c0, if_pos (show t.size + 1 ≤ 9223372036854775807 by omega)]))), by rw [B_size, B_app, List.length_append, ← B_size, ← B_size]; show t.size + 1 ≤ _; omega, by omega, by omega⟩
  by_cases c1 : u = 1
  · exact ⟨t ++ (⟨#[32]⟩ : ByteArray), q + 1, Ev.bind hv (Ev.bind ht (Ev.bind hu (Ev.all fun k => by rw [if_neg c0, if_pos c1, if_pos (show t.size + 1 ≤ 9223372036854775807 by omega)]))), by rw [B_size, B_app, List.length_append, ← B_size, ← B_size]; show t.size + 1 ≤ _; omega, by omega, by omega⟩
  by_cases c2 : u = 2
  · refine ⟨mkB (padL (B t) 49), q + 1, Ev.bind hv (Ev.bind ht (Ev.bind hu ?_)), by rw [mkB_size, padL_length, ← B_size]; omega, by omega, by omega⟩
    simp only [if_neg c0, if_neg c1, if_pos c2]
    exact Ev.bind (l2Long_is t 49 (by omega) (by omega)) (Ev.now _)
  · exact ⟨t, q + 1, Ev.bind hv (Ev.bind ht (Ev.bind hu (Ev.all fun k => by rw [if_neg c0, if_neg c1, if_neg c2]))), by omega, by omega, by omega⟩

/-! A layout, drawn. -/
theorem l3Lay_is {b : List Int} (hb : RB b) (p : Int) (h0 : 0 ≤ p) (h1 : p ≤ 1000000000000) : ∃ x y, Ev (fun k => spec_l3Lay.f k b p) (x, y, p + 1 + 1) ∧ laOk x y = true := by
  obtain ⟨v, hv, vm⟩ := num_is hb p [1, 2, 3, 4, 5, 8] h0 (by omega) (by simp)
  obtain ⟨x, hx, x0, x1⟩ := pick_is hb (p + 1) 3 (by omega) (by omega) (by omega)
  have hv2 : 1 ≤ v ∧ v ≤ 8 := by simp at vm; omega
  refine ⟨v, 1 + x, Ev.bind hv (Ev.bind hx (Ev.all fun k => ?_)), decide_eq_true (by omega)⟩
  rw [wid (by omega) (by omega)]
theorem l3Lays_is {b : List Int} (hb : RB b) (p : Int) (h0 : 0 ≤ p) (h1 : p ≤ 1000000000000) : ∃ x y q, Ev (fun k => spec_l3Lays.f k b p) (x, y, q) ∧ p ≤ q ∧ q ≤ p + 4 ∧ y ≤ 4 := by
  obtain ⟨x, y, hx, hok⟩ := l3Lay_is hb p h0 h1
  have hok := of_decide_eq_true hok
  obtain ⟨v, hv, v0, v1⟩ := pick_is hb (p + 1 + 1) 36 (by omega) (by omega) (by omega)
  by_cases c0 : v = 0
  · obtain ⟨u, hu, um⟩ := num_is hb (p + 1 + 1 + 1) [0, -1, 9] (by omega) (by omega) (by simp)
    exact ⟨u, y, p + 1 + 1 + 1 + 1, Ev.bind hx (Ev.bind hv (by simp only [if_pos c0]; exact Ev.bind hu (Ev.now _))), by omega, by omega, by omega⟩
  by_cases c1 : v = 1
  · obtain ⟨u, hu, um⟩ := num_is hb (p + 1 + 1 + 1) [0, -1, 4] (by omega) (by omega) (by simp)
    have hu4 : u ≤ 4 := by simp at um; omega
    exact ⟨x, u, p + 1 + 1 + 1 + 1, Ev.bind hx (Ev.bind hv (by simp only [if_neg c0, if_pos c1]; exact Ev.bind hu (Ev.now _))), by omega, by omega, hu4⟩
  by_cases c2 : v = 2
  · exact ⟨0, 0, p + 1 + 1 + 1, Ev.bind hx (Ev.bind hv (by simp only [if_neg c0, if_neg c1, if_pos c2]; exact Ev.now _)), by omega, by omega, by omega⟩
  · exact ⟨x, y, p + 1 + 1 + 1, Ev.bind hx (Ev.bind hv (by simp only [if_neg c0, if_neg c1, if_neg c2]; exact Ev.now _)), by omega, by omega, by omega⟩

theorem DrawLayOf_is (l : List Int) (hw : ∀ x ∈ l, (Lit.int .u8 x).wf = true) : ∃ a b s, Ev (fun k => spec_DrawLayOf.f k l) (a, b, s) ∧ s.size ≤ 200 := by
  obtain ⟨r, hr, hb⟩ := open_is l hw
  obtain ⟨x, y, q, h1, q0, q1, _⟩ := l3Lays_is hb 0 (by omega) (by omega)
  obtain ⟨s, p, h2, hs, _⟩ := l2Some_is hb q (by omega) (by omega)
  unfold spec_DrawLayOf.f
  simp only [hr, Option.bind_some]
  exact ⟨x, y, s, Ev.bind h1 (Ev.bind h2 (Ev.now _)), hs⟩

/-! A file, a place and bytes, drawn. -/
theorem l2At_is {b : List Int} (hb : RB b) (p : Int) (s : ByteArray) (h0 : 0 ≤ p) (h1 : p ≤ 1000000000000) : ∃ x, Ev (fun k => spec_l2At.f k b p s) (x, p + 1 + 1 + 1) := by
  obtain ⟨u, hu, u0, u1⟩ := pick_is hb p 12 h0 (by omega) (by omega)
  obtain ⟨v, hv, v0, v1⟩ := pick_is hb (p + 1) 30 (by omega) (by omega) (by omega)
  obtain ⟨x, hx, xm⟩ := num_is hb (p + 1 + 1) [0, 1, 3, u, v, (s.size : Int), wrap64 ((s.size : Int) + 2), 47, 48, -1, 9223372036854775807] (by omega) (by omega) (by simp)
  exact ⟨x, Ev.bind hu (Ev.bind hv (Ev.bind hx (Ev.now _)))⟩
theorem l2Data_is {b : List Int} (hb : RB b) (p : Int) (h0 : 0 ≤ p) (h1 : p ≤ 10000000000) : ∃ d q, Ev (fun k => spec_l2Data.f k b p) (d, q) ∧ d.size ≤ 200 ∧ p ≤ q ∧ q ≤ p + 110 := by
  obtain ⟨u, hu, u0, u1⟩ := pick_is hb p 24 h0 (by omega) (by omega)
  by_cases c0 : u = 0
  · have hl := l2Long_is (⟨#[97]⟩ : ByteArray) 49 (by show 1 < _; omega) (by omega)
    obtain ⟨v, hv, vm⟩ := of_is hb (p + 1) [(⟨#[]⟩ : ByteArray), (⟨#[65]⟩ : ByteArray), (⟨#[97, 32, 98]⟩ : ByteArray), mkB (padL (B (⟨#[97]⟩ : ByteArray)) (49 : Int).toNat)] (by omega) (by omega) (by simp)
    have hz : v.size ≤ 200 := by
      simp only [List.mem_cons, List.not_mem_nil, or_false] at vm
      rcases vm with rfl | rfl | rfl | rfl
      · show 0 ≤ _; omega
      · show 1 ≤ _; omega
      · show 3 ≤ _; omega
      · rw [mkB_size, padL_length]
        show max 1 49 ≤ _
        omega
    exact ⟨v, p + 1 + 1, Ev.bind hu (by simp only [if_pos c0]; exact Ev.bind hl (Ev.bind hv (Ev.now _))), hz, by omega, by omega⟩
  · obtain ⟨v, hv, vm⟩ := of_is hb (p + 1) [(⟨#[120]⟩ : ByteArray), (⟨#[120, 121]⟩ : ByteArray), (⟨#[113, 57, 46]⟩ : ByteArray), (⟨#[48, 49, 50, 51, 52, 53, 54]⟩ : ByteArray), (⟨#[109]⟩ : ByteArray)] (by omega) (by omega) (by simp)
    have hz : v.size ≤ 7 := by
      simp only [List.mem_cons, List.not_mem_nil, or_false] at vm
      rcases vm with rfl | rfl | rfl | rfl | rfl
      · show 1 ≤ _; omega
      · show 2 ≤ _; omega
      · show 3 ≤ _; omega
      · show 7 ≤ _; omega
      · show 1 ≤ _; omega
    obtain ⟨t, q, ht, tz, q0, q1⟩ := l2Text_is hb (p + 1 + 1) 6 (by omega) (by omega) (by omega) (by omega)
    refine ⟨v ++ t, q, Ev.bind hu (by simp only [if_neg c0]; exact Ev.bind hv (Ev.bind ht (Ev.all fun k => by rw [if_pos (show v.size + t.size ≤ 9223372036854775807 by omega)]))), ?_, by omega, by omega⟩
    rw [B_size, B_app, List.length_append, ← B_size, ← B_size]
    omega

theorem DrawTextWrite_is (l : List Int) (hw : ∀ x ∈ l, (Lit.int .u8 x).wf = true) : ∃ s a d, Ev (fun k => spec_DrawTextWrite.f k l) (s, a, d) ∧ s.size ≤ 200 ∧ d.size ≤ 200 := by
  obtain ⟨r, hr, hb⟩ := open_is l hw
  obtain ⟨s, q, h1, hs, q0, q1⟩ := l2Some_is hb 0 (by omega) (by omega)
  obtain ⟨x, h2⟩ := l2At_is hb q s (by omega) (by omega)
  obtain ⟨d, p, h3, hd, p0, p1⟩ := l2Data_is hb (q + 1 + 1 + 1) (by omega) (by omega)
  unfold spec_DrawTextWrite.f
  simp only [hr, Option.bind_some]
  exact ⟨s, x, d, Ev.bind h1 (Ev.bind h2 (Ev.bind h3 (Ev.now _))), hs, hd⟩

theorem ext46 {X Y : List UInt8} (h : X.length = Y.length) (hg : ∀ p, p < Y.length → X.getD p 46 = Y.getD p 46) : X = Y := by
  apply List.ext_getElem h
  intro i h1 h2
  have := hg i h2
  rw [List.getD_eq_getElem?_getD, List.getD_eq_getElem?_getD, List.getElem?_eq_getElem h1, List.getElem?_eq_getElem h2] at this
  exact this
theorem onObj_elem {l m o : Int} {n j : Nat} (hl : 1 ≤ l) (hl8 : l ≤ 8) (hm : 1 ≤ m) (hm3 : m ≤ 3) (hn : n ≤ 48) (hj : j < (onObj l m o n).length) : (lAt l m (((onObj l m o n)[j] : Nat) : Int)).1 = o ∧ (lAt l m (((onObj l m o n)[j] : Nat) : Int)).2 = j ∧ (onObj l m o n)[j] < n := by
  have hmem : (onObj l m o n)[j] ∈ onObj l m o n := List.getElem_mem hj
  have hlt := onObj_lt hmem
  have ho : (lAt l m (((onObj l m o n)[j] : Nat) : Int)).1 = o := by
    have := (List.mem_filter.1 hmem).2
    exact of_decide_eq_true this
  have hb := lAt_bounds (l := l) (m := m) (p := (((onObj l m o n)[j] : Nat) : Int)) hl hl8 hm hm3 (by omega) (by omega)
  have h := obj_at (l := l) (m := m) hl hl8 hm hm3 hlt (by omega)
  rw [ho] at h
  obtain ⟨hk, he⟩ := List.getElem?_eq_some_iff.1 h
  have hpw : (onObj l m o n).Pairwise (· < ·) := List.Pairwise.filter _ List.pairwise_lt_range
  have : (lAt l m (((onObj l m o n)[j] : Nat) : Int)).2.toNat = j := by
    rcases Nat.lt_trichotomy (lAt l m (((onObj l m o n)[j] : Nat) : Int)).2.toNat j with h | h | h
    · have := List.pairwise_iff_getElem.1 hpw _ _ hk hj h
      omega
    · exact h
    · have := List.pairwise_iff_getElem.1 hpw _ _ hj hk h
      omega
  exact ⟨ho, by omega, hlt⟩
theorem cnt_mono' (l m o : Int) {a b : Nat} (h : a ≤ b) : (onObj l m o a).length ≤ (onObj l m o b).length := by
  obtain ⟨r, hr⟩ := onObj_add l m o a (b - a)
  rw [show a + (b - a) = b by omega] at hr
  rw [hr, List.length_append]
  omega
theorem cnt_run {l m : Int} (hl : 1 ≤ l) (hl8 : l ≤ 8) (hm : 1 ≤ m) (hm3 : m ≤ 3) {f e : Nat} (hfe : f < e) (he : e ≤ 48) (hrun : (e : Int) ≤ ((f : Int) / l + 1) * l) : ((onObj l m (lAt l m (f : Int)).1 e).length : Int) = (lAt l m (f : Int)).2 + ((e : Int) - (f : Int)) := by
  obtain ⟨c, rfl⟩ : ∃ c, e = c + 1 := ⟨e - 1, by omega⟩
  have r := (at_run (m := m) (g := (f : Int)) (q := (c : Int)) hl hl8 (by omega) (by omega) (by omega)).2.2.1
  have hc := obj_count (l := l) (m := m) (p := (c : Int)) hl hl8 hm hm3 (by omega) (by omega)
  have hb := lAt_bounds (l := l) (m := m) (p := (c : Int)) hl hl8 hm hm3 (by omega) (by omega)
  rw [r] at hc hb
  simp only [Int.toNat_natCast] at hc hb
  rw [onObj_succ, r, if_pos rfl, List.length_append, hc]
  simp only [List.length_singleton]
  omega
theorem wr_same {l m : Int} (hl : 1 ≤ l) (hl8 : l ≤ 8) (hm : 1 ≤ m) (hm3 : m ≤ 3) (X D : List UInt8) {f e : Nat} (hfe : f < e) (he : e ≤ 48) (hrun : (e : Int) ≤ ((f : Int) / l + 1) * l) (hD : D.length = e - f) (hn : f ≤ X.length) (hX : X.length ≤ 48) :
    wrL (objL l m X (lAt l m (f : Int)).1 X.length) (lAt l m (f : Int)).2.toNat D = objL l m (wrL X f D) (lAt l m (f : Int)).1 (wrL X f D).length := by
  have hlen : (wrL X f D).length = max X.length e := by rw [wrL_length]; omega
  have hcr := cnt_run hl hl8 hm hm3 hfe he hrun
  have hb := lAt_bounds (l := l) (m := m) (p := (f : Int)) hl hl8 hm hm3 (by omega) (by omega)
  have hcl : (onObj l m (lAt l m (f : Int)).1 (max X.length e)).length = max (onObj l m (lAt l m (f : Int)).1 X.length).length ((lAt l m (f : Int)).2.toNat + D.length) := by
    have h1 := cnt_mono' l m (lAt l m (f : Int)).1 (a := e) (b := max X.length e) (by omega)
    by_cases c : e ≤ X.length
    · rw [Nat.max_eq_left c] at h1 ⊢
      omega
    · have h2 := cnt_mono' l m (lAt l m (f : Int)).1 (a := X.length) (b := e) (by omega)
      rw [Nat.max_eq_right (by omega)] at h1 ⊢
      omega
  rw [hlen]
  refine ext46 (by rw [wrL_length, objL_len, objL_len, hcl]) (fun j hj => ?_)
  rw [objL_len] at hj
  obtain ⟨p1, p2, p3⟩ := onObj_elem (l := l) (m := m) (o := (lAt l m (f : Int)).1) hl hl8 hm hm3 (by omega) hj
  have eR : (objL l m (wrL X f D) (lAt l m (f : Int)).1 (max X.length e)).getD j 46 = (wrL X f D).getD ((onObj l m (lAt l m (f : Int)).1 (max X.length e))[j]) 46 := by
    unfold objL
    rw [List.getD_eq_getElem?_getD, List.getElem?_map, List.getElem?_eq_getElem hj]
    rfl
  rw [eR]
  generalize hp : (onObj l m (lAt l m (f : Int)).1 (max X.length e))[j] = p at p1 p2 p3
  rw [wrL_getD, wrL_getD]
  by_cases c : f ≤ p ∧ p < f + D.length
  · have r := (at_run (m := m) (g := (f : Int)) (q := (p : Int)) hl hl8 (by omega) (by omega) (by omega)).2.2.1
    rw [r] at p2
    simp only at p2
    rw [if_pos c, if_pos (by omega), show j - (lAt l m (f : Int)).2.toNat = p - f by omega]
  · have hnj : ¬ ((lAt l m (f : Int)).2.toNat ≤ j ∧ j < (lAt l m (f : Int)).2.toNat + D.length) := by
      intro hh
      have r := (at_run (m := m) (g := (f : Int)) (q := ((f + (j - (lAt l m (f : Int)).2.toNat) : Nat) : Int)) hl hl8 (by omega) (by omega) (by omega)).2.2.1
      have ho := obj_at (l := l) (m := m) (p := f + (j - (lAt l m (f : Int)).2.toNat)) (n := max X.length e) hl hl8 hm hm3 (by omega) (by omega)
      rw [r] at ho
      simp only at ho
      rw [show ((lAt l m (f : Int)).2 + (((f + (j - (lAt l m (f : Int)).2.toNat) : Nat) : Int) - (f : Int))).toNat = j by omega, List.getElem?_eq_getElem hj, hp] at ho
      have := Option.some.inj ho
      omega
    rw [if_neg c, if_neg hnj]
    have hpn : p < X.length := by omega
    have ho := obj_at (l := l) (m := m) (p := p) (n := X.length) hl hl8 hm hm3 hpn (by omega)
    rw [p1, show (lAt l m (p : Int)).2.toNat = j by omega] at ho
    unfold objL
    rw [List.getD_eq_getElem?_getD, List.getElem?_map, ho]
    rfl
theorem wr_other {l m : Int} (hl : 1 ≤ l) (hl8 : l ≤ 8) (X D : List UInt8) {f e : Nat} (hfe : f < e) (hrun : (e : Int) ≤ ((f : Int) / l + 1) * l) (hD : D.length = e - f) (hn : f ≤ X.length) (o : Int) (ho : o ≠ (lAt l m (f : Int)).1) :
    objL l m (wrL X f D) o (wrL X f D).length = objL l m X o X.length := by
  have hlen : (wrL X f D).length = max X.length e := by rw [wrL_length]; omega
  have hon : ∀ c, X.length + c ≤ e → onObj l m o (X.length + c) = onObj l m o X.length := by
    intro c
    induction c with
    | zero => intro _; rfl
    | succ c ih =>
      intro h
      have r := (at_run (m := m) (g := (f : Int)) (q := ((X.length + c : Nat) : Int)) hl hl8 (by omega) (by omega) (by omega)).2.2.1
      rw [← Nat.add_assoc, onObj_succ, r, if_neg (fun hh => ho hh.symm), List.append_nil, ih (by omega)]
  have he : onObj l m o (max X.length e) = onObj l m o X.length := by
    by_cases c : e ≤ X.length
    · rw [Nat.max_eq_left c]
    · have := hon (e - X.length) (by omega)
      rw [show X.length + (e - X.length) = max X.length e by omega] at this
      exact this
  rw [hlen]
  unfold objL
  rw [he]
  refine List.map_congr_left (fun p hp => ?_)
  rw [wrL_getD, if_neg]
  intro hh
  have r := (at_run (m := m) (g := (f : Int)) (q := (p : Int)) hl hl8 (by omega) (by omega) (by omega)).2.2.1
  have h1 := of_decide_eq_true (List.mem_filter.1 hp).2
  rw [r] at h1
  exact ho h1.symm
theorem wr_lyOf {l m : Int} (hk : laOk l m = true) (X D : List UInt8) (hXo : tOk X = true) (hDo : tOk D = true) {f e : Nat} (hfe : f < e) (he : e ≤ 48) (hrun : (e : Int) ≤ ((f : Int) / l + 1) * l) (hD : D.length = e - f) (hn : f ≤ X.length) :
    (lyOf l m (mkB X)).set (lAt l m (f : Int)).1.toNat (mkB (wrL (B ((lyOf l m (mkB X)).getD (lAt l m (f : Int)).1.toNat ByteArray.empty)) (lAt l m (f : Int)).2.toNat D)) = lyOf l m (mkB (wrL X f D)) := by
  have hok := of_decide_eq_true hk
  have hXl := tOk_len hXo
  have hX'o : tOk (wrL X f D) = true := wrL_tOk hXo hDo (by omega)
  obtain ⟨a1, a2⟩ := lyOf_objs hk (mkB X) (by rw [B_mkB]; exact hXo)
  obtain ⟨b1, b2⟩ := lyOf_objs hk (mkB (wrL X f D)) (by rw [B_mkB]; exact hX'o)
  rw [B_mkB] at a2 b2
  have hb := lAt_bounds (l := l) (m := m) (p := (f : Int)) hok.1 hok.2.1 hok.2.2.1 hok.2.2.2 (by omega) (by omega)
  apply List.ext_getElem (by rw [List.length_set]; omega)
  intro o h1 h2
  have hom : (o : Int) < m := by omega
  have hB : B (lyOf l m (mkB (wrL X f D)))[o] = objL l m (wrL X f D) (o : Int) (wrL X f D).length := by
    have := b2 o hom
    rw [List.getD_eq_getElem?_getD, List.getElem?_eq_getElem h2] at this
    exact this
  refine B_inj ?_
  rw [hB]
  by_cases c : o = (lAt l m (f : Int)).1.toNat
  · subst c
    rw [List.getElem_set_self, B_mkB, a2 _ (by omega), Int.toNat_of_nonneg hb.1]
    exact wr_same hok.1 hok.2.1 hok.2.2.1 hok.2.2.2 X D hfe he hrun hD hn hXl
  · rw [List.getElem_set_ne (Ne.symm c)]
    have h3 : o < (lyOf l m (mkB X)).length := by omega
    have := a2 o hom
    rw [List.getD_eq_getElem?_getD, List.getElem?_eq_getElem h3] at this
    have h4 : B (lyOf l m (mkB X))[o] = objL l m X (o : Int) X.length := this
    rw [h4]
    exact (wr_other hok.1 hok.2.1 X D hfe hrun hD hn (o : Int) (by omega)).symm
theorem write_parts {l m : Int} (hk : laOk l m = true) (a : Int) (d : ByteArray) (x8 : ByteArray) (LG : List UInt8) (hLG : tOk LG = true) (ha0 : 0 ≤ a) (hal : a ≤ (LG.length : Int)) (hdo : tOk (B d) = true) (had : a + (B d).length ≤ 48) (hs : spOk a (a + (d.size : Int)) = true) (hx8 : B x8 = wrL LG a.toNat (B d)) :
    ∀ (c i : Nat), i + c = (lyParts l m a (a + (d.size : Int))).length → Ev (fun k => laws_FnLayWrite.l0 k a d x8 (lyOf l m (mkB (wrL LG a.toNat ((B d).take (fsn l (a + (d.size : Int)) i a - a).toNat)))) (lyParts l m a (a + (d.size : Int))) (i : Int) l m) true := by
  have hok := of_decide_eq_true hk
  have hpl := lyParts_len l m a (a + (d.size : Int))
  have hds : d.size = (B d).length := B_size d
  have hLl := tOk_len hLG
  have htk : ∀ n, tOk ((B d).take n) = true := fun n => by
    obtain ⟨h1, h2⟩ := tOk_iff.1 hdo
    exact tOk_iff.2 ⟨fun x hx => h1 x (List.mem_of_mem_take hx), by rw [List.length_take]; omega⟩
  intro c
  induction c with
  | zero =>
    intro i hi
    have hend := part_end (m := m) hk hs
    rw [show i = (lyParts l m a (a + (d.size : Int))).length by omega, hend, show (a + (d.size : Int) - a).toNat = (B d).length by omega, List.take_length]
    have hXo : tOk (wrL LG a.toNat (B d)) = true := wrL_tOk hLG hdo (by omega)
    have hsm := lyOf_small l m (mkB (wrL LG a.toNat (B d)))
    have hXl := tOk_len hXo
    obtain ⟨a1, a2⟩ := lyOf_objs hk (mkB (wrL LG a.toNat (B d))) (by rw [B_mkB]; exact hXo)
    have h := impl_LayText_is l m (lyOf l m (mkB (wrL LG a.toNat (B d)))) (by omega) (fun s hs => by
      obtain ⟨o, ho, rfl⟩ := List.mem_iff_getElem.1 hs
      have := a2 o (by omega)
      rw [List.getD_eq_getElem?_getD, List.getElem?_eq_getElem ho] at this
      have h4 : B (lyOf l m (mkB (wrL LG a.toNat (B d))))[o] = objL l m (B (mkB (wrL LG a.toNat (B d)))) (o : Int) (B (mkB (wrL LG a.toNat (B d)))).length := this
      rw [B_size, h4, B_mkB]
      have := tOk_len (objL_tOk (l := l) (m := m) (o := (o : Int)) hXo)
      omega)
    rw [lyText_lyOf hk _ (by rw [B_mkB]; exact hXo), B_mkB] at h
    refine Ev.cut (f := fun k => (impl_LayText.f k l m (lyOf l m (mkB (wrL LG a.toNat (B d))))).bind fun bt490 => (if bt490.2 = true then (some (bt490.1.toList == x8.toList)) else (some false))) (Ev.bind h (Ev.all fun k => ?_)) (fun k => ?_)
    · rw [if_pos rfl, B_toList, B_toList, B_mkB, hx8, beq_self_eq_true]
    · simp only [laws_FnLayWrite.l0]
      rw [if_neg (by omega)]
  | succ c ih =>
    intro i hi
    obtain ⟨f, e, hf, he, hLi, h1, h2, h3, h4, h5⟩ := part_at (m := m) hk hs i (by omega)
    have hnext := ih (i + 1) (by omega)
    rw [← he] at hnext
    rw [← hf]
    have hrd : rd_T68 (lyParts l m a (a + (d.size : Int))) (i : Int) = pc l m f e := hLi
    have hb := lAt_bounds (l := l) (m := m) (p := f) hok.1 hok.2.1 hok.2.2.1 hok.2.2.2 (by omega) (by omega)
    obtain ⟨F, hF⟩ : ∃ F : Nat, f = (F : Int) := ⟨f.toNat, by omega⟩
    obtain ⟨E, hE⟩ : ∃ E : Nat, e = (E : Int) := ⟨e.toNat, by omega⟩
    obtain ⟨A, hA⟩ : ∃ A : Nat, a = (A : Int) := ⟨a.toNat, by omega⟩
    have hXo : tOk (wrL LG a.toNat ((B d).take (f - a).toNat)) = true := wrL_tOk hLG (htk _) (by rw [List.length_take]; omega)
    have hXl : (wrL LG a.toNat ((B d).take (f - a).toNat)).length = max LG.length f.toNat := by rw [wrL_length, List.length_take]; omega
    have hD2 : ((B d).take (e - a).toNat).drop (f - a).toNat = B (d.extract (f - a).toNat (e - a).toNat) := (B_ext _ _ _).symm
    have hD2l : (B (d.extract (f - a).toNat (e - a).toNat)).length = (e - f).toNat := by rw [← hD2, List.length_drop, List.length_take]; omega
    have hD2o : tOk (B (d.extract (f - a).toNat (e - a).toNat)) = true := by
      obtain ⟨g1, g2⟩ := tOk_iff.1 hdo
      refine tOk_iff.2 ⟨fun x hx => g1 x ?_, by omega⟩
      rw [← hD2] at hx
      exact List.mem_of_mem_take (List.mem_of_mem_drop hx)
    have hXX : wrL (wrL LG a.toNat ((B d).take (f - a).toNat)) f.toNat (B (d.extract (f - a).toNat (e - a).toNat)) = wrL LG a.toNat ((B d).take (e - a).toNat) := by
      have hsp := wrL_split LG a.toNat ((B d).take (f - a).toNat) (B (d.extract (f - a).toNat (e - a).toNat))
      rw [List.length_take, show a.toNat + min (f - a).toNat (B d).length = f.toNat by omega] at hsp
      rw [hsp, ← hD2]
      congr 1
      have : (B d).take (f - a).toNat = ((B d).take (e - a).toNat).take (f - a).toNat := by rw [List.take_take, Nat.min_eq_left (by omega)]
      rw [this, List.take_append_drop]
    have hset := wr_lyOf (f := f.toNat) (e := e.toNat) hk _ (B (d.extract (f - a).toNat (e - a).toNat)) hXo hD2o (by omega) (by omega) (by rw [Int.toNat_of_nonneg (by omega), Int.toNat_of_nonneg (by omega)]; exact h4) (by omega) (by rw [hXl]; omega)
    rw [hXX, Int.toNat_of_nonneg (show 0 ≤ f by omega)] at hset
    obtain ⟨a1, a2⟩ := lyOf_objs hk (mkB (wrL LG a.toNat ((B d).take (f - a).toNat))) (by rw [B_mkB]; exact hXo)
    have hobj := a2 (lAt l m f).1.toNat (by omega)
    rw [B_mkB] at hobj
    have hoo : tOk (B ((lyOf l m (mkB (wrL LG a.toNat ((B d).take (f - a).toNat)))).getD (lAt l m f).1.toNat ByteArray.empty)) = true := by rw [hobj]; exact objL_tOk hXo
    generalize lyOf l m (mkB (wrL LG a.toNat ((B d).take (f - a).toNat))) = OB at hset a1 hoo
    rw [← hset] at hnext
    have hool := tOk_len hoo
    have hexs : (d.extract (f - a).toNat (e - a).toNat).size ≤ 48 := by rw [B_size]; omega
    have hW := impl_TextWrite_is (OB.getD (lAt l m f).1.toNat ByteArray.empty) (lAt l m f).2 (d.extract (f - a).toNat (e - a).toNat) (by rw [B_size]; omega) (by omega)
    rw [tWrite_mk hoo hb.2.2.1 (by omega) (by intro hh; rw [hh] at hD2l; simp at hD2l; omega) hD2o (by omega)] at hW
    have p0 : (pc l m f e).f0 = (lAt l m f).1 := rfl
    have p1 : (pc l m f e).f1.f0 = (lAt l m f).2 := rfl
    have p2 : (pc l m f e).f1.f1 = (lAt l m f).2 + (e - f) := rfl
    have p3 : (pc l m f e).f2 = f := rfl
    have w1 : wrap64 (f - a) = f - a := wid (by omega) (by omega)
    have w2 : wrap64 (wrap64 (f - a + ((lAt l m f).2 + (e - f))) - (lAt l m f).2) = e - a := by rw [wid (x := f - a + ((lAt l m f).2 + (e - f))) (by omega) (by omega), wid (by omega) (by omega)]; omega
    refine Ev.cut (f := fun k => (impl_TextWrite.f k (OB.getD (lAt l m f).1.toNat ByteArray.empty) (lAt l m f).2 (d.extract (f - a).toNat (e - a).toNat)).bind fun bt487 => (laws_FnLayWrite.l0 k a d x8 (OB.set (lAt l m f).1.toNat bt487.1) (lyParts l m a (a + (d.size : Int))) ((i + 1 : Nat) : Int) l m)) (Ev.bind hW hnext) (fun k => ?_)
    simp only [laws_FnLayWrite.l0, hrd, p0, p1, p2, p3, w1, w2]
    rw [if_pos (by omega), if_pos (by omega), if_pos (by omega), if_pos (by omega), if_pos (by omega), if_pos (by omega), if_pos (by omega), wsucc i (by omega)]
    rfl
theorem wrL_none {L : List UInt8} {a : Nat} (h : a ≤ L.length) : wrL L a [] = L := by
  refine ext46 (by rw [wrL_length]; simp; omega) (fun p hp => ?_)
  rw [wrL_getD, if_neg (by simp)]
theorem wrL_pad (L D : List UInt8) (a : Nat) (h : L.length < a) (hD : 0 < D.length) : wrL ((padL L a).take a) a D = wrL L a D := by
  have hlp : ((padL L a).take a).length = a := by
    have := padL_get L a (a - 1) (by omega)
    have := (List.getElem?_eq_some_iff.1 this).1
    rw [List.length_take]
    omega
  refine ext46 (by rw [wrL_length, wrL_length, hlp]; omega) (fun p hp => ?_)
  rw [wrL_length] at hp
  rw [wrL_getD, wrL_getD]
  by_cases c : a ≤ p ∧ p < a + D.length
  · rw [if_pos c, if_pos c]
  · rw [if_neg c, if_neg c, List.getD_eq_getElem?_getD, List.getElem?_take, if_pos (by omega), padL_get L a p (by omega)]
    rfl

theorem FnLayWrite (l0 : List Int) (hm0 : l0.length ≤ maxLen) (hw0 : ∀ x ∈ l0, (Lit.int .u8 x).wf = true) : ∃ k, laws_FnLayWrite.f k l0 = some true := by
  have hw := hw0
  by_cases h : (l0.length : Int) > 1048576
  · exact ⟨0, by unfold laws_FnLayWrite.f; rw [if_pos h]⟩
  refine Ev.rounds (r := true) (g := fun k => laws_FnLayWrite.f k l0) ?_
  unfold laws_FnLayWrite.f
  simp only [if_neg h]
  obtain ⟨s, a, d, hd, hs2, hd2⟩ := DrawTextWrite_is l0 hw
  obtain ⟨l, m, s', hd', _⟩ := DrawLayOf_is l0 hw
  have h1 := impl_TextWrite_is s a d (by omega) (by omega)
  have h2 := spec_TextWrite_is s a d (by omega) (by omega)
  refine Ev.bind hd (Ev.bind hd' (Ev.bind h1 (Ev.bind h2 ?_)))
  simp only [if_true, bne_self_eq_false, Bool.false_eq_true, if_false]
  have hbad : ∀ z, Ev (fun k => laws_FnLayWrite.j0 k s a d z (tWrite (B s) a (B d)).2 z (tWrite (B s) a (B d)).2 true l m) true := fun z => Ev.end_ (fun k => by simp only [laws_FnLayWrite.j0, if_true, beq_self_eq_true])
  cases hq : (tWrite (B s) a (B d)).2 with
  | false =>
    rw [hq] at hbad
    simp only [Bool.false_eq_true, if_false]
    exact hbad _
  | true =>
    rw [hq] at hbad
    simp only [if_true, spec_LayOk_is, Option.bind_some]
    cases hk : laOk l m with
    | false => exact hbad _
    | true =>
      obtain ⟨k1, k2, k3, k4, k5, k6, k7⟩ := tWrite_true hq
      have hpos : 0 < (B d).length := List.length_pos_iff.2 k4
      have hds : d.size = (B d).length := B_size d
      have hsl := tOk_len k1
      have hsp : spOk a (a + (d.size : Int)) = true := decide_eq_true ⟨k2, by omega, by omega⟩
      rw [k7]
      refine Ev.step (fun k => by simp only [laws_FnLayWrite.j0, Bool.not_true, Bool.false_eq_true, if_false]; rfl) ?_
      have hj : ∀ LG : ByteArray, tOk (B LG) = true → a ≤ ((B LG).length : Int) → wrL (B LG) a.toNat (B d) = wrL (B s) a.toNat (B d) → Ev (fun k => laws_FnLayWrite.j1 k a d (mkB (wrL (B s) a.toNat (B d))) LG l m) true := by
        intro LG hLo hLa hLe
        have hLl := tOk_len hLo
        have hof := impl_LayOf_is l m LG (by rw [B_size]; omega)
        have hpt := impl_LayParts_is l m a (a + (d.size : Int))
        have hwp := write_parts hk a d (mkB (wrL (B s) a.toNat (B d))) (B LG) hLo k2 hLa k5 k6 hsp (by rw [B_mkB, hLe]) (lyParts l m a (a + (d.size : Int))).length 0 (by omega)
        have e0 : (B d).take (fsn l (a + (d.size : Int)) 0 a - a).toNat = [] := by
          show (B d).take (a - a).toNat = []
          rw [Int.sub_self]
          rfl
        rw [e0, wrL_none (by omega), mkB_B] at hwp
        refine Ev.step (fun k => by simp only [laws_FnLayWrite.j1]; rfl) ?_
        refine Ev.bind hof ?_
        rw [wid (x := a + (d.size : Int)) (by omega) (by omega)]
        exact Ev.bind hpt hwp
      by_cases hc : (s.size : Int) < a
      · simp only [if_pos hc]
        have hC := impl_TextCut_is s a (by omega)
        have eC : tCut (B s) a = ((padL (B s) a.toNat).take a.toNat, true) := by
          unfold tCut
          rw [if_pos k1, if_pos ⟨k2, k3⟩]
        rw [eC] at hC
        refine Ev.bind hC ?_
        rw [B_size] at hc
        have hlp : ((padL (B s) a.toNat).take a.toNat).length = a.toNat := by
          have := padL_get (B s) a.toNat (a.toNat - 1) (by omega)
          have := (List.getElem?_eq_some_iff.1 this).1
          rw [List.length_take]
          omega
        refine hj _ ?_ ?_ ?_
        · rw [B_mkB]; exact cut_tOk k1 (by omega)
        · rw [B_mkB, hlp]; omega
        · rw [B_mkB]; exact wrL_pad (B s) (B d) a.toNat (by omega) hpos
      · simp only [if_neg hc]
        rw [B_size] at hc
        exact hj s k1 (by omega) rfl

end Go.Proofs.Ytfomnpbhpncpaaa.Pure
