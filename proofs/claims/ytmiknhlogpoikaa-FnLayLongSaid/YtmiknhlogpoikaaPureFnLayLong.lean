/- The law FnLayLong over numbers and lists, as the program's text computes it: it answers true. Conditions: the arguments are of their kinds, lengths fit. -/
import Derived.Test.YtmiknhlogpoikaaPFnLayLongx4
import Derived.OpenShut
import Derived.Laws.Strings
namespace Go.Proofs.Ytmiknhlogpoikaa.Pure
open Go.RowKit Go.Proofs.Ytmiknhlogpoikaa.PFnLayLong Go.Proofs.YtmiknhlogpoikaaW.PrintWords Go.Proofs.YtmiknhlogpoikaaW.PrintLast
set_option linter.unusedVariables false
set_option linter.unusedSimpArgs false

/-! Words for the pure side: strings as lists of bytes, counters as natural numbers, what is answered from some round on. -/
def B (s : ByteArray) : List UInt8 := s.data.toList
theorem B_size (s : ByteArray) : s.size = (B s).length := (Array.length_toList).symm
theorem B_toList (s : ByteArray) : s.toList = B s := Go.ByteArray.toList_eq s
theorem B_inj {s t : ByteArray} (h : B s = B t) : s = t := by
  cases s; cases t
  simp only [B] at h
  congr 1
  exact Array.ext' h
theorem B_app (s t : ByteArray) : B (s ++ t) = B s ++ B t := by simp [B, ByteArray.data_append]
theorem app_size (s t : ByteArray) : (s ++ t).size = s.size + t.size := by rw [B_size, B_app, List.length_append, ← B_size, ← B_size]
theorem B_ext (s : ByteArray) (i j : Nat) : B (s.extract i j) = ((B s).take j).drop i := by
  simp [B, ByteArray.data_extract, List.extract_eq_take_drop, List.drop_take]
theorem B_nil : B (⟨#[]⟩ : ByteArray) = [] := rfl
theorem bt_B (s : ByteArray) (i : Nat) (h : i < (B s).length) : bt s (i : Int) = (((B s)[i]'h).toNat : Int) := by
  have h' : (i : Int).toNat < s.size := by rw [B_size]; simpa using h
  unfold bt
  rw [dif_pos h']
  rfl
theorem wsucc (i : Nat) (h : i < 4611686018427387904) : wrap64 ((i : Int) + 1) = ((i + 1 : Nat) : Int) := by unfold wrap64; omega
theorem wpred (i : Nat) (h : i < 4611686018427387904) (h0 : 0 < i) : wrap64 ((i : Int) - 1) = ((i - 1 : Nat) : Int) := by unfold wrap64; omega
theorem wid {x : Int} (h0 : -9223372036854775808 ≤ x) (h1 : x ≤ 9223372036854775807) : wrap64 x = x := by unfold wrap64; omega
theorem Ev.cut {α : Type} {g f : Nat → Option α} {r : α} (k : Ev f r) (h : ∀ k, g (k + 1) = f k) : Ev g r := Ev.step h k
theorem Ev.end_ {α : Type} {g : Nat → Option α} {r : α} (h : ∀ k, g (k + 1) = some r) : Ev g r := Ev.step h (Ev.now r)
theorem Ev.all {α : Type} {g : Nat → Option α} {r : α} (h : ∀ k, g k = some r) : Ev g r := ⟨0, fun k _ => h k⟩
theorem Ev.uniq {α : Type} {g : Nat → Option α} {r q : α} (h : Ev g r) (h' : Ev g q) : r = q := by
  obtain ⟨K, h⟩ := h
  obtain ⟨K', h'⟩ := h'
  have h1 := h (max K K') (by omega)
  rw [h' (max K K') (by omega)] at h1
  exact (Option.some.inj h1).symm
theorem dec_eq {p q : Prop} [Decidable p] [Decidable q] (h : p ↔ q) : (some (decide p) : Option Bool) = some (decide q) := by rw [decide_eq_decide.2 h]
theorem dec_false {q : Prop} [Decidable q] (h : ¬ q) : (some false : Option Bool) = some (decide q) := by rw [decide_eq_false h]
theorem dec_true {q : Prop} [Decidable q] (h : q) : (some true : Option Bool) = some (decide q) := by rw [decide_eq_true h]

/-! Layouts, valid. -/
def laOk (a b : Int) : Bool := decide (1 ≤ a ∧ a ≤ 8 ∧ 1 ≤ b ∧ b ≤ 3)
theorem spec_LayOk_is (a b : Int) : spec_LayOk.f a b = some (laOk a b) := by
  unfold spec_LayOk.f laOk
  repeat' split
  all_goals first | exact dec_eq (by omega) | exact dec_false (by omega)
theorem impl_LayOk_is (a b : Int) : impl_LayOk.f a b = some (laOk a b) := by
  unfold impl_LayOk.f laOk
  repeat' split
  all_goals first | exact dec_eq (by omega) | exact dec_false (by omega)

/-! Where a place lies. -/
def lAt (l m p : Int) : Int × Int := (p / l % m, p / l / m * l + p % l)
theorem lAt_bounds {l m p : Int} (hl : 1 ≤ l) (hl8 : l ≤ 8) (hm : 1 ≤ m) (hm3 : m ≤ 3) (h0 : 0 ≤ p) (h1 : p < 100) : 0 ≤ (lAt l m p).1 ∧ (lAt l m p).1 < m ∧ 0 ≤ (lAt l m p).2 ∧ (lAt l m p).2 ≤ p := by
  have hq0 : 0 ≤ p / l := Int.ediv_nonneg h0 (by omega)
  have e1 : p / l * l + p % l = p := by rw [Int.mul_comm]; exact Int.mul_ediv_add_emod p l
  have r0 : 0 ≤ p % l := Int.emod_nonneg _ (by omega)
  have hq2 : 0 ≤ p / l / m := Int.ediv_nonneg hq0 (by omega)
  have hq3 : p / l / m ≤ p / l := Int.ediv_le_self _ hq0
  refine ⟨Int.emod_nonneg _ (by omega), Int.emod_lt_of_pos _ (by omega), ?_, ?_⟩
  · exact Int.add_nonneg (Int.mul_nonneg hq2 (by omega)) r0
  · have := Int.mul_le_mul_of_nonneg_right hq3 (show 0 ≤ l by omega)
    show p / l / m * l + p % l ≤ p
    omega
theorem lAt_words {l m p : Int} (hl : 1 ≤ l) (hl8 : l ≤ 8) (hm : 1 ≤ m) (hm3 : m ≤ 3) (h0 : 0 ≤ p) (h1 : p < 100) :
    Int.tmod (wrap64 (Int.tdiv p l)) m = (lAt l m p).1 ∧ wrap64 ((wrap64 ((wrap64 (Int.tdiv (wrap64 (Int.tdiv p l)) m)) * l)) + (Int.tmod p l)) = (lAt l m p).2 := by
  have hq0 : 0 ≤ p / l := Int.ediv_nonneg h0 (by omega)
  have hqp : p / l ≤ p := Int.ediv_le_self _ h0
  have hq2 : 0 ≤ p / l / m := Int.ediv_nonneg hq0 (by omega)
  have hq3 : p / l / m ≤ p / l := Int.ediv_le_self _ hq0
  have r0 : 0 ≤ p % l := Int.emod_nonneg _ (by omega)
  have r1 : p % l < l := Int.emod_lt_of_pos _ (by omega)
  have m0 : 0 ≤ p / l / m * l := Int.mul_nonneg hq2 (by omega)
  have m1 : p / l / m * l ≤ 100 * 8 := Int.mul_le_mul (by omega) hl8 (by omega) (by omega)
  rw [Int.tdiv_eq_ediv_of_nonneg h0, wid (x := p / l) (by omega) (by omega), Int.tmod_eq_emod_of_nonneg hq0, Int.tdiv_eq_ediv_of_nonneg hq0, wid (x := p / l / m) (by omega) (by omega), wid (x := p / l / m * l) (by omega) (by omega), Int.tmod_eq_emod_of_nonneg h0, wid (by omega) (by omega)]
  exact ⟨rfl, rfl⟩
def lyAt (l m p : Int) : Int × Int := if laOk l m = true ∧ 0 ≤ p ∧ p < 48 then lAt l m p else (-1, -1)
/-! Which place lies there. -/
def lBack (l m o a : Int) : Int := (a / l * m + o) * l + a % l
theorem lBack_bounds {l m o a : Int} (hl : 1 ≤ l) (hl8 : l ≤ 8) (hm : 1 ≤ m) (hm3 : m ≤ 3) (ho : 0 ≤ o) (ho3 : o < 3) (h0 : 0 ≤ a) (h1 : a < 100) : 0 ≤ lBack l m o a ∧ lBack l m o a ≤ 5000 := by
  have hq0 : 0 ≤ a / l := Int.ediv_nonneg h0 (by omega)
  have hqa : a / l ≤ a := Int.ediv_le_self _ h0
  have r0 : 0 ≤ a % l := Int.emod_nonneg _ (by omega)
  have r1 : a % l < l := Int.emod_lt_of_pos _ (by omega)
  have m0 : 0 ≤ a / l * m := Int.mul_nonneg hq0 (by omega)
  have m1 : a / l * m ≤ 100 * 3 := Int.mul_le_mul (by omega) hm3 (by omega) (by omega)
  have p0 : 0 ≤ (a / l * m + o) * l := Int.mul_nonneg (by omega) (by omega)
  have p1 : (a / l * m + o) * l ≤ 303 * 8 := Int.mul_le_mul (by omega) hl8 (by omega) (by omega)
  unfold lBack
  omega
theorem lBack_words {l m o a : Int} (hl : 1 ≤ l) (hl8 : l ≤ 8) (hm : 1 ≤ m) (hm3 : m ≤ 3) (ho : 0 ≤ o) (ho3 : o < 3) (h0 : 0 ≤ a) (h1 : a < 100) :
    wrap64 ((wrap64 ((wrap64 ((wrap64 ((wrap64 (Int.tdiv a l)) * m)) + o)) * l)) + (Int.tmod a l)) = lBack l m o a := by
  have hq0 : 0 ≤ a / l := Int.ediv_nonneg h0 (by omega)
  have hqa : a / l ≤ a := Int.ediv_le_self _ h0
  have r0 : 0 ≤ a % l := Int.emod_nonneg _ (by omega)
  have r1 : a % l < l := Int.emod_lt_of_pos _ (by omega)
  have m0 : 0 ≤ a / l * m := Int.mul_nonneg hq0 (by omega)
  have m1 : a / l * m ≤ 100 * 3 := Int.mul_le_mul (by omega) hm3 (by omega) (by omega)
  have p0 : 0 ≤ (a / l * m + o) * l := Int.mul_nonneg (by omega) (by omega)
  have p1 : (a / l * m + o) * l ≤ 303 * 8 := Int.mul_le_mul (by omega) hl8 (by omega) (by omega)
  rw [Int.tdiv_eq_ediv_of_nonneg h0, wid (x := a / l) (by omega) (by omega), wid (x := a / l * m) (by omega) (by omega), wid (x := a / l * m + o) (by omega) (by omega), wid (x := (a / l * m + o) * l) (by omega) (by omega), Int.tmod_eq_emod_of_nonneg h0, wid (by omega) (by omega)]
  rfl

theorem spec_l3Back_is {l m o a : Int} (hl : 1 ≤ l) (hl8 : l ≤ 8) (hm : 1 ≤ m) (hm3 : m ≤ 3) (ho : 0 ≤ o) (ho3 : o < 3) (h0 : 0 ≤ a) (h1 : a < 100) : spec_l3Back.f l m o a = some (lBack l m o a) := by
  unfold spec_l3Back.f
  rw [if_neg (by omega), lBack_words hl hl8 hm hm3 ho ho3 h0 h1]

theorem impl_back_is {l m o a : Int} (hl : 1 ≤ l) (hl8 : l ≤ 8) (hm : 1 ≤ m) (hm3 : m ≤ 3) (ho : 0 ≤ o) (ho3 : o < 3) (h0 : 0 ≤ a) (h1 : a < 100) : impl_back.f l m o a = some (lBack l m o a) := by
  unfold impl_back.f
  rw [if_neg (by omega), lBack_words hl hl8 hm hm3 ho ho3 h0 h1]

def lyBack (l m o a : Int) : Int := if laOk l m = true ∧ 0 ≤ o ∧ o < m ∧ 0 ≤ a ∧ a < 48 ∧ lBack l m o a < 48 then lBack l m o a else -1
theorem impl_LayBack_is (l m o a : Int) : impl_LayBack.f l m o a = some (lyBack l m o a) := by
  unfold impl_LayBack.f lyBack
  rw [impl_LayOk_is]
  cases h : laOk l m with
  | false => simp
  | true =>
    have h' := of_decide_eq_true h
    simp only [Option.bind_some, if_true]
    by_cases c1 : o < 0
    · rw [if_pos c1, if_neg (by omega)]
    rw [if_neg c1]
    by_cases c2 : o ≥ m
    · rw [if_pos c2, if_neg (by omega)]
    rw [if_neg c2]
    by_cases c3 : a < 0
    · rw [if_pos c3, if_neg (by omega)]
    rw [if_neg c3]
    by_cases c4 : a ≥ 48
    · rw [if_pos c4, if_neg (by omega)]
    rw [if_neg c4, impl_back_is (by omega) (by omega) (by omega) (by omega) (by omega) (by omega) (by omega) (by omega), Option.bind_some]
    by_cases c5 : lBack l m o a ≥ 48
    · rw [if_pos c5, if_neg (by omega)]
    · rw [if_neg c5, Option.bind_some, if_pos ⟨trivial, by omega, by omega, by omega, by omega, by omega⟩]

/-! Facts on layouts that are few enough to be looked at one by one. -/
theorem lay_all (Q : Int → Int → Int → Prop) [∀ a b c, Decidable (Q a b c)] (h : ∀ l : Fin 8, ∀ m : Fin 3, ∀ p : Fin 50, Q (((l.val + 1 : Nat) : Int)) (((m.val + 1 : Nat) : Int)) ((p.val : Nat) : Int)) {l m p : Int} (hl : 1 ≤ l) (hl8 : l ≤ 8) (hm : 1 ≤ m) (hm3 : m ≤ 3) (h0 : 0 ≤ p) (h1 : p < 50) : Q l m p := by
  have e1 : (((⟨(l - 1).toNat, by omega⟩ : Fin 8).val + 1 : Nat) : Int) = l := by show (((l - 1).toNat + 1 : Nat) : Int) = l; omega
  have e2 : (((⟨(m - 1).toNat, by omega⟩ : Fin 3).val + 1 : Nat) : Int) = m := by show (((m - 1).toNat + 1 : Nat) : Int) = m; omega
  have e3 : (((⟨p.toNat, by omega⟩ : Fin 50).val : Nat) : Int) = p := by show ((p.toNat : Nat) : Int) = p; omega
  have := h ⟨(l - 1).toNat, by omega⟩ ⟨(m - 1).toNat, by omega⟩ ⟨p.toNat, by omega⟩
  rwa [e1, e2, e3] at this

theorem l1Max_is (a b : Int) : spec_l1Max.f a b = some (mx a b) := by
  unfold spec_l1Max.f mx
  split <;> split <;> first | rfl | (congr 1; omega)

/-! How long a file is. -/
def lmax (l m : Int) : Int → List Int → Int → Int
  | _, [], acc => acc
  | i, n :: r, acc => lmax l m (i + 1) r (if n > 0 then mx acc (lBack l m i (n - 1) + 1) else acc)
def lens (L : List Int) : Bool := L.all fun n => decide (0 ≤ n ∧ n ≤ 48)
def lyLong (l m : Int) (L : List Int) : Int := if laOk l m = true ∧ (L.length : Int) = m ∧ lens L = true then (if lmax l m 0 L 0 > 48 then -1 else lmax l m 0 L 0) else -1
theorem rd_nat (L : List Int) (i : Nat) : rd L (i : Int) = L.getD i 0 := rfl
theorem drop_rd (L : List Int) (i : Nat) (h : i < L.length) : L.drop i = L.getD i 0 :: L.drop (i + 1) := by
  rw [List.drop_eq_getElem_cons h, List.getD_eq_getElem?_getD, List.getElem?_eq_getElem h]
  rfl
theorem lmax_stepb {l m : Int} {i : Nat} {n acc : Int} (hl : 1 ≤ l) (hl8 : l ≤ 8) (hm : 1 ≤ m) (hm3 : m ≤ 3) (hi : (i : Int) < m) (h0 : 0 ≤ n) (h1 : n ≤ 48) (a0 : 0 ≤ acc) (a1 : acc ≤ 10000) :
    0 ≤ (if n > 0 then mx acc (lBack l m i (n - 1) + 1) else acc) ∧ (if n > 0 then mx acc (lBack l m i (n - 1) + 1) else acc) ≤ 10000 := by
  split
  · have := lBack_bounds (l := l) (m := m) (o := i) (a := n - 1) hl hl8 hm hm3 (by omega) (by omega) (by omega) (by omega)
    unfold mx
    split <;> omega
  · omega
theorem lens_drop (L : List Int) (i : Nat) (h : i < L.length) : lens (L.drop i) = (decide (0 ≤ L.getD i 0 ∧ L.getD i 0 ≤ 48) && lens (L.drop (i + 1))) := by
  rw [drop_rd L i h]
  rfl
theorem lens_short (L : List Int) (i : Nat) (h : ¬ i < L.length) : lens (L.drop i) = true := by rw [List.drop_of_length_le (by omega)]; rfl

theorem spec_l3Long_l {l m : Int} (hl : 1 ≤ l) (hl8 : l ≤ 8) (hm : 1 ≤ m) (hm3 : m ≤ 3) (L : List Int) (hL : (L.length : Int) = m) (ho : lens L = true) : ∀ (d i : Nat) (acc : Int), i + d = L.length → 0 ≤ acc → acc ≤ 10000 →
    Ev (fun k => spec_l3Long.l0 k L acc (i : Int) l m) (lmax l m i (L.drop i) acc) := by
  intro d
  induction d with
  | zero =>
    intro i acc hi h0 h1
    refine Ev.end_ (fun k => ?_)
    simp only [spec_l3Long.l0]
    rw [if_neg (by omega), List.drop_of_length_le (by omega)]
    rfl
  | succ d ih =>
    intro i acc hi h0 h1
    have hlt : i < L.length := by omega
    have hn : 0 ≤ L.getD i 0 ∧ L.getD i 0 ≤ 48 := by
      have := List.all_eq_true.1 ho (L.getD i 0) (by rw [List.getD_eq_getElem?_getD, List.getElem?_eq_getElem hlt]; exact List.getElem_mem hlt)
      exact of_decide_eq_true this
    have hs := lmax_stepb (i := i) hl hl8 hm hm3 (by omega) hn.1 hn.2 h0 h1
    rw [drop_rd L i hlt]
    refine Ev.cut (f := fun k => spec_l3Long.l0 k L (if L.getD i 0 > 0 then mx acc (lBack l m i (L.getD i 0 - 1) + 1) else acc) ((i + 1 : Nat) : Int) l m) (ih (i + 1) _ (by omega) hs.1 hs.2) (fun k => ?_)
    simp only [spec_l3Long.l0]
    rw [if_pos (by omega), if_pos (by omega), rd_nat, wsucc i (by omega)]
    by_cases hp : L.getD i 0 > 0
    · have := lBack_bounds (l := l) (m := m) (o := i) (a := L.getD i 0 - 1) hl hl8 hm hm3 (by omega) (by omega) (by omega) (by omega)
      rw [if_pos hp, if_pos hp, wid (x := L.getD i 0 - 1) (by omega) (by omega), spec_l3Back_is hl hl8 hm hm3 (by omega) (by omega) (by omega) (by omega), Option.bind_some, l1Max_is, Option.bind_some, wid (by omega) (by omega)]
    · rw [if_neg hp, if_neg hp]
theorem spec_LayLong_l {l m : Int} (hl : 1 ≤ l) (hl8 : l ≤ 8) (hm : 1 ≤ m) (hm3 : m ≤ 3) (L : List Int) (hL : (L.length : Int) = m) : ∀ (d i : Nat), i + d = L.length → lens (L.take i) = true →
    Ev (fun k => spec_LayLong.l0 k L (i : Int) l m) (if lens (L.drop i) = true then (if lmax l m 0 L 0 > 48 then -1 else lmax l m 0 L 0) else -1) := by
  intro d
  induction d with
  | zero =>
    intro i hi hp
    rw [lens_short L i (by omega), if_pos rfl]
    have ho : lens L = true := by rwa [List.take_of_length_le (by omega)] at hp
    have h := spec_l3Long_l hl hl8 hm hm3 L hL ho L.length 0 0 (by omega) (by omega) (by omega)
    refine Ev.cut (f := fun k => (spec_l3Long.f k l m L).bind fun t => if t > 48 then some (-1) else some t) (Ev.bind (a := lmax l m 0 L 0) (by simpa [spec_l3Long.f] using h) (Ev.all fun k => ?_)) (fun k => ?_)
    · split <;> rfl
    · simp only [spec_LayLong.l0]
      rw [if_neg (by omega)]
  | succ d ih =>
    intro i hi hp
    have hlt : i < L.length := by omega
    rw [lens_drop L i hlt]
    by_cases hn : 0 ≤ L.getD i 0 ∧ L.getD i 0 ≤ 48
    · rw [decide_eq_true hn, Bool.true_and]
      refine Ev.cut (f := fun k => spec_LayLong.l0 k L ((i + 1 : Nat) : Int) l m) (ih (i + 1) (by omega) ?_) (fun k => ?_)
      · rw [List.take_succ_eq_append_getElem hlt]
        unfold lens at hp ⊢
        rw [List.all_append, hp]
        rw [List.getD_eq_getElem?_getD, List.getElem?_eq_getElem hlt, Option.getD_some] at hn
        simp
        omega
      · simp only [spec_LayLong.l0]
        rw [if_pos (by omega), if_pos (by omega), rd_nat, if_neg (by omega), if_neg (by omega), wsucc i (by omega)]
    · rw [decide_eq_false hn, Bool.false_and]
      refine Ev.end_ (fun k => ?_)
      simp only [spec_LayLong.l0]
      simp only [Bool.false_eq_true, if_false]
      rw [if_pos (by omega), if_pos (by omega), rd_nat]
      by_cases h0 : L.getD i 0 < 0
      · rw [if_pos h0]
      · rw [if_neg h0, if_pos (by omega)]
theorem spec_LayLong_is (l m : Int) (L : List Int) : Ev (fun k => spec_LayLong.f k l m L) (lyLong l m L) := by
  unfold spec_LayLong.f lyLong
  rw [spec_LayOk_is]
  cases h : laOk l m with
  | false => exact Ev.end_ (fun k => by simp [spec_LayLong.j0])
  | true =>
    have h' := of_decide_eq_true h
    simp only [Option.bind_some, if_true]
    by_cases hL : (L.length : Int) = m
    · refine Ev.cut (f := fun k => spec_LayLong.l0 k L ((0 : Nat) : Int) l m) ?_ (fun k => by simp [spec_LayLong.j0, hL])
      have hh := spec_LayLong_l (l := l) (m := m) (by omega) (by omega) (by omega) (by omega) L hL L.length 0 (by omega) (by rfl)
      simpa [hL] using hh
    · exact Ev.end_ (fun k => by simp [spec_LayLong.j0, hL])

theorem impl_LayLong_l {l m : Int} (hl : 1 ≤ l) (hl8 : l ≤ 8) (hm : 1 ≤ m) (hm3 : m ≤ 3) (L : List Int) (hL : (L.length : Int) = m) : ∀ (d i : Nat) (acc : Int), i + d = L.length → 0 ≤ acc → acc ≤ 10000 →
    Ev (fun k => impl_LayLong.l0 k acc L (L.length : Int) (i : Int) l m) (if lens (L.drop i) = true then (if lmax l m i (L.drop i) acc > 48 then -1 else lmax l m i (L.drop i) acc) else -1) := by
  intro d
  induction d with
  | zero =>
    intro i acc hi h0 h1
    rw [lens_short L i (by omega), if_pos rfl, List.drop_of_length_le (by omega)]
    refine Ev.end_ (fun k => ?_)
    simp only [impl_LayLong.l0]
    rw [if_neg (by omega)]
    unfold lmax
    split <;> rfl
  | succ d ih =>
    intro i acc hi h0 h1
    have hlt : i < L.length := by omega
    rw [lens_drop L i hlt]
    by_cases hn : 0 ≤ L.getD i 0 ∧ L.getD i 0 ≤ 48
    · rw [decide_eq_true hn, Bool.true_and, drop_rd L i hlt]
      have hs := lmax_stepb (i := i) hl hl8 hm hm3 (by omega) hn.1 hn.2 h0 h1
      refine Ev.cut (f := fun k => impl_LayLong.j2 k acc (i : Int) (L.getD i 0) L (L.length : Int) (i : Int) false l m) (Ev.cut (f := fun k => impl_LayLong.l0 k (if L.getD i 0 > 0 then mx acc (lBack l m i (L.getD i 0 - 1) + 1) else acc) L (L.length : Int) ((i + 1 : Nat) : Int) l m) (ih (i + 1) _ (by omega) hs.1 hs.2) (fun k => ?_)) (fun k => ?_)
      · simp only [impl_LayLong.j2]
        rw [if_neg (by simp), wsucc i (by omega)]
        by_cases hp : L.getD i 0 > 0
        · have := lBack_bounds (l := l) (m := m) (o := i) (a := L.getD i 0 - 1) hl hl8 hm hm3 (by omega) (by omega) (by omega) (by omega)
          rw [if_pos hp, if_pos hp, wid (x := L.getD i 0 - 1) (by omega) (by omega), impl_back_is hl hl8 hm hm3 (by omega) (by omega) (by omega) (by omega), Option.bind_some, wid (by omega) (by omega)]
        · rw [if_neg hp, if_neg hp]
      · simp only [impl_LayLong.l0]
        rw [if_pos (by omega), if_pos (by omega), if_pos (by omega), rd_nat, if_neg (by omega), decide_eq_false (show ¬ L.getD i 0 > 48 by omega)]
    · rw [decide_eq_false hn, Bool.false_and, if_neg (by simp)]
      refine Ev.cut (f := fun k => impl_LayLong.j2 k acc (i : Int) (L.getD i 0) L (L.length : Int) (i : Int) true l m) (Ev.end_ (fun k => ?_)) (fun k => ?_)
      · simp only [impl_LayLong.j2]
        rw [if_pos trivial]
      · simp only [impl_LayLong.l0]
        rw [if_pos (by omega), if_pos (by omega), if_pos (by omega), rd_nat]
        by_cases h2 : L.getD i 0 < 0
        · rw [if_pos h2]
        · rw [if_neg h2, decide_eq_true (show L.getD i 0 > 48 by omega)]
theorem impl_LayLong_is (l m : Int) (L : List Int) : Ev (fun k => impl_LayLong.f k l m L) (lyLong l m L) := by
  unfold impl_LayLong.f lyLong
  rw [impl_LayOk_is]
  cases h : laOk l m with
  | false => exact Ev.end_ (fun k => by simp [impl_LayLong.j0])
  | true =>
    have h' := of_decide_eq_true h
    simp only [Option.bind_some, if_true]
    by_cases hL : (L.length : Int) = m
    · refine Ev.cut (f := fun k => impl_LayLong.l0 k 0 L (L.length : Int) ((0 : Nat) : Int) l m) ?_ (fun k => by simp [impl_LayLong.j0, hL])
      have hh := impl_LayLong_l (l := l) (m := m) (by omega) (by omega) (by omega) (by omega) L hL L.length 0 0 (by omega) (by omega) (by omega)
      simpa [hL] using hh
    · exact Ev.end_ (fun k => by simp [impl_LayLong.j0, hL])

/-! The farthest place. -/
theorem lmax_ge (l m : Int) : ∀ (L : List Int) (i acc : Int), acc ≤ lmax l m i L acc := by
  intro L
  induction L with
  | nil => exact fun i acc => Int.le_refl _
  | cons n r ih =>
    intro i acc
    simp only [lmax]
    refine Int.le_trans ?_ (ih (i + 1) _)
    split
    · unfold mx; split <;> omega
    · exact Int.le_refl _
theorem lmax_mono (l m : Int) : ∀ (L : List Int) (i a b : Int), a ≤ b → lmax l m i L a ≤ lmax l m i L b := by
  intro L
  induction L with
  | nil => exact fun i a b h => h
  | cons n r ih =>
    intro i a b h
    simp only [lmax]
    refine ih (i + 1) _ _ ?_
    split
    · unfold mx; split <;> split <;> omega
    · exact h
theorem lmax_elem (l m : Int) : ∀ (L : List Int) (i acc : Int) (j : Nat), j < L.length → L.getD j 0 > 0 → lBack l m (i + j) (L.getD j 0 - 1) + 1 ≤ lmax l m i L acc := by
  intro L
  induction L with
  | nil => exact fun i acc j h => by simp at h
  | cons n r ih =>
    intro i acc j h hp
    simp only [lmax]
    cases j with
    | zero =>
      have e : (n :: r).getD 0 0 = n := rfl
      rw [e] at hp ⊢
      rw [if_pos hp]
      refine Int.le_trans ?_ (lmax_ge l m r (i + 1) _)
      simp only [Int.natCast_zero, Int.add_zero]
      unfold mx
      split <;> omega
    | succ j =>
      have e : (n :: r).getD (j + 1) 0 = r.getD j 0 := rfl
      rw [e] at hp ⊢
      rw [show i + ((j + 1 : Nat) : Int) = i + 1 + (j : Int) by omega]
      exact ih (i + 1) _ j (by simpa using h) hp
theorem lmax_hit (l m : Int) : ∀ (L : List Int) (i acc : Int), lmax l m i L acc = acc ∨ ∃ j : Nat, j < L.length ∧ L.getD j 0 > 0 ∧ lmax l m i L acc = lBack l m (i + j) (L.getD j 0 - 1) + 1 := by
  intro L
  induction L with
  | nil => exact fun i acc => .inl rfl
  | cons n r ih =>
    intro i acc
    simp only [lmax]
    rcases ih (i + 1) (if n > 0 then mx acc (lBack l m i (n - 1) + 1) else acc) with h | ⟨j, h1, h2, h3⟩
    · rw [h]
      by_cases hp : n > 0
      · rw [if_pos hp]
        unfold mx
        split
        · exact .inr ⟨0, by simp, hp, by simp⟩
        · exact .inl rfl
      · rw [if_neg hp]
        exact .inl rfl
    · exact .inr ⟨j + 1, by simpa using h1, h2, by rw [h3, show i + ((j + 1 : Nat) : Int) = i + 1 + (j : Int) by omega]; rfl⟩
theorem lBack_next {l m o a : Int} (hl : 1 ≤ l) (hl8 : l ≤ 8) (hm : 1 ≤ m) (hm3 : m ≤ 3) (ho : 0 ≤ o) (hom : o < m) (h0 : 0 ≤ a) (h1 : a < 50) : lBack l m o a ≤ lBack l m o (a + 1) :=
  lay_all (fun l m a => ∀ o : Fin 3, lBack l m (o.val : Int) a ≤ lBack l m (o.val : Int) (a + 1)) (by decide +kernel) hl hl8 hm hm3 h0 h1 ⟨o.toNat, by omega⟩ |> fun h => by
    have e : (((⟨o.toNat, by omega⟩ : Fin 3).val : Nat) : Int) = o := by show ((o.toNat : Nat) : Int) = o; omega
    rwa [e] at h
theorem lBack_zero {l m o : Int} (hl : 1 ≤ l) (hl8 : l ≤ 8) (hm : 1 ≤ m) (hm3 : m ≤ 3) (ho : 0 ≤ o) : 0 ≤ lBack l m o 0 := by
  unfold lBack
  simp
  exact Int.mul_nonneg ho (by omega)
theorem lmax_set {l m : Int} (hl : 1 ≤ l) (hl8 : l ≤ 8) (hm : 1 ≤ m) (hm3 : m ≤ 3) : ∀ (L : List Int) (i acc : Int) (j : Nat), j < L.length → 0 ≤ i → i + L.length ≤ m → 0 ≤ L.getD j 0 → L.getD j 0 ≤ 48 → lmax l m i L acc ≤ lmax l m i (L.set j (L.getD j 0 + 1)) acc := by
  intro L
  induction L with
  | nil => exact fun i acc j h => by simp at h
  | cons n r ih =>
    intro i acc j h hi him h0 h1
    simp only [List.length_cons] at him h
    cases j with
    | zero =>
      have e : (n :: r).getD 0 0 = n := rfl
      rw [e] at h0 h1 ⊢
      simp only [List.set_cons_zero, lmax]
      refine lmax_mono l m r (i + 1) _ _ ?_
      rw [if_pos (show n + 1 > 0 by omega), show n + 1 - 1 = n by omega]
      by_cases hp : n > 0
      · rw [if_pos hp]
        have := lBack_next (l := l) (m := m) (o := i) (a := n - 1) hl hl8 hm hm3 hi (by omega) (by omega) (by omega)
        rw [show n - 1 + 1 = n by omega] at this
        unfold mx
        split <;> split <;> omega
      · rw [if_neg hp]
        unfold mx
        split <;> omega
    | succ j =>
      have e : (n :: r).getD (j + 1) 0 = r.getD j 0 := rfl
      rw [e] at h0 h1 ⊢
      simp only [List.set_cons_succ, lmax]
      exact ih (i + 1) _ j (by omega) (by omega) (by omega) h0 h1

/-! The reader of draws. -/
def RB (b : List Int) : Prop := b.length ≤ 2000 ∧ ∀ x ∈ b, 0 ≤ x ∧ x ≤ 255
theorem rd_byte {b : List Int} (hb : RB b) (i : Int) : 0 ≤ rd b i ∧ rd b i ≤ 255 := by
  unfold rd
  rw [List.getD_eq_getElem?_getD]
  cases e : b[i.toNat]? with
  | none => simp
  | some x => exact hb.2 x (List.mem_of_getElem? e)
theorem open_is (l : List Int) (hw : ∀ x ∈ l, (Lit.int .u8 x).wf = true) : ∃ b, spec_l10Open.f l = some (b, 0) ∧ RB b := by
  have h : ∀ x ∈ l, 0 ≤ x ∧ x ≤ 255 := fun x hx => bounds_u8 (hw x hx)
  unfold spec_l10Open.f
  by_cases hl : (l.length : Int) > 2000
  · rw [if_pos hl, if_pos (by omega)]
    exact ⟨_, rfl, by rw [List.length_take]; omega, fun x hx => h x (List.mem_of_mem_take hx)⟩
  · rw [if_neg hl]
    exact ⟨_, rfl, by omega, h⟩
theorem xor_nonneg (a b : Int) (ha0 : 0 ≤ a) (ha : a < 1152921504606846976) (hb0 : 0 ≤ b) (hb : b < 1152921504606846976) : 0 ≤ Go.bits .xor .i64 a b := by
  obtain ⟨m, rfl⟩ := Int.eq_ofNat_of_zero_le ha0
  obtain ⟨n, rfl⟩ := Int.eq_ofNat_of_zero_le hb0
  have hm : m < 2 ^ 60 := by omega
  have hn : n < 2 ^ 60 := by omega
  have hx : m ^^^ n < 2 ^ 60 := Nat.xor_lt_two_pow hm hn
  have hm' : m % 2 ^ IntKind.i64.bits = m := Nat.mod_eq_of_lt (show m < 2 ^ 64 by omega)
  have hn' : n % 2 ^ IntKind.i64.bits = n := Nat.mod_eq_of_lt (show n < 2 ^ 64 by omega)
  have e : Go.bits .xor .i64 (m : Int) (n : Int) = IntKind.i64.wrap ((m ^^^ n : Nat) : Int) := by
    simp only [bits, BitVec.ofInt_natCast, BitVec.toNat_xor, BitVec.toNat_ofNat, hm', hn']
  rw [e, IntKind.wrap_i64]
  omega
theorem pick_is {b : List Int} (hb : RB b) (p n : Int) (h0 : 0 ≤ p) (h1 : p ≤ 1099511627776) (hn1 : 1 ≤ n) : ∃ v, Ev (fun k => spec_l10Rd_pick.f k b p n) (v, p + 1) ∧ 0 ≤ v ∧ v < n := by
  have e1 : wrap64 (p + 1) = p + 1 := wid (by omega) (by omega)
  have e2 : wrap64 (p + 1 - 1) = p := by rw [show p + 1 - 1 = p by omega]; exact wid (by omega) (by omega)
  have hl := hb.1
  by_cases hz : (b.length : Int) = 0
  · refine ⟨0, Ev.end_ (fun k => ?_), by omega, by omega⟩
    unfold spec_l10Rd_pick.f
    rw [if_neg (by omega), e1]
    simp only [spec_l10Rd_pick.j0]
    rw [if_pos (by simpa using hz)]
  · by_cases hlt : p < (b.length : Int)
    · have hr := rd_byte hb p
      refine ⟨Int.tmod (rd b p) n, Ev.end_ (fun k => ?_), ?_, ?_⟩
      · unfold spec_l10Rd_pick.f
        rw [if_neg (by omega), e1]
        simp only [spec_l10Rd_pick.j0]
        rw [if_neg (by simpa using hz), e2, if_pos hlt, if_pos h0, if_neg (by omega), wid (by omega) (by omega)]
      · rw [Int.tmod_eq_emod_of_nonneg hr.1]; exact Int.emod_nonneg _ (by omega)
      · rw [Int.tmod_eq_emod_of_nonneg hr.1]; exact Int.emod_lt_of_pos _ (by omega)
    · have e3 : wrap64 (p * 7) = p * 7 := wid (by omega) (by omega)
      have e4 : wrap64 (p * 7 + 3) = p * 7 + 3 := wid (by omega) (by omega)
      have q0 : 0 ≤ p % (b.length : Int) := Int.emod_nonneg _ hz
      have q1 : p % (b.length : Int) < (b.length : Int) := Int.emod_lt_of_pos _ (by omega)
      have q2 : 0 ≤ (p * 7 + 3) % (b.length : Int) := Int.emod_nonneg _ hz
      have q3 : (p * 7 + 3) % (b.length : Int) < (b.length : Int) := Int.emod_lt_of_pos _ (by omega)
      have q4 : 0 ≤ p / (b.length : Int) := Int.ediv_nonneg h0 (by omega)
      have q5 : p / (b.length : Int) ≤ p := Int.ediv_le_self _ h0
      have r1 := rd_byte hb (p % (b.length : Int))
      have r2 := rd_byte hb ((p * 7 + 3) % (b.length : Int))
      obtain ⟨X, hX⟩ : ∃ X, X = rd b (p % (b.length : Int)) * 131 + rd b ((p * 7 + 3) % (b.length : Int)) * 1117 + p * 29 + p / (b.length : Int) * 53 := ⟨_, rfl⟩
      have x0 : 0 ≤ X := by omega
      have x1 : X < 1152921504606846976 := by omega
      have y := xor_nonneg X (X / 64) x0 x1 (by omega) (by omega)
      refine ⟨Int.tmod (Go.bits .xor .i64 X (X / 64)) n, Ev.end_ (fun k => ?_), ?_, ?_⟩
      · unfold spec_l10Rd_pick.f
        rw [if_neg (by omega), e1]
        simp only [spec_l10Rd_pick.j0]
        rw [if_neg (by simpa using hz), e2, if_neg hlt, if_neg hz, Int.tmod_eq_emod_of_nonneg h0, if_pos q0, if_pos q1, e3, e4, Int.tmod_eq_emod_of_nonneg (show 0 ≤ p * 7 + 3 by omega), if_pos q2, if_pos q3, if_neg (by omega), Int.tdiv_eq_ediv_of_nonneg h0,
          wid (x := rd b (p % (b.length : Int))) (by omega) (by omega), wid (x := rd b ((p * 7 + 3) % (b.length : Int))) (by omega) (by omega), wid (x := rd b (p % (b.length : Int)) * 131) (by omega) (by omega), wid (x := rd b ((p * 7 + 3) % (b.length : Int)) * 1117) (by omega) (by omega),
          wid (x := rd b (p % (b.length : Int)) * 131 + rd b ((p * 7 + 3) % (b.length : Int)) * 1117) (by omega) (by omega), wid (x := p * 29) (by omega) (by omega), wid (x := rd b (p % (b.length : Int)) * 131 + rd b ((p * 7 + 3) % (b.length : Int)) * 1117 + p * 29) (by omega) (by omega),
          wid (x := p / (b.length : Int)) (by omega) (by omega), wid (x := p / (b.length : Int) * 53) (by omega) (by omega), ← hX, wid (x := X) (by omega) (by omega), Int.tdiv_eq_ediv_of_nonneg x0, wid (x := X / 64) (by omega) (by omega)]
      · rw [Int.tmod_eq_emod_of_nonneg y]; exact Int.emod_nonneg _ (by omega)
      · rw [Int.tmod_eq_emod_of_nonneg y]; exact Int.emod_lt_of_pos _ (by omega)

/-! One of a list of numbers. -/
theorem rd_mem (l : List Int) (i : Int) (h0 : 0 ≤ i) (h1 : i < (l.length : Int)) : rd l i ∈ l := by
  unfold rd
  rw [List.getD_eq_getElem?_getD, List.getElem?_eq_getElem (by omega)]
  exact List.getElem_mem _
theorem num_is {b : List Int} (hb : RB b) (p : Int) (l : List Int) (h0 : 0 ≤ p) (h1 : p ≤ 1099511627776) (hn1 : 1 ≤ (l.length : Int)) : ∃ v, Ev (fun k => spec_l10Rd_num.f k b p l) (v, p + 1) ∧ v ∈ l := by
  obtain ⟨i, hi, i0, i1⟩ := pick_is hb p (l.length : Int) h0 h1 hn1
  refine ⟨rd l i, Ev.bind hi (Ev.all fun k => ?_), rd_mem l i i0 i1⟩
  rw [if_pos i0, if_pos i1]

/-! A layout, drawn. -/
theorem l3Lay_is {b : List Int} (hb : RB b) (p : Int) (h0 : 0 ≤ p) (h1 : p ≤ 1000000000000) : ∃ x y, Ev (fun k => spec_l3Lay.f k b p) (x, y, p + 1 + 1) ∧ laOk x y = true := by
  obtain ⟨v, hv, vm⟩ := num_is hb p [1, 2, 3, 4, 5, 8] h0 (by omega) (by simp)
  obtain ⟨x, hx, x0, x1⟩ := pick_is hb (p + 1) 3 (by omega) (by omega) (by omega)
  have hv2 : 1 ≤ v ∧ v ≤ 8 := by simp at vm; omega
  refine ⟨v, 1 + x, Ev.bind hv (Ev.bind hx (Ev.all fun k => ?_)), decide_eq_true (by omega)⟩
  rw [wid (by omega) (by omega)]
theorem l3Lays_is {b : List Int} (hb : RB b) (p : Int) (h0 : 0 ≤ p) (h1 : p ≤ 1000000000000) : ∃ x y q, Ev (fun k => spec_l3Lays.f k b p) (x, y, q) ∧ p ≤ q ∧ q ≤ p + 4 ∧ y ≤ 4 := by
  obtain ⟨x, y, hx, hok⟩ := l3Lay_is hb p h0 h1
  have hok := of_decide_eq_true hok
  obtain ⟨v, hv, v0, v1⟩ := pick_is hb (p + 1 + 1) 36 (by omega) (by omega) (by omega)
  by_cases c0 : v = 0
  · obtain ⟨u, hu, um⟩ := num_is hb (p + 1 + 1 + 1) [0, -1, 9] (by omega) (by omega) (by simp)
    exact ⟨u, y, p + 1 + 1 + 1 + 1, Ev.bind hx (Ev.bind hv (by simp only [if_pos c0]; exact Ev.bind hu (Ev.now _))), by omega, by omega, by omega⟩
  by_cases c1 : v = 1
  · obtain ⟨u, hu, um⟩ := num_is hb (p + 1 + 1 + 1) [0, -1, 4] (by omega) (by omega) (by simp)
    have hu4 : u ≤ 4 := by simp at um; omega
    exact ⟨x, u, p + 1 + 1 + 1 + 1, Ev.bind hx (Ev.bind hv (by simp only [if_neg c0, if_pos c1]; exact Ev.bind hu (Ev.now _))), by omega, by omega, hu4⟩
  by_cases c2 : v = 2
  · exact ⟨0, 0, p + 1 + 1 + 1, Ev.bind hx (Ev.bind hv (by simp only [if_neg c0, if_neg c1, if_pos c2]; exact Ev.now _)), by omega, by omega, by omega⟩
  · exact ⟨x, y, p + 1 + 1 + 1, Ev.bind hx (Ev.bind hv (by simp only [if_neg c0, if_neg c1, if_neg c2]; exact Ev.now _)), by omega, by omega, by omega⟩

theorem DrawLayLong_l {b : List Int} (hb : RB b) (l m : Int) : ∀ (d : Nat) (L : List Int) (i p : Int), 0 ≤ i → i + d = 5 → L.length ≤ 10 + i → 0 ≤ p → p ≤ 1000000 + 100 * i →
    ∃ R, Ev (fun k => spec_DrawLayLong.l0 k L i b p l m) (l, m, R) ∧ R.length ≤ 100 := by
  have fin_ : ∀ (L : List Int) (i p : Int), 0 ≤ i → i ≤ 5 → L.length ≤ 10 + i → 0 ≤ p → p ≤ 2000000 → ∃ R, Ev (fun k => spec_DrawLayLong.j1 k L i false b p l m) (l, m, R) ∧ R.length ≤ 100 := by
    intro L i p h0 h5 hL hp0 hp1
    obtain ⟨v, hv, v0, v1⟩ := pick_is hb p 20 hp0 (by omega) (by omega)
    by_cases c0 : v = 0
    · refine ⟨L ++ [1], Ev.cut (f := fun k => (spec_l10Rd_pick.f k b p 20).bind fun x => if x.1 = 0 then (if L.length < 17592186044416 then some (l, m, (L ++ [1])) else none) else some (l, m, L)) (Ev.bind hv (Ev.all fun k => by rw [if_pos c0, if_pos (by omega)])) (fun k => ?_), by simp; omega⟩
      simp only [spec_DrawLayLong.j1, Bool.false_eq_true, if_false]
    · refine ⟨L, Ev.cut (f := fun k => (spec_l10Rd_pick.f k b p 20).bind fun x => if x.1 = 0 then (if L.length < 17592186044416 then some (l, m, (L ++ [1])) else none) else some (l, m, L)) (Ev.bind hv (Ev.all fun k => by rw [if_neg c0])) (fun k => ?_), by omega⟩
      simp only [spec_DrawLayLong.j1, Bool.false_eq_true, if_false]
  intro d
  induction d with
  | zero =>
    intro L i p h0 h5 hL hp0 hp1
    obtain ⟨R, hR, hl⟩ := fin_ L i p h0 (by omega) hL hp0 (by omega)
    refine ⟨R, Ev.cut hR (fun k => ?_), hl⟩
    simp only [spec_DrawLayLong.l0]
    split
    · rw [decide_eq_false (by omega)]
    · rfl
  | succ d ih =>
    intro L i p h0 h5 hL hp0 hp1
    by_cases hi : i < m
    · obtain ⟨v1, e1, _⟩ := pick_is hb p 17 hp0 (by omega) (by omega)
      obtain ⟨v2, e2, _⟩ := pick_is hb (p + 1) 17 (by omega) (by omega) (by omega)
      obtain ⟨v3, e3, _⟩ := pick_is hb (p + 1 + 1) 12 (by omega) (by omega) (by omega)
      obtain ⟨v4, e4, _⟩ := pick_is hb (p + 1 + 1 + 1) 48 (by omega) (by omega) (by omega)
      obtain ⟨v5, e5, _⟩ := num_is hb (p + 1 + 1 + 1 + 1) [v1, v2, v3, 0, v4, 49, -1] (by omega) (by omega) (by simp)
      obtain ⟨R, hR, hl⟩ := ih (L ++ [v5]) (i + 1) (p + 1 + 1 + 1 + 1 + 1) (by omega) (by omega) (by simp; omega) (by omega) (by omega)
      refine ⟨R, Ev.cut (f := fun k => spec_DrawLayLong.j1 k L i true b p l m) (Ev.cut (f := fun k => (spec_l10Rd_pick.f k b p 17).bind fun a => (spec_l10Rd_pick.f k b a.2 17).bind fun c => (spec_l10Rd_pick.f k b c.2 12).bind fun e => (spec_l10Rd_pick.f k b e.2 48).bind fun g => (spec_l10Rd_num.f k b g.2 [a.1, c.1, e.1, 0, g.1, 49, -1]).bind fun x => if L.length < 17592186044416 then spec_DrawLayLong.l0 k (L ++ [x.1]) (wrap64 (i + 1)) b x.2 l m else none) (Ev.bind e1 (Ev.bind e2 (Ev.bind e3 (Ev.bind e4 (Ev.bind e5 ?_))))) (fun k => ?_)) (fun k => ?_), hl⟩
      · simp only [if_pos (show L.length < 17592186044416 by omega), wid (x := i + 1) (by omega) (by omega)]
        exact hR
      · simp only [spec_DrawLayLong.j1, if_true]
      · simp only [spec_DrawLayLong.l0]
        rw [if_pos hi, decide_eq_true (by omega)]
    · obtain ⟨R, hR, hl⟩ := fin_ L i p h0 (by omega) hL hp0 (by omega)
      refine ⟨R, Ev.cut hR (fun k => ?_), hl⟩
      simp only [spec_DrawLayLong.l0]
      rw [if_neg hi]
theorem DrawLayLong_is (l : List Int) (hw : ∀ x ∈ l, (Lit.int .u8 x).wf = true) : ∃ a b L, Ev (fun k => spec_DrawLayLong.f k l) (a, b, L) ∧ L.length ≤ 100 := by
  obtain ⟨r, hr, hb⟩ := open_is l hw
  obtain ⟨x, y, q, h1, q0, q1, _⟩ := l3Lays_is hb 0 (by omega) (by omega)
  obtain ⟨R, h2, hl⟩ := DrawLayLong_l hb x y 5 [] 0 q (by omega) (by omega) (by simp) (by omega) (by omega)
  refine ⟨x, y, R, ?_, hl⟩
  unfold spec_DrawLayLong.f
  simp only [hr, Option.bind_some]
  exact Ev.bind h1 h2
theorem LayLong_loop {l m : Int} {L : List Int} (hk : laOk l m = true) (hL : (L.length : Int) = m) (ho : lens L = true) (hn : lmax l m 0 L 0 ≤ 48) : ∀ (d i : Nat) (far : Bool), i + d = L.length → (lmax l m 0 L 0 ≠ 0 → far = true ∨ ∃ j : Nat, i ≤ j ∧ j < L.length ∧ L.getD j 0 > 0 ∧ lmax l m 0 L 0 = lBack l m j (L.getD j 0 - 1) + 1) →
    Ev (fun k => laws_FnLayLong.l0 k L (lmax l m 0 L 0) far (i : Int) l m) true := by
  have hok := of_decide_eq_true hk
  have hge := lmax_ge l m L 0 0
  intro d
  induction d with
  | zero =>
    intro i far hi hf
    refine Ev.end_ (fun k => ?_)
    simp only [laws_FnLayLong.l0]
    rw [if_neg (by omega)]
    by_cases hz : lmax l m 0 L 0 = 0
    · rw [hz]
      cases far <;> simp
    · rcases hf hz with hf | ⟨j, h1, h2, _⟩
      · rw [hf]
        rfl
      · omega
  | succ d ih =>
    intro i far hi hf
    have hlt : i < L.length := by omega
    have hel : 0 ≤ L.getD i 0 ∧ L.getD i 0 ≤ 48 := by
      have := List.all_eq_true.1 ho (L.getD i 0) (by rw [List.getD_eq_getElem?_getD, List.getElem?_eq_getElem hlt]; exact List.getElem_mem hlt)
      exact of_decide_eq_true this
    have hnext : ∀ (far' : Bool), (far = true → far' = true) → (L.getD i 0 > 0 → lmax l m 0 L 0 = lBack l m i (L.getD i 0 - 1) + 1 → far' = true) → ∀ g : Nat → Option Bool, (∀ k, g (k + 1) = (impl_LayLong.f k l m (L.set i (L.getD i 0 + 1))).bind fun t => if t ≥ 0 then (if t < lmax l m 0 L 0 then some false else laws_FnLayLong.l0 k L (lmax l m 0 L 0) far' ((i + 1 : Nat) : Int) l m) else laws_FnLayLong.l0 k L (lmax l m 0 L 0) far' ((i + 1 : Nat) : Int) l m) → Ev g true := by
      intro far' hff hfn g hg
      have h := ih (i + 1) far' (by omega) (fun hz => by
        rcases hf hz with h | ⟨j, h1, h2, h3, h4⟩
        · exact .inl (hff h)
        · by_cases e : j = i
          · subst e
            exact .inl (hfn h3 h4)
          · exact .inr ⟨j, by omega, h2, h3, h4⟩)
      refine Ev.cut (Ev.bind (impl_LayLong_is l m (L.set i (L.getD i 0 + 1))) ?_) hg
      have hset := lmax_set (l := l) (m := m) (by omega) (by omega) (by omega) (by omega) L 0 0 i hlt (by omega) (by omega) hel.1 hel.2
      have hnot : ¬ (lyLong l m (L.set i (L.getD i 0 + 1)) ≥ 0 ∧ lyLong l m (L.set i (L.getD i 0 + 1)) < lmax l m 0 L 0) := by
        intro ⟨z1, z2⟩
        unfold lyLong at z1 z2
        split at z1
        · rename_i hc
          rw [if_pos hc] at z2
          split at z1
          · omega
          · rename_i h4
            rw [if_neg h4] at z2
            omega
        · omega
      by_cases h3 : lyLong l m (L.set i (L.getD i 0 + 1)) ≥ 0
      · simp only [if_pos h3, if_neg (show ¬ lyLong l m (L.set i (L.getD i 0 + 1)) < lmax l m 0 L 0 from fun h4 => hnot ⟨h3, h4⟩)]
        exact h
      · simp only [if_neg h3]
        exact h
    have hw : wrap64 (L.getD i 0 + 1) = L.getD i 0 + 1 := wid (by omega) (by omega)
    by_cases hp : L.getD i 0 > 0
    · have hle := lmax_elem l m L 0 0 i hlt hp
      rw [Int.zero_add] at hle
      have hb := lBack_bounds (l := l) (m := m) (o := i) (a := L.getD i 0 - 1) (by omega) (by omega) (by omega) (by omega) (by omega) (by omega) (by omega) (by omega)
      have hy : lyBack l m i (L.getD i 0 - 1) = lBack l m i (L.getD i 0 - 1) := if_pos ⟨hk, by omega, by omega, by omega, by omega, by omega⟩
      have step3 : ∀ far', (far = true → far' = true) → (lmax l m 0 L 0 = lBack l m i (L.getD i 0 - 1) + 1 → far' = true) → Ev (fun k => laws_FnLayLong.j2 k L (lmax l m 0 L 0) far' (i : Int) (lBack l m i (L.getD i 0 - 1)) l m) true := by
        intro far' h1 h2
        refine Ev.cut (f := fun k => laws_FnLayLong.j3 k L (lmax l m 0 L 0) far' (i : Int) false l m) ?_ (fun k => ?_)
        · refine hnext far' h1 (fun _ => h2) _ (fun k => ?_)
          simp only [laws_FnLayLong.j3, Bool.false_eq_true, if_false, Option.bind_some, List.nil_append, List.length_nil, Nat.zero_add]
          rw [if_pos (by omega), if_pos (by omega), if_pos (by omega), rd_nat, hw, wsucc i (by omega)]
          rfl
        · simp only [laws_FnLayLong.j2]
          rw [if_neg (by omega), decide_eq_false (by omega)]
      by_cases hfar : far = true
      · refine Ev.cut (step3 true (fun _ => rfl) (fun _ => rfl)) (fun k => ?_)
        simp only [laws_FnLayLong.l0]
        rw [if_pos (by omega), if_pos (by omega), rd_nat, if_pos hp, wid (x := L.getD i 0 - 1) (by omega) (by omega), impl_LayBack_is, hy, Option.bind_some, if_pos hfar]
      · refine Ev.cut (step3 (lBack l m i (L.getD i 0 - 1) == lmax l m 0 L 0 - 1) (fun h => absurd h hfar) (fun h => by rw [h]; simp)) (fun k => ?_)
        simp only [laws_FnLayLong.l0]
        rw [if_pos (by omega), if_pos (by omega), rd_nat, if_pos hp, wid (x := L.getD i 0 - 1) (by omega) (by omega), impl_LayBack_is, hy, Option.bind_some, if_neg hfar, wid (x := lmax l m 0 L 0 - 1) (by omega) (by omega)]
    · refine hnext far (fun h => h) (fun h => absurd h hp) _ (fun k => ?_)
      simp only [laws_FnLayLong.l0]
      rw [if_pos (by omega), if_pos (by omega), rd_nat, if_neg hp]
      simp only [Option.bind_some, List.nil_append, List.length_nil, Nat.zero_add]
      rw [if_pos (by omega), if_pos (by omega), rd_nat, hw, wsucc i (by omega)]
      rfl

theorem FnLayLong (l0 : List Int) (hm0 : l0.length ≤ maxLen) (hw0 : ∀ x ∈ l0, (Lit.int .u8 x).wf = true) : ∃ k, laws_FnLayLong.f k l0 = some true := by
  have hm := hm0
  have hw := hw0
  by_cases h : (l0.length : Int) > 1048576
  · exact ⟨0, by unfold laws_FnLayLong.f; rw [if_pos h]⟩
  refine Ev.rounds (r := true) (g := fun k => laws_FnLayLong.f k l0) ?_
  unfold laws_FnLayLong.f
  simp only [if_neg h]
  obtain ⟨l, m, L, hd, hl⟩ := DrawLayLong_is l0 hw
  refine Ev.bind hd (Ev.bind (impl_LayLong_is l m L) (Ev.bind (spec_LayLong_is l m L) ?_))
  simp only [if_true]
  by_cases hn : lyLong l m L < 0
  · rw [decide_eq_true hn]
    refine Ev.cut (f := fun k => (spec_LayLong.f k l m L).bind fun t => some (lyLong l m L == t)) (Ev.bind (spec_LayLong_is l m L) (Ev.all fun k => by simp)) (fun k => ?_)
    simp only [laws_FnLayLong.j0, if_true]
  · rw [decide_eq_false hn]
    unfold lyLong at hn ⊢
    by_cases hc : laOk l m = true ∧ (L.length : Int) = m ∧ lens L = true
    · rw [if_pos hc] at hn ⊢
      by_cases h48 : lmax l m 0 L 0 > 48
      · rw [if_pos h48] at hn
        omega
      · rw [if_neg h48]
        refine Ev.cut (LayLong_loop hc.1 hc.2.1 hc.2.2 (by omega) L.length 0 false (by omega) (fun hz => ?_)) (fun k => ?_)
        · rcases lmax_hit l m L 0 0 with h | ⟨j, h1, h2, h3⟩
          · exact absurd h hz
          · rw [Int.zero_add] at h3
            exact .inr ⟨j, Nat.zero_le _, h1, h2, h3⟩
        · simp only [laws_FnLayLong.j0, Bool.false_eq_true, if_false]
          rfl
    · rw [if_neg hc] at hn
      omega

end Go.Proofs.Ytmiknhlogpoikaa.Pure
