/- The law FnLayCut over numbers and lists, as the program's text computes it: it answers true. Conditions: the arguments are of their kinds, lengths fit. -/
import Derived.Test.YtmiknhlogpoikaaQx20
import Derived.OpenShut
import Derived.Laws.Strings
namespace Go.Proofs.Ytmiknhlogpoikaa.Pure
open Go.RowKit Go.Proofs.Ytmiknhlogpoikaa.Q Go.Proofs.YtmiknhlogpoikaaW.PrintWords Go.Proofs.YtmiknhlogpoikaaW.PrintLast
set_option linter.unusedVariables false
set_option linter.unusedSimpArgs false

/-! Words for the pure side: strings as lists of bytes, counters as natural numbers, what is answered from some round on. -/
def B (s : ByteArray) : List UInt8 := s.data.toList
theorem B_size (s : ByteArray) : s.size = (B s).length := (Array.length_toList).symm
theorem B_toList (s : ByteArray) : s.toList = B s := Go.ByteArray.toList_eq s
theorem B_inj {s t : ByteArray} (h : B s = B t) : s = t := by
  cases s; cases t
  simp only [B] at h
  congr 1
  exact Array.ext' h
theorem B_app (s t : ByteArray) : B (s ++ t) = B s ++ B t := by simp [B, ByteArray.data_append]
theorem app_size (s t : ByteArray) : (s ++ t).size = s.size + t.size := by rw [B_size, B_app, List.length_append, ← B_size, ← B_size]
theorem B_ext (s : ByteArray) (i j : Nat) : B (s.extract i j) = ((B s).take j).drop i := by
  simp [B, ByteArray.data_extract, List.extract_eq_take_drop, List.drop_take]
theorem B_nil : B (⟨#[]⟩ : ByteArray) = [] := rfl
theorem bt_B (s : ByteArray) (i : Nat) (h : i < (B s).length) : bt s (i : Int) = (((B s)[i]'h).toNat : Int) := by
  have h' : (i : Int).toNat < s.size := by rw [B_size]; simpa using h
  unfold bt
  rw [dif_pos h']
  rfl
theorem wsucc (i : Nat) (h : i < 4611686018427387904) : wrap64 ((i : Int) + 1) = ((i + 1 : Nat) : Int) := by unfold wrap64; omega
theorem wpred (i : Nat) (h : i < 4611686018427387904) (h0 : 0 < i) : wrap64 ((i : Int) - 1) = ((i - 1 : Nat) : Int) := by unfold wrap64; omega
theorem wid {x : Int} (h0 : -9223372036854775808 ≤ x) (h1 : x ≤ 9223372036854775807) : wrap64 x = x := by unfold wrap64; omega
theorem Ev.cut {α : Type} {g f : Nat → Option α} {r : α} (k : Ev f r) (h : ∀ k, g (k + 1) = f k) : Ev g r := Ev.step h k
theorem Ev.end_ {α : Type} {g : Nat → Option α} {r : α} (h : ∀ k, g (k + 1) = some r) : Ev g r := Ev.step h (Ev.now r)
theorem Ev.all {α : Type} {g : Nat → Option α} {r : α} (h : ∀ k, g k = some r) : Ev g r := ⟨0, fun k _ => h k⟩
theorem Ev.uniq {α : Type} {g : Nat → Option α} {r q : α} (h : Ev g r) (h' : Ev g q) : r = q := by
  obtain ⟨K, h⟩ := h
  obtain ⟨K', h'⟩ := h'
  have h1 := h (max K K') (by omega)
  rw [h' (max K K') (by omega)] at h1
  exact (Option.some.inj h1).symm
theorem dec_eq {p q : Prop} [Decidable p] [Decidable q] (h : p ↔ q) : (some (decide p) : Option Bool) = some (decide q) := by rw [decide_eq_decide.2 h]
theorem dec_false {q : Prop} [Decidable q] (h : ¬ q) : (some false : Option Bool) = some (decide q) := by rw [decide_eq_false h]
theorem dec_true {q : Prop} [Decidable q] (h : q) : (some true : Option Bool) = some (decide q) := by rw [decide_eq_true h]

def mkB (L : List UInt8) : ByteArray := ⟨L.toArray⟩
theorem B_mkB (L : List UInt8) : B (mkB L) = L := by simp [B, mkB]
theorem eq_mkB {r : ByteArray} {X : List UInt8} (h : B r = X) : r = mkB X := B_inj (by rw [h, B_mkB])
theorem mkB_B (s : ByteArray) : mkB (B s) = s := (eq_mkB rfl).symm
theorem mkB_size (L : List UInt8) : (mkB L).size = L.length := by rw [B_size, B_mkB]

/-! Layouts, valid. -/
def laOk (a b : Int) : Bool := decide (1 ≤ a ∧ a ≤ 8 ∧ 1 ≤ b ∧ b ≤ 3)
theorem spec_LayOk_is (a b : Int) : spec_LayOk.f a b = some (laOk a b) := by
  unfold spec_LayOk.f laOk
  repeat' split
  all_goals first | exact dec_eq (by omega) | exact dec_false (by omega)
theorem impl_LayOk_is (a b : Int) : impl_LayOk.f a b = some (laOk a b) := by
  unfold impl_LayOk.f laOk
  repeat' split
  all_goals first | exact dec_eq (by omega) | exact dec_false (by omega)

/-! Where a place lies. -/
def lAt (l m p : Int) : Int × Int := (p / l % m, p / l / m * l + p % l)
theorem lAt_bounds {l m p : Int} (hl : 1 ≤ l) (hl8 : l ≤ 8) (hm : 1 ≤ m) (hm3 : m ≤ 3) (h0 : 0 ≤ p) (h1 : p < 100) : 0 ≤ (lAt l m p).1 ∧ (lAt l m p).1 < m ∧ 0 ≤ (lAt l m p).2 ∧ (lAt l m p).2 ≤ p := by
  have hq0 : 0 ≤ p / l := Int.ediv_nonneg h0 (by omega)
  have e1 : p / l * l + p % l = p := by rw [Int.mul_comm]; exact Int.mul_ediv_add_emod p l
  have r0 : 0 ≤ p % l := Int.emod_nonneg _ (by omega)
  have hq2 : 0 ≤ p / l / m := Int.ediv_nonneg hq0 (by omega)
  have hq3 : p / l / m ≤ p / l := Int.ediv_le_self _ hq0
  refine ⟨Int.emod_nonneg _ (by omega), Int.emod_lt_of_pos _ (by omega), ?_, ?_⟩
  · exact Int.add_nonneg (Int.mul_nonneg hq2 (by omega)) r0
  · have := Int.mul_le_mul_of_nonneg_right hq3 (show 0 ≤ l by omega)
    show p / l / m * l + p % l ≤ p
    omega
theorem lAt_words {l m p : Int} (hl : 1 ≤ l) (hl8 : l ≤ 8) (hm : 1 ≤ m) (hm3 : m ≤ 3) (h0 : 0 ≤ p) (h1 : p < 100) :
    Int.tmod (wrap64 (Int.tdiv p l)) m = (lAt l m p).1 ∧ wrap64 ((wrap64 ((wrap64 (Int.tdiv (wrap64 (Int.tdiv p l)) m)) * l)) + (Int.tmod p l)) = (lAt l m p).2 := by
  have hq0 : 0 ≤ p / l := Int.ediv_nonneg h0 (by omega)
  have hqp : p / l ≤ p := Int.ediv_le_self _ h0
  have hq2 : 0 ≤ p / l / m := Int.ediv_nonneg hq0 (by omega)
  have hq3 : p / l / m ≤ p / l := Int.ediv_le_self _ hq0
  have r0 : 0 ≤ p % l := Int.emod_nonneg _ (by omega)
  have r1 : p % l < l := Int.emod_lt_of_pos _ (by omega)
  have m0 : 0 ≤ p / l / m * l := Int.mul_nonneg hq2 (by omega)
  have m1 : p / l / m * l ≤ 100 * 8 := Int.mul_le_mul (by omega) hl8 (by omega) (by omega)
  rw [Int.tdiv_eq_ediv_of_nonneg h0, wid (x := p / l) (by omega) (by omega), Int.tmod_eq_emod_of_nonneg hq0, Int.tdiv_eq_ediv_of_nonneg hq0, wid (x := p / l / m) (by omega) (by omega), wid (x := p / l / m * l) (by omega) (by omega), Int.tmod_eq_emod_of_nonneg h0, wid (by omega) (by omega)]
  exact ⟨rfl, rfl⟩
def lyAt (l m p : Int) : Int × Int := if laOk l m = true ∧ 0 ≤ p ∧ p < 48 then lAt l m p else (-1, -1)
theorem spec_l3At_is {l m p : Int} (hl : 1 ≤ l) (hl8 : l ≤ 8) (hm : 1 ≤ m) (hm3 : m ≤ 3) (h0 : 0 ≤ p) (h1 : p < 100) : spec_l3At.f l m p = some (lAt l m p) := by
  unfold spec_l3At.f
  obtain ⟨e1, e2⟩ := lAt_words hl hl8 hm hm3 h0 h1
  rw [if_neg (by omega), if_neg (by omega), e1, e2]

theorem impl_LayAt_is (l m p : Int) : impl_LayAt.f l m p = some (lyAt l m p) := by
  unfold impl_LayAt.f lyAt
  rw [impl_LayOk_is]
  cases h : laOk l m with
  | false => simp
  | true =>
    have h' := of_decide_eq_true h
    simp only [Option.bind_some, if_true]
    by_cases h0 : p < 0
    · rw [if_pos h0, if_neg (by omega)]
    · rw [if_neg h0]
      by_cases h1 : p ≥ 48
      · rw [if_pos h1, if_neg (by omega)]
      · obtain ⟨e1, e2⟩ := lAt_words (l := l) (m := m) (p := p) (by omega) (by omega) (by omega) (by omega) (by omega) (by omega)
        rw [if_neg h1, if_neg (show ¬ l = 0 by omega), if_neg (show ¬ m = 0 by omega), e1, e2, if_pos ⟨trivial, by omega, by omega⟩]

/-! Files, valid. -/
def cOk (c : UInt8) : Bool := decide (c.toNat = 46 ∨ (97 ≤ c.toNat ∧ c.toNat ≤ 122) ∨ (48 ≤ c.toNat ∧ c.toNat ≤ 57))
def tOk (l : List UInt8) : Bool := l.all cOk && decide (l.length ≤ 48)
theorem spec_l2Byte_is (c : UInt8) : spec_l2Byte.f (c.toNat : Int) = some (cOk c) := by
  unfold spec_l2Byte.f cOk
  repeat' split
  all_goals first | exact dec_true (by omega) | exact dec_eq (by omega) | exact dec_false (by omega)
theorem all_drop (l : List UInt8) (i : Nat) (h : i < l.length) : (l.drop i).all cOk = (cOk l[i] && (l.drop (i + 1)).all cOk) := by
  rw [List.drop_eq_getElem_cons h, List.all_cons]
theorem spec_TextOk_l (s : ByteArray) (hs : s.size < 4611686018427387904) : ∀ (d i : Nat), i + d = (B s).length → Ev (fun k => spec_TextOk.l0 k s (i : Int)) ((((B s).drop i).all cOk) && decide ((B s).length ≤ 48)) := by
  have hz : (s.size : Int) = ((B s).length : Int) := by rw [B_size]
  have hs' : (B s).length < 4611686018427387904 := by rw [← B_size]; exact hs
  intro d
  induction d with
  | zero =>
    intro i hi
    refine Ev.end_ (fun k => ?_)
    simp only [spec_TextOk.l0]
    rw [hz, if_neg (by omega), List.drop_of_length_le (by omega)]
    simp
    omega
  | succ d ih =>
    intro i hi
    have hlt : i < (B s).length := by omega
    have hr : (((B s).drop i).all cOk) = (cOk ((B s)[i]) && ((B s).drop (i + 1)).all cOk) := all_drop _ _ hlt
    rw [hr]
    cases hc : cOk ((B s)[i]) with
    | true =>
      refine Ev.cut (f := fun k => spec_TextOk.l0 k s ((i + 1 : Nat) : Int)) ?_ (fun k => ?_)
      · simpa using ih (i + 1) (by omega)
      · simp only [spec_TextOk.l0]
        rw [hz, if_pos (by omega), if_pos (by omega), bt_B s i hlt, spec_l2Byte_is, wsucc i (by omega), hc]
        rfl
    | false =>
      refine Ev.end_ (fun k => ?_)
      simp only [spec_TextOk.l0]
      rw [hz, if_pos (by omega), if_pos (by omega), bt_B s i hlt, spec_l2Byte_is, hc]
      simp
theorem spec_TextOk_is (s : ByteArray) (hs : s.size < 4611686018427387904) : Ev (fun k => spec_TextOk.f k s) (tOk (B s)) := by
  have h := spec_TextOk_l s hs (B s).length 0 (by omega)
  simpa [spec_TextOk.f, tOk] using h
theorem impl_TextOk_l (s : ByteArray) (hs : s.size < 4611686018427387904) : ∀ (d i : Nat), i + d = (B s).length → Ev (fun k => impl_TextOk.l0 k s (s.size : Int) (i : Int)) ((((B s).drop i).all cOk) && decide ((B s).length ≤ 48)) := by
  have hz : (s.size : Int) = ((B s).length : Int) := by rw [B_size]
  have hs' : (B s).length < 4611686018427387904 := by rw [← B_size]; exact hs
  intro d
  induction d with
  | zero =>
    intro i hi
    refine Ev.end_ (fun k => ?_)
    simp only [impl_TextOk.l0]
    rw [hz, if_neg (by omega), List.drop_of_length_le (by omega)]
    simp
    omega
  | succ d ih =>
    intro i hi
    have hlt : i < (B s).length := by omega
    have hr : (((B s).drop i).all cOk) = (cOk ((B s)[i]) && ((B s).drop (i + 1)).all cOk) := all_drop _ _ hlt
    rw [hr]
    cases hc : cOk ((B s)[i]) with
    | true =>
      have hc' := of_decide_eq_true hc
      refine Ev.cut (f := fun k => impl_TextOk.l0 k s (s.size : Int) ((i + 1 : Nat) : Int)) ?_ (fun k => ?_)
      · simpa using ih (i + 1) (by omega)
      · simp only [impl_TextOk.l0]
        rw [if_pos (by omega), if_pos (by omega), if_pos (by omega), bt_B s i hlt, wsucc i (by omega)]
        repeat' split
        all_goals first | rfl | (exfalso; omega)
    | false =>
      have hc' := of_decide_eq_false hc
      refine Ev.end_ (fun k => ?_)
      simp only [impl_TextOk.l0]
      rw [if_pos (by omega), if_pos (by omega), if_pos (by omega), bt_B s i hlt]
      simp only [Bool.false_and]
      repeat' split
      all_goals first | rfl | (exfalso; omega)
theorem impl_TextOk_is (s : ByteArray) (hs : s.size < 4611686018427387904) : Ev (fun k => impl_TextOk.f k s) (tOk (B s)) := by
  have h := impl_TextOk_l s hs (B s).length 0 (by omega)
  simpa [impl_TextOk.f, tOk] using h

theorem tOk_len {L : List UInt8} (h : tOk L = true) : L.length ≤ 48 := by
  simp [tOk] at h
  exact h.2

theorem getD_lt (L : List UInt8) (i : Nat) (h : i < L.length) : L[i]? = some (L.getD i 46) := by
  rw [List.getD_eq_getElem?_getD, List.getElem?_eq_getElem h]
  rfl
theorem getD_ge (L : List UInt8) (i : Nat) (h : ¬ i < L.length) : L.getD i 46 = 46 := by
  rw [List.getD_eq_getElem?_getD, List.getElem?_eq_none (by omega)]
  rfl
theorem tOk_iff {L : List UInt8} : tOk L = true ↔ (∀ x ∈ L, cOk x = true) ∧ L.length ≤ 48 := by
  unfold tOk
  rw [Bool.and_eq_true, List.all_eq_true, decide_eq_true_iff]
theorem bt_get {s : ByteArray} {i : Nat} {x : UInt8} (h : (B s)[i]? = some x) : bt s (i : Int) = (x.toNat : Int) := by
  have hl := (List.getElem?_eq_some_iff.1 h).1
  rw [bt_B s i hl, (List.getElem?_eq_some_iff.1 h).2]

/-! Files that are one place by place. -/
theorem ext_getD {L M : List UInt8} (h : L.length = M.length) (g : ∀ i, L.getD i 46 = M.getD i 46) : L = M := by
  apply List.ext_getElem?
  intro i
  by_cases hi : i < L.length
  · rw [getD_lt L i hi, getD_lt M i (by omega), g]
  · rw [List.getElem?_eq_none (by omega), List.getElem?_eq_none (by omega)]

theorem one_size (s : ByteArray) (i : Nat) : (s.extract i (i + 1)).size ≤ 1 := by
  rw [B_size, B_ext, List.length_drop, List.length_take]
  omega

/-! A file, dealt to its objects. -/
def deal (l m : Int) (s : ByteArray) (out : List ByteArray) (i : Nat) : List ByteArray := out.set (lAt l m i).1.toNat (rdOf ByteArray.empty out (lAt l m i).1 ++ s.extract i (i + 1))
def lyOf (l m : Int) (s : ByteArray) : List ByteArray := if laOk l m = true ∧ tOk (B s) = true then (List.range' 0 s.size).foldl (deal l m s) (List.replicate m.toNat (⟨#[]⟩ : ByteArray)) else []
theorem deal_length (l m : Int) (s : ByteArray) (out : List ByteArray) (i : Nat) : (deal l m s out i).length = out.length := by simp [deal]
theorem rdOf_size {out : List ByteArray} {i n : Nat} (h : ∀ x ∈ out, x.size ≤ n) : (rdOf ByteArray.empty out (i : Int)).size ≤ n := by
  unfold rdOf
  rw [show (i : Int).toNat = i from rfl, List.getD_eq_getElem?_getD]
  cases e : out[i]? with
  | none => simp
  | some x => exact h x (List.mem_of_getElem? e)
theorem deal_sizes {l m : Int} {s : ByteArray} {out : List ByteArray} {i : Nat} (h : ∀ x ∈ out, x.size ≤ i) (h0 : 0 ≤ (lAt l m i).1) : ∀ x ∈ deal l m s out i, x.size ≤ i + 1 := by
  intro x hx
  unfold deal at hx
  rcases List.mem_or_eq_of_mem_set hx with hx | rfl
  · exact Nat.le_succ_of_le (h x hx)
  · have h1 := one_size s i
    have h2 := rdOf_size (i := (lAt l m i).1.toNat) h
    rw [Int.toNat_of_nonneg h0] at h2
    rw [B_size, B_app, List.length_append, ← B_size, ← B_size]
    omega
theorem spec_LayOf_l1 {l m : Int} (hl : 1 ≤ l) (hl8 : l ≤ 8) (hm : 1 ≤ m) (hm3 : m ≤ 3) (s : ByteArray) (hs : s.size ≤ 48) : ∀ (d i : Nat) (out : List ByteArray), i + d = s.size → (out.length : Int) = m → (∀ x ∈ out, x.size ≤ i) →
    Ev (fun k => spec_LayOf.l1 k s out (i : Int) l m) ((List.range' i d).foldl (deal l m s) out) := by
  intro d
  induction d with
  | zero =>
    intro i out hi hm' hx
    refine Ev.end_ (fun k => ?_)
    simp only [spec_LayOf.l1]
    rw [if_neg (by omega)]
    rfl
  | succ d ih =>
    intro i out hi hm' hx
    obtain ⟨b1, b2, b3, b4⟩ := lAt_bounds (l := l) (m := m) (p := i) hl hl8 hm hm3 (by omega) (by omega)
    have z1 := one_size s i
    have z2 := rdOf_size (i := (lAt l m i).1.toNat) hx
    rw [Int.toNat_of_nonneg b1] at z2
    rw [List.range'_succ, List.foldl_cons]
    refine Ev.cut (f := fun k => spec_LayOf.l1 k s (deal l m s out i) ((i + 1 : Nat) : Int) l m) (ih (i + 1) _ (by omega) (by rw [deal_length]; exact hm') (deal_sizes hx b1)) (fun k => ?_)
    simp only [spec_LayOf.l1]
    rw [if_pos (by omega), spec_l3At_is hl hl8 hm hm3 (by omega) (by omega)]
    simp only [Option.bind_some]
    rw [if_pos b1, if_pos (by omega), if_pos (by omega), wsucc i (by omega), if_pos (by omega), if_pos (by omega), if_pos ?_]
    · rfl
    · show (rdOf ByteArray.empty out (lAt l m i).1).size + (s.extract i (i + 1)).size ≤ _
      omega
theorem spec_LayOf_l0 {l m : Int} (hl : 1 ≤ l) (hl8 : l ≤ 8) (hm : 1 ≤ m) (hm3 : m ≤ 3) (s : ByteArray) (hs : s.size ≤ 48) : ∀ (d i : Nat), (i : Int) + d = m →
    Ev (fun k => spec_LayOf.l0 k s (List.replicate i (⟨#[]⟩ : ByteArray)) (i : Int) l m) ((List.range' 0 s.size).foldl (deal l m s) (List.replicate m.toNat (⟨#[]⟩ : ByteArray))) := by
  intro d
  induction d with
  | zero =>
    intro i hi
    obtain rfl : m.toNat = i := by omega
    refine Ev.cut (f := fun k => spec_LayOf.l1 k s (List.replicate m.toNat (⟨#[]⟩ : ByteArray)) ((0 : Nat) : Int) l m) (spec_LayOf_l1 hl hl8 hm hm3 s hs s.size 0 _ (by omega) (by simp; omega) (fun x hx => by rw [List.eq_of_mem_replicate hx]; exact Nat.le_refl _)) (fun k => ?_)
    simp only [spec_LayOf.l0]
    rw [if_neg (by omega)]
    rfl
  | succ d ih =>
    intro i hi
    refine Ev.cut (f := fun k => spec_LayOf.l0 k s (List.replicate (i + 1) (⟨#[]⟩ : ByteArray)) ((i + 1 : Nat) : Int) l m) (ih (i + 1) (by omega)) (fun k => ?_)
    simp only [spec_LayOf.l0]
    rw [if_pos (by omega), if_pos (by simp; omega), wsucc i (by omega), ← List.replicate_succ']
theorem spec_LayOf_is (l m : Int) (s : ByteArray) (hz : s.size < 4611686018427387904) : Ev (fun k => spec_LayOf.f k l m s) (lyOf l m s) := by
  unfold spec_LayOf.f lyOf
  simp only [Option.bind_some, spec_LayOk_is]
  cases h : laOk l m with
  | false => exact Ev.end_ (fun k => by simp [spec_LayOf.j0])
  | true =>
    have h' := of_decide_eq_true h
    simp only [if_true]
    refine Ev.bind (spec_TextOk_is s hz) ?_
    cases ht : tOk (B s) with
    | false => exact Ev.end_ (fun k => by simp [spec_LayOf.j0])
    | true =>
      have hs : s.size ≤ 48 := by rw [B_size]; simp [tOk] at ht; exact ht.2
      simp only [true_and, if_true]
      refine Ev.cut (f := fun k => spec_LayOf.l0 k s (List.replicate 0 (⟨#[]⟩ : ByteArray)) ((0 : Nat) : Int) l m) (spec_LayOf_l0 (by omega) (by omega) (by omega) (by omega) s hs m.toNat 0 (by omega)) (fun k => ?_)
      simp [spec_LayOf.j0]
theorem impl_LayOf_l0 {l m : Int} (hl : 1 ≤ l) (hl8 : l ≤ 8) (hm : 1 ≤ m) (hm3 : m ≤ 3) (s : ByteArray) (hs : s.size ≤ 48) : ∀ (d i : Nat) (out : List ByteArray), i + d = s.size → (out.length : Int) = m → (∀ x ∈ out, x.size ≤ i) →
    Ev (fun k => impl_LayOf.l0 k s out (s.size : Int) (i : Int) l m) ((List.range' i d).foldl (deal l m s) out) := by
  have ho : laOk l m = true := decide_eq_true ⟨hl, hl8, hm, hm3⟩
  intro d
  induction d with
  | zero =>
    intro i out hi hm' hx
    refine Ev.end_ (fun k => ?_)
    simp only [impl_LayOf.l0]
    rw [if_neg (by omega)]
    rfl
  | succ d ih =>
    intro i out hi hm' hx
    obtain ⟨b1, b2, b3, b4⟩ := lAt_bounds (l := l) (m := m) (p := i) hl hl8 hm hm3 (by omega) (by omega)
    have z1 := one_size s i
    have z2 := rdOf_size (i := (lAt l m i).1.toNat) hx
    rw [Int.toNat_of_nonneg b1] at z2
    rw [List.range'_succ, List.foldl_cons]
    refine Ev.cut (f := fun k => impl_LayOf.l0 k s (deal l m s out i) (s.size : Int) ((i + 1 : Nat) : Int) l m) (ih (i + 1) _ (by omega) (by rw [deal_length]; exact hm') (deal_sizes hx b1)) (fun k => ?_)
    simp only [impl_LayOf.l0]
    have hy : lyAt l m (i : Int) = lAt l m (i : Int) := if_pos ⟨ho, by omega, by omega⟩
    rw [if_pos (by omega), impl_LayAt_is, hy]
    simp only [Option.bind_some]
    rw [if_pos b1, if_pos (by omega), if_pos (by omega), wsucc i (by omega), if_pos (by omega), if_pos (by omega), if_pos ?_]
    · rfl
    · show (rdOf ByteArray.empty out (lAt l m i).1).size + (s.extract i (i + 1)).size ≤ _
      omega
theorem impl_LayOf_is (l m : Int) (s : ByteArray) (hz : s.size < 4611686018427387904) : Ev (fun k => impl_LayOf.f k l m s) (lyOf l m s) := by
  unfold impl_LayOf.f lyOf
  simp only [impl_LayOk_is, Option.bind_some]
  cases h : laOk l m with
  | false => exact Ev.end_ (fun k => by simp [impl_LayOf.j0])
  | true =>
    have h' := of_decide_eq_true h
    simp only [if_true]
    refine Ev.bind (impl_TextOk_is s hz) ?_
    cases ht : tOk (B s) with
    | false => exact Ev.end_ (fun k => by simp [impl_LayOf.j0])
    | true =>
      have hs : s.size ≤ 48 := by rw [B_size]; simp [tOk] at ht; exact ht.2
      simp only [true_and, if_true]
      refine Ev.cut (f := fun k => impl_LayOf.l0 k s (List.replicate m.toNat (⟨#[]⟩ : ByteArray)) (s.size : Int) ((0 : Nat) : Int) l m) (impl_LayOf_l0 (by omega) (by omega) (by omega) (by omega) s hs s.size 0 _ (by omega) (by simp; omega) (fun x hx => by rw [List.eq_of_mem_replicate hx]; exact Nat.le_refl _)) (fun k => ?_)
      simp only [impl_LayOf.j0]
      rw [if_neg (by simp), if_pos (by omega), if_pos (by omega)]
      rfl
theorem lyOf_small (l m : Int) (s : ByteArray) : (lyOf l m s).length ≤ 3 := by
  unfold lyOf
  split
  · rename_i h
    have h' := of_decide_eq_true h.1
    have : ∀ (L : List Nat) (out : List ByteArray), (L.foldl (deal l m s) out).length = out.length := by
      intro L
      induction L with
      | nil => intro out; rfl
      | cons a L ih => intro out; rw [List.foldl_cons, ih, deal_length]
    rw [this]
    simp
    omega
  · simp

/-! Facts on layouts that are few enough to be looked at one by one. -/
theorem lay_all (Q : Int → Int → Int → Prop) [∀ a b c, Decidable (Q a b c)] (h : ∀ l : Fin 8, ∀ m : Fin 3, ∀ p : Fin 50, Q (((l.val + 1 : Nat) : Int)) (((m.val + 1 : Nat) : Int)) ((p.val : Nat) : Int)) {l m p : Int} (hl : 1 ≤ l) (hl8 : l ≤ 8) (hm : 1 ≤ m) (hm3 : m ≤ 3) (h0 : 0 ≤ p) (h1 : p < 50) : Q l m p := by
  have e1 : (((⟨(l - 1).toNat, by omega⟩ : Fin 8).val + 1 : Nat) : Int) = l := by show (((l - 1).toNat + 1 : Nat) : Int) = l; omega
  have e2 : (((⟨(m - 1).toNat, by omega⟩ : Fin 3).val + 1 : Nat) : Int) = m := by show (((m - 1).toNat + 1 : Nat) : Int) = m; omega
  have e3 : (((⟨p.toNat, by omega⟩ : Fin 50).val : Nat) : Int) = p := by show ((p.toNat : Nat) : Int) = p; omega
  have := h ⟨(l - 1).toNat, by omega⟩ ⟨(m - 1).toNat, by omega⟩ ⟨p.toNat, by omega⟩
  rwa [e1, e2, e3] at this

/-! What lies on each object. -/
def onObj (l m : Int) (o : Int) (n : Nat) : List Nat := (List.range n).filter fun p => decide ((lAt l m (p : Int)).1 = o)
def objL (l m : Int) (L : List UInt8) (o : Int) (n : Nat) : List UInt8 := (onObj l m o n).map fun p => L.getD p 46
theorem onObj_succ (l m o : Int) (n : Nat) : onObj l m o (n + 1) = onObj l m o n ++ (if (lAt l m (n : Int)).1 = o then [n] else []) := by
  unfold onObj
  rw [List.range_succ, List.filter_append]
  congr 1
  by_cases h : (lAt l m (n : Int)).1 = o
  · rw [if_pos h]; simp [h]
  · rw [if_neg h]; simp [h]
theorem onObj_add (l m o : Int) (n : Nat) : ∀ d, ∃ r, onObj l m o (n + d) = onObj l m o n ++ r := by
  intro d
  induction d with
  | zero => exact ⟨[], by simp⟩
  | succ d ih =>
    obtain ⟨r, hr⟩ := ih
    exact ⟨r ++ (if (lAt l m ((n + d : Nat) : Int)).1 = o then [n + d] else []), by rw [← Nat.add_assoc, onObj_succ, hr, List.append_assoc]⟩
theorem onObj_lt {l m o : Int} {n p : Nat} (h : p ∈ onObj l m o n) : p < n := by
  unfold onObj at h
  exact List.mem_range.1 (List.mem_filter.1 h).1
theorem obj_count {l m p : Int} (hl : 1 ≤ l) (hl8 : l ≤ 8) (hm : 1 ≤ m) (hm3 : m ≤ 3) (h0 : 0 ≤ p) (h1 : p < 50) : (onObj l m (lAt l m p).1 p.toNat).length = (lAt l m p).2.toNat :=
  lay_all (fun l m p => (onObj l m (lAt l m p).1 p.toNat).length = (lAt l m p).2.toNat) (by decide +kernel) hl hl8 hm hm3 h0 h1
theorem obj_at {l m : Int} (hl : 1 ≤ l) (hl8 : l ≤ 8) (hm : 1 ≤ m) (hm3 : m ≤ 3) {p n : Nat} (hp : p < n) (hn : p < 50) : (onObj l m (lAt l m p).1 n)[(lAt l m p).2.toNat]? = some p := by
  obtain ⟨r, hr⟩ := onObj_add l m (lAt l m p).1 (p + 1) (n - (p + 1))
  rw [show p + 1 + (n - (p + 1)) = n by omega, onObj_succ, if_pos rfl] at hr
  have hc := obj_count (p := p) hl hl8 hm hm3 (by omega) (by omega)
  rw [Int.toNat_natCast] at hc
  rw [hr, List.append_assoc, List.getElem?_append_right (by omega), hc, Nat.sub_self]
  rfl
theorem deal_inv {l m : Int} (hl : 1 ≤ l) (hl8 : l ≤ 8) (hm : 1 ≤ m) (hm3 : m ≤ 3) (s : ByteArray) (hs : s.size ≤ 48) : ∀ (d i : Nat) (out : List ByteArray), i + d = s.size → (out.length : Int) = m → (∀ o : Nat, (o : Int) < m → B (out.getD o ByteArray.empty) = objL l m (B s) (o : Int) i) →
    (((List.range' i d).foldl (deal l m s) out).length : Int) = m ∧ ∀ o : Nat, (o : Int) < m → B (((List.range' i d).foldl (deal l m s) out).getD o ByteArray.empty) = objL l m (B s) (o : Int) s.size := by
  intro d
  induction d with
  | zero =>
    intro i out hi hlen h
    obtain rfl : i = s.size := by omega
    exact ⟨hlen, h⟩
  | succ d ih =>
    intro i out hi hlen h
    rw [List.range'_succ, List.foldl_cons]
    obtain ⟨b1, b2, b3, b4⟩ := lAt_bounds (l := l) (m := m) (p := i) hl hl8 hm hm3 (by omega) (by omega)
    refine ih (i + 1) _ (by omega) (by rw [deal_length]; exact hlen) (fun o ho => ?_)
    have hil : i < (B s).length := by rw [← B_size]; omega
    have hone : B (s.extract i (i + 1)) = [(B s).getD i 46] := by
      rw [B_ext, List.drop_take, show i + 1 - i = 1 by omega, List.drop_eq_getElem_cons hil, List.getD_eq_getElem?_getD, List.getElem?_eq_getElem hil]
      rfl
    unfold objL
    rw [onObj_succ, List.map_append]
    unfold deal
    rw [List.getD_eq_getElem?_getD]
    by_cases e : (lAt l m (i : Int)).1 = (o : Int)
    · rw [if_pos e, e, Int.toNat_natCast, List.getElem?_set_self (by omega)]
      show B (rdOf ByteArray.empty out (o : Int) ++ s.extract i (i + 1)) = _
      rw [B_app, hone]
      have := h o ho
      unfold objL at this
      rw [← this]
      rfl
    · rw [if_neg e, List.getElem?_set_ne (by omega), List.map_nil, List.append_nil, ← List.getD_eq_getElem?_getD]
      exact h o ho
theorem lyOf_objs {l m : Int} (hk : laOk l m = true) (s : ByteArray) (ht : tOk (B s) = true) : ((lyOf l m s).length : Int) = m ∧ ∀ o : Nat, (o : Int) < m → B ((lyOf l m s).getD o ByteArray.empty) = objL l m (B s) (o : Int) (B s).length := by
  have hok := of_decide_eq_true hk
  have hs : s.size ≤ 48 := by rw [B_size]; exact (tOk_len ht)
  unfold lyOf
  rw [if_pos ⟨hk, ht⟩]
  have h := deal_inv (l := l) (m := m) (by omega) (by omega) (by omega) (by omega) s hs s.size 0 (List.replicate m.toNat (⟨#[]⟩ : ByteArray)) (by omega) (by rw [List.length_replicate]; omega) (fun o ho => by
    rw [List.getD_eq_getElem?_getD, List.getElem?_replicate, if_pos (by omega)]
    rfl)
  rw [← B_size]
  exact h
theorem objL_len (l m : Int) (L : List UInt8) (o : Int) (n : Nat) : (objL l m L o n).length = (onObj l m o n).length := by simp [objL]
theorem objL_tOk {l m : Int} {L : List UInt8} {o : Int} (h : tOk L = true) : tOk (objL l m L o L.length) = true := by
  obtain ⟨h1, h2⟩ := tOk_iff.1 h
  refine tOk_iff.2 ⟨fun x hx => ?_, ?_⟩
  · obtain ⟨p, hp, rfl⟩ := List.mem_map.1 hx
    have hlt := onObj_lt hp
    rw [List.getD_eq_getElem?_getD, List.getElem?_eq_getElem hlt]
    exact h1 _ (List.getElem_mem hlt)
  · rw [objL_len]
    unfold onObj
    have := List.length_filter_le (fun p => decide ((lAt l m ((p : Nat) : Int)).1 = o)) (List.range L.length)
    rw [List.length_range] at this
    omega

theorem wpTexts3_l (L : List ByteArray) (hL : L.length < 4611686018427387904) : ∀ (d i : Nat), i + d = L.length → Ev (fun k => laws_wpTexts3.l0 k L L (i : Int)) true := by
  intro d
  induction d with
  | zero =>
    intro i hi
    refine Ev.end_ (fun k => ?_)
    simp only [laws_wpTexts3.l0]
    rw [if_neg (by omega)]
  | succ d ih =>
    intro i hi
    refine Ev.cut (f := fun k => laws_wpTexts3.l0 k L L ((i + 1 : Nat) : Int)) (ih (i + 1) (by omega)) (fun k => ?_)
    simp only [laws_wpTexts3.l0]
    rw [if_pos (by omega), if_pos (by omega), if_pos (by omega), wsucc i (by omega)]
    simp
theorem wpTexts3_refl (L : List ByteArray) (hL : L.length < 4611686018427387904) : Ev (fun k => laws_wpTexts3.f k L L) true := by
  unfold laws_wpTexts3.f
  simp only [if_true]
  exact wpTexts3_l L hL L.length 0 (by omega)

/-! A file made longer. -/
def padL (L : List UInt8) (n : Nat) : List UInt8 := L ++ List.replicate (n - L.length) 46
theorem padL_length (L : List UInt8) (n : Nat) : (padL L n).length = max L.length n := by simp [padL]; omega
theorem padL_short (L : List UInt8) (n : Nat) (h : n ≤ L.length) : padL L n = L := by simp [padL, Nat.sub_eq_zero_of_le h]
theorem l2Long_l : ∀ (d : Nat) (s : ByteArray) (n : Int), n.toNat - (B s).length = d → s.size < 4611686018427387904 → n < 4611686018427387904 → Ev (fun k => spec_l2Long.l0 k s n) (mkB (padL (B s) n.toNat)) := by
  intro d
  induction d with
  | zero =>
    intro s n hd hs hn
    refine Ev.end_ (fun k => ?_)
    simp only [spec_l2Long.l0]
    rw [if_neg (by rw [B_size]; omega), padL_short _ _ (by omega), mkB_B]
  | succ d ih =>
    intro s n hd hs hn
    have hb : B (s ++ (⟨#[46]⟩ : ByteArray)) = B s ++ [46] := by rw [B_app]; rfl
    have hz : (B s).length = s.size := (B_size s).symm
    have h := ih (s ++ (⟨#[46]⟩ : ByteArray)) n (by rw [hb]; simp; omega) (by rw [B_size, hb]; simp; omega) hn
    have e : padL (B (s ++ (⟨#[46]⟩ : ByteArray))) n.toNat = padL (B s) n.toNat := by
      rw [hb]
      unfold padL
      rw [List.append_assoc, List.length_append]
      congr 1
      rw [show n.toNat - (B s).length = (n.toNat - ((B s).length + [46].length)) + 1 by simp; omega, List.replicate_succ]
      rfl
    rw [e] at h
    refine Ev.cut h (fun k => ?_)
    simp only [spec_l2Long.l0]
    rw [if_pos (by rw [B_size]; omega), if_pos (by omega)]
theorem l2Long_is (s : ByteArray) (n : Int) (hs : s.size < 4611686018427387904) (hn : n < 4611686018427387904) : Ev (fun k => spec_l2Long.f k s n) (mkB (padL (B s) n.toNat)) := l2Long_l _ s n rfl hs hn

/-! The reader of draws. -/
def RB (b : List Int) : Prop := b.length ≤ 2000 ∧ ∀ x ∈ b, 0 ≤ x ∧ x ≤ 255
theorem rd_byte {b : List Int} (hb : RB b) (i : Int) : 0 ≤ rd b i ∧ rd b i ≤ 255 := by
  unfold rd
  rw [List.getD_eq_getElem?_getD]
  cases e : b[i.toNat]? with
  | none => simp
  | some x => exact hb.2 x (List.mem_of_getElem? e)
theorem open_is (l : List Int) (hw : ∀ x ∈ l, (Lit.int .u8 x).wf = true) : ∃ b, spec_l10Open.f l = some (b, 0) ∧ RB b := by
  have h : ∀ x ∈ l, 0 ≤ x ∧ x ≤ 255 := fun x hx => bounds_u8 (hw x hx)
  unfold spec_l10Open.f
  by_cases hl : (l.length : Int) > 2000
  · rw [if_pos hl, if_pos (by omega)]
    exact ⟨_, rfl, by rw [List.length_take]; omega, fun x hx => h x (List.mem_of_mem_take hx)⟩
  · rw [if_neg hl]
    exact ⟨_, rfl, by omega, h⟩
theorem xor_nonneg (a b : Int) (ha0 : 0 ≤ a) (ha : a < 1152921504606846976) (hb0 : 0 ≤ b) (hb : b < 1152921504606846976) : 0 ≤ Go.bits .xor .i64 a b := by
  obtain ⟨m, rfl⟩ := Int.eq_ofNat_of_zero_le ha0
  obtain ⟨n, rfl⟩ := Int.eq_ofNat_of_zero_le hb0
  have hm : m < 2 ^ 60 := by omega
  have hn : n < 2 ^ 60 := by omega
  have hx : m ^^^ n < 2 ^ 60 := Nat.xor_lt_two_pow hm hn
  have hm' : m % 2 ^ IntKind.i64.bits = m := Nat.mod_eq_of_lt (show m < 2 ^ 64 by omega)
  have hn' : n % 2 ^ IntKind.i64.bits = n := Nat.mod_eq_of_lt (show n < 2 ^ 64 by omega)
  have e : Go.bits .xor .i64 (m : Int) (n : Int) = IntKind.i64.wrap ((m ^^^ n : Nat) : Int) := by
    simp only [bits, BitVec.ofInt_natCast, BitVec.toNat_xor, BitVec.toNat_ofNat, hm', hn']
  rw [e, IntKind.wrap_i64]
  omega
theorem pick_is {b : List Int} (hb : RB b) (p n : Int) (h0 : 0 ≤ p) (h1 : p ≤ 1099511627776) (hn1 : 1 ≤ n) : ∃ v, Ev (fun k => spec_l10Rd_pick.f k b p n) (v, p + 1) ∧ 0 ≤ v ∧ v < n := by
  have e1 : wrap64 (p + 1) = p + 1 := wid (by omega) (by omega)
  have e2 : wrap64 (p + 1 - 1) = p := by rw [show p + 1 - 1 = p by omega]; exact wid (by omega) (by omega)
  have hl := hb.1
  by_cases hz : (b.length : Int) = 0
  · refine ⟨0, Ev.end_ (fun k => ?_), by omega, by omega⟩
    unfold spec_l10Rd_pick.f
    rw [if_neg (by omega), e1]
    simp only [spec_l10Rd_pick.j0]
    rw [if_pos (by simpa using hz)]
  · by_cases hlt : p < (b.length : Int)
    · have hr := rd_byte hb p
      refine ⟨Int.tmod (rd b p) n, Ev.end_ (fun k => ?_), ?_, ?_⟩
      · unfold spec_l10Rd_pick.f
        rw [if_neg (by omega), e1]
        simp only [spec_l10Rd_pick.j0]
        rw [if_neg (by simpa using hz), e2, if_pos hlt, if_pos h0, if_neg (by omega), wid (by omega) (by omega)]
      · rw [Int.tmod_eq_emod_of_nonneg hr.1]; exact Int.emod_nonneg _ (by omega)
      · rw [Int.tmod_eq_emod_of_nonneg hr.1]; exact Int.emod_lt_of_pos _ (by omega)
    · have e3 : wrap64 (p * 7) = p * 7 := wid (by omega) (by omega)
      have e4 : wrap64 (p * 7 + 3) = p * 7 + 3 := wid (by omega) (by omega)
      have q0 : 0 ≤ p % (b.length : Int) := Int.emod_nonneg _ hz
      have q1 : p % (b.length : Int) < (b.length : Int) := Int.emod_lt_of_pos _ (by omega)
      have q2 : 0 ≤ (p * 7 + 3) % (b.length : Int) := Int.emod_nonneg _ hz
      have q3 : (p * 7 + 3) % (b.length : Int) < (b.length : Int) := Int.emod_lt_of_pos _ (by omega)
      have q4 : 0 ≤ p / (b.length : Int) := Int.ediv_nonneg h0 (by omega)
      have q5 : p / (b.length : Int) ≤ p := Int.ediv_le_self _ h0
      have r1 := rd_byte hb (p % (b.length : Int))
      have r2 := rd_byte hb ((p * 7 + 3) % (b.length : Int))
      obtain ⟨X, hX⟩ : ∃ X, X = rd b (p % (b.length : Int)) * 131 + rd b ((p * 7 + 3) % (b.length : Int)) * 1117 + p * 29 + p / (b.length : Int) * 53 := ⟨_, rfl⟩
      have x0 : 0 ≤ X := by omega
      have x1 : X < 1152921504606846976 := by omega
      have y := xor_nonneg X (X / 64) x0 x1 (by omega) (by omega)
      refine ⟨Int.tmod (Go.bits .xor .i64 X (X / 64)) n, Ev.end_ (fun k => ?_), ?_, ?_⟩
      · unfold spec_l10Rd_pick.f
        rw [if_neg (by omega), e1]
        simp only [spec_l10Rd_pick.j0]
        rw [if_neg (by simpa using hz), e2, if_neg hlt, if_neg hz, Int.tmod_eq_emod_of_nonneg h0, if_pos q0, if_pos q1, e3, e4, Int.tmod_eq_emod_of_nonneg (show 0 ≤ p * 7 + 3 by omega), if_pos q2, if_pos q3, if_neg (by omega), Int.tdiv_eq_ediv_of_nonneg h0,
          wid (x := rd b (p % (b.length : Int))) (by omega) (by omega), wid (x := rd b ((p * 7 + 3) % (b.length : Int))) (by omega) (by omega), wid (x := rd b (p % (b.length : Int)) * 131) (by omega) (by omega), wid (x := rd b ((p * 7 + 3) % (b.length : Int)) * 1117) (by omega) (by omega),
          wid (x := rd b (p % (b.length : Int)) * 131 + rd b ((p * 7 + 3) % (b.length : Int)) * 1117) (by omega) (by omega), wid (x := p * 29) (by omega) (by omega), wid (x := rd b (p % (b.length : Int)) * 131 + rd b ((p * 7 + 3) % (b.length : Int)) * 1117 + p * 29) (by omega) (by omega),
          wid (x := p / (b.length : Int)) (by omega) (by omega), wid (x := p / (b.length : Int) * 53) (by omega) (by omega), ← hX, wid (x := X) (by omega) (by omega), Int.tdiv_eq_ediv_of_nonneg x0, wid (x := X / 64) (by omega) (by omega)]
      · rw [Int.tmod_eq_emod_of_nonneg y]; exact Int.emod_nonneg _ (by omega)
      · rw [Int.tmod_eq_emod_of_nonneg y]; exact Int.emod_lt_of_pos _ (by omega)

/-! One of a list of numbers. -/
theorem rd_mem (l : List Int) (i : Int) (h0 : 0 ≤ i) (h1 : i < (l.length : Int)) : rd l i ∈ l := by
  unfold rd
  rw [List.getD_eq_getElem?_getD, List.getElem?_eq_getElem (by omega)]
  exact List.getElem_mem _
theorem num_is {b : List Int} (hb : RB b) (p : Int) (l : List Int) (h0 : 0 ≤ p) (h1 : p ≤ 1099511627776) (hn1 : 1 ≤ (l.length : Int)) : ∃ v, Ev (fun k => spec_l10Rd_num.f k b p l) (v, p + 1) ∧ v ∈ l := by
  obtain ⟨i, hi, i0, i1⟩ := pick_is hb p (l.length : Int) h0 h1 hn1
  refine ⟨rd l i, Ev.bind hi (Ev.all fun k => ?_), rd_mem l i i0 i1⟩
  rw [if_pos i0, if_pos i1]

theorem rdOf_mem (l : List ByteArray) (i : Int) (h0 : 0 ≤ i) (h1 : i < (l.length : Int)) : rdOf ByteArray.empty l i ∈ l := by
  unfold rdOf
  rw [List.getD_eq_getElem?_getD, List.getElem?_eq_getElem (by omega)]
  exact List.getElem_mem _

/-! One of a list of strings. -/
theorem of_is {b : List Int} (hb : RB b) (p : Int) (l : List ByteArray) (h0 : 0 ≤ p) (h1 : p ≤ 1099511627776) (hn1 : 1 ≤ (l.length : Int)) : ∃ v, Ev (fun k => spec_l10Rd_of.f k b p l) (v, p + 1) ∧ v ∈ l := by
  obtain ⟨i, hi, i0, i1⟩ := pick_is hb p (l.length : Int) h0 h1 hn1
  refine ⟨rdOf ByteArray.empty l i, Ev.bind hi (Ev.all fun k => ?_), rdOf_mem l i i0 i1⟩
  rw [if_pos i0, if_pos i1]

/-! A file, drawn. -/
theorem l2Text_l {b : List Int} (hb : RB b) : ∀ (n : Nat) (s : ByteArray) (p : Int), n ≤ 1000 → s.size + n ≤ 1000 → 0 ≤ p → p + n ≤ 1000000000000 → ∃ t, Ev (fun k => spec_l2Text.l0 k s (n : Int) b p) (t, p + n) ∧ t.size = s.size + n := by
  intro n
  induction n with
  | zero =>
    intro s p hn hs h0 h1
    refine ⟨s, Ev.end_ (fun k => ?_), by omega⟩
    simp only [spec_l2Text.l0]
    rw [if_neg (by omega)]
    simp
  | succ n ih =>
    intro s p hn hs h0 h1
    obtain ⟨v, hv, vm⟩ := of_is hb p [(⟨#[97]⟩ : ByteArray), (⟨#[98]⟩ : ByteArray), (⟨#[99]⟩ : ByteArray), (⟨#[55]⟩ : ByteArray), (⟨#[46]⟩ : ByteArray), (⟨#[122]⟩ : ByteArray)] h0 (by omega) (by simp)
    have hv1 : v.size = 1 := by
      simp only [List.mem_cons, List.not_mem_nil, or_false] at vm
      rcases vm with rfl | rfl | rfl | rfl | rfl | rfl <;> rfl
    have hz : (s ++ v).size = s.size + 1 := by rw [B_size, B_app, List.length_append, ← B_size, ← B_size, hv1]
    obtain ⟨t, ht, tz⟩ := ih (s ++ v) (p + 1) (by omega) (by omega) (by omega) (by omega)
    refine ⟨t, ?_, by omega⟩
    rw [show p + ((n + 1 : Nat) : Int) = p + 1 + (n : Int) by omega]
    refine Ev.cut (f := fun k => (spec_l10Rd_of.f k b p [(⟨#[97]⟩ : ByteArray), (⟨#[98]⟩ : ByteArray), (⟨#[99]⟩ : ByteArray), (⟨#[55]⟩ : ByteArray), (⟨#[46]⟩ : ByteArray), (⟨#[122]⟩ : ByteArray)]).bind fun r => if s.size + r.1.size ≤ 9223372036854775807 then spec_l2Text.l0 k (s ++ r.1) (wrap64 (((n + 1 : Nat) : Int) - 1)) b r.2 else none) (Ev.bind hv ?_) (fun k => ?_)
    · simp only [if_pos (show s.size + v.size ≤ 9223372036854775807 by omega)]
      rw [show wrap64 (((n + 1 : Nat) : Int) - 1) = (n : Int) by rw [wid (by omega) (by omega)]; omega]
      exact ht
    · simp only [spec_l2Text.l0]
      rw [if_pos (by omega)]
theorem l2Text_is {b : List Int} (hb : RB b) (p m : Int) (h0 : 0 ≤ p) (h1 : p ≤ 100000000000) (m0 : 0 ≤ m) (m1 : m ≤ 100) : ∃ t q, Ev (fun k => spec_l2Text.f k b p m) (t, q) ∧ t.size ≤ 100 ∧ p ≤ q ∧ q ≤ p + 102 := by
  obtain ⟨i, hi, i0, i1⟩ := pick_is hb p (m + 1) h0 (by omega) (by omega)
  obtain ⟨t, ht, tz⟩ := l2Text_l hb i.toNat (⟨#[]⟩ : ByteArray) (p + 1) (by omega) (by show 0 + _ ≤ _; omega) (by omega) (by omega)
  rw [Int.toNat_of_nonneg i0] at ht
  refine ⟨t, p + 1 + i, ?_, by rw [tz]; show 0 + _ ≤ _; omega, by omega, by omega⟩
  unfold spec_l2Text.f
  rw [wid (x := m + 1) (by omega) (by omega)]
  exact Ev.bind hi ht
theorem l2Some_is {b : List Int} (hb : RB b) (p : Int) (h0 : 0 ≤ p) (h1 : p ≤ 10000000000) : ∃ s q, Ev (fun k => spec_l2Some.f k b p) (s, q) ∧ s.size ≤ 200 ∧ p ≤ q ∧ q ≤ p + 110 := by
  obtain ⟨v, hv, vm⟩ := num_is hb p [6, 12, 20, 30, 48] h0 (by omega) (by simp)
  have hv2 : 0 ≤ v ∧ v ≤ 48 := by simp at vm; omega
  obtain ⟨t, q, ht, tz, q0, q1⟩ := l2Text_is hb (p + 1) v (by omega) (by omega) hv2.1 (by omega)
  obtain ⟨u, hu, u0, u1⟩ := pick_is hb q 60 (by omega) (by omega) (by omega)
  by_cases c0 : u = 0
  · exact ⟨t ++ (⟨#[65]⟩ : ByteArray), q + 1, Ev.bind hv (Ev.bind ht (Ev.bind hu (Ev.all fun k => by rw [if_pos c0, if_pos (show t.size + 1 ≤ 9223372036854775807 by omega)]))), by rw [B_size, B_app, List.length_append, ← B_size, ← B_size]; show t.size + 1 ≤ _; omega, by omega, by omega⟩
  by_cases c1 : u = 1
  · exact ⟨t ++ (⟨#[32]⟩ : ByteArray), q + 1, Ev.bind hv (Ev.bind ht (Ev.bind hu (Ev.all fun k => by rw [if_neg c0, if_pos c1, if_pos (show t.size + 1 ≤ 9223372036854775807 by omega)]))), by rw [B_size, B_app, List.length_append, ← B_size, ← B_size]; show t.size + 1 ≤ _; omega, by omega, by omega⟩
  by_cases c2 : u = 2
  · refine ⟨mkB (padL (B t) 49), q + 1, Ev.bind hv (Ev.bind ht (Ev.bind hu ?_)), by rw [mkB_size, padL_length, ← B_size]; omega, by omega, by omega⟩
    simp only [if_neg c0, if_neg c1, if_pos c2]
    exact Ev.bind (l2Long_is t 49 (by omega) (by omega)) (Ev.now _)
  · exact ⟨t, q + 1, Ev.bind hv (Ev.bind ht (Ev.bind hu (Ev.all fun k => by rw [if_neg c0, if_neg c1, if_neg c2]))), by omega, by omega, by omega⟩

/-! A layout, drawn. -/
theorem l3Lay_is {b : List Int} (hb : RB b) (p : Int) (h0 : 0 ≤ p) (h1 : p ≤ 1000000000000) : ∃ x y, Ev (fun k => spec_l3Lay.f k b p) (x, y, p + 1 + 1) ∧ laOk x y = true := by
  obtain ⟨v, hv, vm⟩ := num_is hb p [1, 2, 3, 4, 5, 8] h0 (by omega) (by simp)
  obtain ⟨x, hx, x0, x1⟩ := pick_is hb (p + 1) 3 (by omega) (by omega) (by omega)
  have hv2 : 1 ≤ v ∧ v ≤ 8 := by simp at vm; omega
  refine ⟨v, 1 + x, Ev.bind hv (Ev.bind hx (Ev.all fun k => ?_)), decide_eq_true (by omega)⟩
  rw [wid (by omega) (by omega)]
theorem l3Lays_is {b : List Int} (hb : RB b) (p : Int) (h0 : 0 ≤ p) (h1 : p ≤ 1000000000000) : ∃ x y q, Ev (fun k => spec_l3Lays.f k b p) (x, y, q) ∧ p ≤ q ∧ q ≤ p + 4 ∧ y ≤ 4 := by
  obtain ⟨x, y, hx, hok⟩ := l3Lay_is hb p h0 h1
  have hok := of_decide_eq_true hok
  obtain ⟨v, hv, v0, v1⟩ := pick_is hb (p + 1 + 1) 36 (by omega) (by omega) (by omega)
  by_cases c0 : v = 0
  · obtain ⟨u, hu, um⟩ := num_is hb (p + 1 + 1 + 1) [0, -1, 9] (by omega) (by omega) (by simp)
    exact ⟨u, y, p + 1 + 1 + 1 + 1, Ev.bind hx (Ev.bind hv (by simp only [if_pos c0]; exact Ev.bind hu (Ev.now _))), by omega, by omega, by omega⟩
  by_cases c1 : v = 1
  · obtain ⟨u, hu, um⟩ := num_is hb (p + 1 + 1 + 1) [0, -1, 4] (by omega) (by omega) (by simp)
    have hu4 : u ≤ 4 := by simp at um; omega
    exact ⟨x, u, p + 1 + 1 + 1 + 1, Ev.bind hx (Ev.bind hv (by simp only [if_neg c0, if_pos c1]; exact Ev.bind hu (Ev.now _))), by omega, by omega, hu4⟩
  by_cases c2 : v = 2
  · exact ⟨0, 0, p + 1 + 1 + 1, Ev.bind hx (Ev.bind hv (by simp only [if_neg c0, if_neg c1, if_pos c2]; exact Ev.now _)), by omega, by omega, by omega⟩
  · exact ⟨x, y, p + 1 + 1 + 1, Ev.bind hx (Ev.bind hv (by simp only [if_neg c0, if_neg c1, if_neg c2]; exact Ev.now _)), by omega, by omega, by omega⟩

theorem DrawLayOf_is (l : List Int) (hw : ∀ x ∈ l, (Lit.int .u8 x).wf = true) : ∃ a b s, Ev (fun k => spec_DrawLayOf.f k l) (a, b, s) ∧ s.size ≤ 200 := by
  obtain ⟨r, hr, hb⟩ := open_is l hw
  obtain ⟨x, y, q, h1, q0, q1, _⟩ := l3Lays_is hb 0 (by omega) (by omega)
  obtain ⟨s, p, h2, hs, _⟩ := l2Some_is hb q (by omega) (by omega)
  unfold spec_DrawLayOf.f
  simp only [hr, Option.bind_some]
  exact ⟨x, y, s, Ev.bind h1 (Ev.bind h2 (Ev.now _)), hs⟩

theorem objL_cut (l m : Int) (L : List UInt8) (o : Int) (j : Nat) (hj : j ≤ L.length) : ∃ r, objL l m L o L.length = objL l m (L.take j) o (L.take j).length ++ r := by
  obtain ⟨r, hr⟩ := onObj_add l m o j (L.length - j)
  rw [show j + (L.length - j) = L.length by omega] at hr
  refine ⟨r.map fun p => L.getD p 46, ?_⟩
  unfold objL
  rw [hr, List.map_append, show (L.take j).length = j by rw [List.length_take]; omega]
  congr 1
  apply List.map_congr_left
  intro p hp
  have := onObj_lt hp
  rw [List.getD_eq_getElem?_getD, List.getD_eq_getElem?_getD, List.getElem?_take, if_pos this]
theorem cut_loop (A F : List ByteArray) (hl : A.length = F.length) (hs : A.length ≤ 1000) (h : ∀ o, o < F.length → ∃ r, B (A.getD o ByteArray.empty) = B (F.getD o ByteArray.empty) ++ r) : ∀ (d i : Nat), i + d = F.length → Ev (fun k => laws_FnLayCut.l0 k A F (i : Int)) true := by
  intro d
  induction d with
  | zero =>
    intro i hi
    refine Ev.end_ (fun k => ?_)
    simp only [laws_FnLayCut.l0]
    rw [if_neg (by omega), hl]
    simp
  | succ d ih =>
    intro i hi
    obtain ⟨r, hr⟩ := h i (by omega)
    have e1 : rdOf ByteArray.empty A (i : Int) = A.getD i ByteArray.empty := rfl
    have e2 : rdOf ByteArray.empty F (i : Int) = F.getD i ByteArray.empty := rfl
    have hz : (A.getD i ByteArray.empty).size = (F.getD i ByteArray.empty).size + r.length := by rw [B_size, hr, List.length_append, ← B_size]
    refine Ev.cut (ih (i + 1) (by omega)) (fun k => ?_)
    simp only [laws_FnLayCut.l0]
    rw [if_pos (by omega), if_pos (by omega), if_pos (by omega), e1, e2, if_neg (by omega), if_pos (by omega), if_pos (by omega), if_pos ?_, wsucc i (by omega)]
    rw [B_toList, B_toList, B_ext, hr, Int.toNat_natCast, B_size, List.take_left' rfl]
    rfl

theorem FnLayCut (l0 : List Int) (l1 : List Int) (hm0 : l0.length ≤ maxLen) (hw0 : ∀ x ∈ l0, (Lit.int .u8 x).wf = true) (hm1 : l1.length ≤ maxLen) (hw1 : ∀ x ∈ l1, (Lit.int .u8 x).wf = true) : ∃ k, laws_FnLayCut.f k l0 l1 = some true := by
  have hm := hm0
  have hw := hw0
  have hx : ∀ k, laws_FnLayCut.j0 (k + 1) l0 l1 true = some true := fun k => by simp [laws_FnLayCut.j0]
  by_cases h : (l0.length : Int) > 1048576
  · exact ⟨1, by unfold laws_FnLayCut.f; rw [if_pos h]; exact hx 0⟩
  by_cases h2 : (l1.length : Int) > 1048576
  · exact ⟨1, by unfold laws_FnLayCut.f; rw [if_neg h, decide_eq_true h2]; exact hx 0⟩
  refine Ev.rounds (r := true) (g := fun k => laws_FnLayCut.f k l0 l1) ?_
  unfold laws_FnLayCut.f
  simp only [if_neg h, decide_eq_false h2]
  obtain ⟨l, m, s, hd, hs⟩ := DrawLayOf_is l0 hw
  have hsm := lyOf_small l m s
  refine Ev.cut (f := fun k => (spec_DrawLayOf.f k l0).bind fun r => (impl_LayOf.f k r.1 r.2.1 r.2.2).bind fun x => (spec_LayOf.f k r.1 r.2.1 r.2.2).bind fun y => (laws_wpTexts3.f k x y).bind fun t => if t = true then ((spec_LayOk.f r.1 r.2.1).bind fun u => if u = true then ((spec_TextOk.f k r.2.2).bind fun v => laws_FnLayCut.j1 k l1 r.2.2 x (!v) r.1 r.2.1) else laws_FnLayCut.j1 k l1 r.2.2 x true r.1 r.2.1) else laws_FnLayCut.j1 k l1 r.2.2 x true r.1 r.2.1) ?_ (fun k => by simp [laws_FnLayCut.j0])
  refine Ev.bind hd (Ev.bind (impl_LayOf_is l m s (by omega)) (Ev.bind (spec_LayOf_is l m s (by omega)) (Ev.bind (wpTexts3_refl _ (by omega)) ?_)))
  simp only [if_true, spec_LayOk_is, Option.bind_some]
  have hbad : Ev (fun k => laws_FnLayCut.j1 k l1 s (lyOf l m s) true l m) true := by
    refine Ev.cut (f := fun k => (spec_LayOf.f k l m s).bind fun t => (laws_wpTexts3.f k (lyOf l m s) t).bind fun u => some u) (Ev.bind (spec_LayOf_is l m s (by omega)) (Ev.bind (wpTexts3_refl _ (by omega)) (Ev.now _))) (fun k => ?_)
    simp only [laws_FnLayCut.j1, if_true]
  cases hk : laOk l m with
  | false =>
    simp only [Bool.false_eq_true, if_false]
    exact hbad
  | true =>
    simp only [if_true]
    refine Ev.bind (spec_TextOk_is s (by omega)) ?_
    cases ht : tOk (B s) with
    | false => exact hbad
    | true =>
      have hok := of_decide_eq_true hk
      have m0 : 0 ≤ (l1.length : Int) % ((s.size : Int) + 1) := Int.emod_nonneg _ (by omega)
      have m1 : (l1.length : Int) % ((s.size : Int) + 1) < (s.size : Int) + 1 := Int.emod_lt_of_pos _ (by omega)
      obtain ⟨j, hj⟩ : ∃ j : Nat, (j : Int) = (l1.length : Int) % ((s.size : Int) + 1) := ⟨((l1.length : Int) % ((s.size : Int) + 1)).toNat, by omega⟩
      have hjs : j ≤ (B s).length := by rw [← B_size]; omega
      have e1 : B (s.extract 0 j) = (B s).take j := by rw [B_ext]; rfl
      have ht' : tOk (B (s.extract 0 j)) = true := by
        obtain ⟨t1, t2⟩ := tOk_iff.1 ht
        exact tOk_iff.2 ⟨fun x hx => t1 x (List.mem_of_mem_take (e1 ▸ hx)), by rw [e1, List.length_take]; omega⟩
      obtain ⟨a1, a2⟩ := lyOf_objs hk s ht
      obtain ⟨b1, b2⟩ := lyOf_objs hk (s.extract 0 j) ht'
      have hzz : (s.extract 0 j).size < 4611686018427387904 := by rw [B_size, e1, List.length_take, ← B_size]; omega
      refine Ev.cut (f := fun k => (impl_LayOf.f k l m (s.extract 0 j)).bind fun t => laws_FnLayCut.l0 k (lyOf l m s) t 0) (Ev.bind (impl_LayOf_is l m (s.extract 0 j) hzz) ?_) (fun k => ?_)
      · refine cut_loop _ _ (by omega) (by omega) (fun o ho => ?_) _ 0 (Nat.zero_add _)
        rw [a2 o (by omega), b2 o (by omega), e1]
        exact objL_cut l m (B s) o j hjs
      · simp only [laws_FnLayCut.j1, Bool.not_true, Bool.false_eq_true, if_false]
        rw [wid (x := (s.size : Int) + 1) (by omega) (by omega), if_neg (by omega), ← hj, if_pos (by omega), if_pos (by omega)]
        rfl

end Go.Proofs.Ytmiknhlogpoikaa.Pure
