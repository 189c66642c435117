/- The law FnExactLayOf over numbers and lists, as the program's text computes it: it answers true. Conditions: the arguments are of their kinds, lengths fit. -/
import Derived.Test.YtdbmipnbcbhcnaaQFnExactLayOfx3
import Derived.OpenShut
import Derived.Laws.Strings
namespace Go.Proofs.Ytdbmipnbcbhcnaa.Pure
open Go.RowKit Go.Proofs.Ytdbmipnbcbhcnaa.QFnExactLayOf Go.Proofs.YtdbmipnbcbhcnaaW.PrintWords Go.Proofs.YtdbmipnbcbhcnaaW.PrintLast
set_option linter.unusedVariables false
set_option linter.unusedSimpArgs false

/-! Words for the pure side: strings as lists of bytes, counters as natural numbers, what is answered from some round on. -/
def B (s : ByteArray) : List UInt8 := s.data.toList
theorem B_size (s : ByteArray) : s.size = (B s).length := (Array.length_toList).symm
theorem B_toList (s : ByteArray) : s.toList = B s := Go.ByteArray.toList_eq s
theorem B_inj {s t : ByteArray} (h : B s = B t) : s = t := by
  cases s; cases t
  simp only [B] at h
  congr 1
  exact Array.ext' h
theorem B_app (s t : ByteArray) : B (s ++ t) = B s ++ B t := by simp [B, ByteArray.data_append]
theorem B_ext (s : ByteArray) (i j : Nat) : B (s.extract i j) = ((B s).take j).drop i := by
  simp [B, ByteArray.data_extract, List.extract_eq_take_drop, List.drop_take]
theorem B_nil : B (⟨#[]⟩ : ByteArray) = [] := rfl
theorem bt_B (s : ByteArray) (i : Nat) (h : i < (B s).length) : bt s (i : Int) = (((B s)[i]'h).toNat : Int) := by
  have h' : (i : Int).toNat < s.size := by rw [B_size]; simpa using h
  unfold bt
  rw [dif_pos h']
  rfl
theorem wsucc (i : Nat) (h : i < 4611686018427387904) : wrap64 ((i : Int) + 1) = ((i + 1 : Nat) : Int) := by unfold wrap64; omega
theorem wpred (i : Nat) (h : i < 4611686018427387904) (h0 : 0 < i) : wrap64 ((i : Int) - 1) = ((i - 1 : Nat) : Int) := by unfold wrap64; omega
theorem wid {x : Int} (h0 : -9223372036854775808 ≤ x) (h1 : x ≤ 9223372036854775807) : wrap64 x = x := by unfold wrap64; omega
theorem Ev.cut {α : Type} {g f : Nat → Option α} {r : α} (k : Ev f r) (h : ∀ k, g (k + 1) = f k) : Ev g r := Ev.step h k
theorem Ev.end_ {α : Type} {g : Nat → Option α} {r : α} (h : ∀ k, g (k + 1) = some r) : Ev g r := Ev.step h (Ev.now r)
theorem Ev.all {α : Type} {g : Nat → Option α} {r : α} (h : ∀ k, g k = some r) : Ev g r := ⟨0, fun k _ => h k⟩
theorem Ev.uniq {α : Type} {g : Nat → Option α} {r q : α} (h : Ev g r) (h' : Ev g q) : r = q := by
  obtain ⟨K, h⟩ := h
  obtain ⟨K', h'⟩ := h'
  have h1 := h (max K K') (by omega)
  rw [h' (max K K') (by omega)] at h1
  exact (Option.some.inj h1).symm
theorem dec_eq {p q : Prop} [Decidable p] [Decidable q] (h : p ↔ q) : (some (decide p) : Option Bool) = some (decide q) := by rw [decide_eq_decide.2 h]
theorem dec_false {q : Prop} [Decidable q] (h : ¬ q) : (some false : Option Bool) = some (decide q) := by rw [decide_eq_false h]
theorem dec_true {q : Prop} [Decidable q] (h : q) : (some true : Option Bool) = some (decide q) := by rw [decide_eq_true h]

/-! Layouts, valid. -/
def laOk (a b : Int) : Bool := decide (1 ≤ a ∧ a ≤ 8 ∧ 1 ≤ b ∧ b ≤ 3)
theorem spec_LayOk_is (a b : Int) : spec_LayOk.f a b = some (laOk a b) := by
  unfold spec_LayOk.f laOk
  repeat' split
  all_goals first | exact dec_eq (by omega) | exact dec_false (by omega)
theorem impl_LayOk_is (a b : Int) : impl_LayOk.f a b = some (laOk a b) := by
  unfold impl_LayOk.f laOk
  repeat' split
  all_goals first | exact dec_eq (by omega) | exact dec_false (by omega)

/-! Where a place lies. -/
def lAt (l m p : Int) : Int × Int := (p / l % m, p / l / m * l + p % l)
theorem lAt_bounds {l m p : Int} (hl : 1 ≤ l) (hl8 : l ≤ 8) (hm : 1 ≤ m) (hm3 : m ≤ 3) (h0 : 0 ≤ p) (h1 : p < 100) : 0 ≤ (lAt l m p).1 ∧ (lAt l m p).1 < m ∧ 0 ≤ (lAt l m p).2 ∧ (lAt l m p).2 ≤ p := by
  have hq0 : 0 ≤ p / l := Int.ediv_nonneg h0 (by omega)
  have e1 : p / l * l + p % l = p := by rw [Int.mul_comm]; exact Int.mul_ediv_add_emod p l
  have r0 : 0 ≤ p % l := Int.emod_nonneg _ (by omega)
  have hq2 : 0 ≤ p / l / m := Int.ediv_nonneg hq0 (by omega)
  have hq3 : p / l / m ≤ p / l := Int.ediv_le_self _ hq0
  refine ⟨Int.emod_nonneg _ (by omega), Int.emod_lt_of_pos _ (by omega), ?_, ?_⟩
  · exact Int.add_nonneg (Int.mul_nonneg hq2 (by omega)) r0
  · have := Int.mul_le_mul_of_nonneg_right hq3 (show 0 ≤ l by omega)
    show p / l / m * l + p % l ≤ p
    omega
theorem lAt_words {l m p : Int} (hl : 1 ≤ l) (hl8 : l ≤ 8) (hm : 1 ≤ m) (hm3 : m ≤ 3) (h0 : 0 ≤ p) (h1 : p < 100) :
    Int.tmod (wrap64 (Int.tdiv p l)) m = (lAt l m p).1 ∧ wrap64 ((wrap64 ((wrap64 (Int.tdiv (wrap64 (Int.tdiv p l)) m)) * l)) + (Int.tmod p l)) = (lAt l m p).2 := by
  have hq0 : 0 ≤ p / l := Int.ediv_nonneg h0 (by omega)
  have hqp : p / l ≤ p := Int.ediv_le_self _ h0
  have hq2 : 0 ≤ p / l / m := Int.ediv_nonneg hq0 (by omega)
  have hq3 : p / l / m ≤ p / l := Int.ediv_le_self _ hq0
  have r0 : 0 ≤ p % l := Int.emod_nonneg _ (by omega)
  have r1 : p % l < l := Int.emod_lt_of_pos _ (by omega)
  have m0 : 0 ≤ p / l / m * l := Int.mul_nonneg hq2 (by omega)
  have m1 : p / l / m * l ≤ 100 * 8 := Int.mul_le_mul (by omega) hl8 (by omega) (by omega)
  rw [Int.tdiv_eq_ediv_of_nonneg h0, wid (x := p / l) (by omega) (by omega), Int.tmod_eq_emod_of_nonneg hq0, Int.tdiv_eq_ediv_of_nonneg hq0, wid (x := p / l / m) (by omega) (by omega), wid (x := p / l / m * l) (by omega) (by omega), Int.tmod_eq_emod_of_nonneg h0, wid (by omega) (by omega)]
  exact ⟨rfl, rfl⟩
def lyAt (l m p : Int) : Int × Int := if laOk l m = true ∧ 0 ≤ p ∧ p < 48 then lAt l m p else (-1, -1)
theorem spec_l3At_is {l m p : Int} (hl : 1 ≤ l) (hl8 : l ≤ 8) (hm : 1 ≤ m) (hm3 : m ≤ 3) (h0 : 0 ≤ p) (h1 : p < 100) : spec_l3At.f l m p = some (lAt l m p) := by
  unfold spec_l3At.f
  obtain ⟨e1, e2⟩ := lAt_words hl hl8 hm hm3 h0 h1
  rw [if_neg (by omega), if_neg (by omega), e1, e2]

theorem impl_LayAt_is (l m p : Int) : impl_LayAt.f l m p = some (lyAt l m p) := by
  unfold impl_LayAt.f lyAt
  rw [impl_LayOk_is]
  cases h : laOk l m with
  | false => simp
  | true =>
    have h' := of_decide_eq_true h
    simp only [Option.bind_some, if_true]
    by_cases h0 : p < 0
    · rw [if_pos h0, if_neg (by omega)]
    · rw [if_neg h0]
      by_cases h1 : p ≥ 48
      · rw [if_pos h1, if_neg (by omega)]
      · obtain ⟨e1, e2⟩ := lAt_words (l := l) (m := m) (p := p) (by omega) (by omega) (by omega) (by omega) (by omega) (by omega)
        rw [if_neg h1, if_neg (show ¬ l = 0 by omega), if_neg (show ¬ m = 0 by omega), e1, e2, if_pos ⟨trivial, by omega, by omega⟩]

/-! Files, valid. -/
def cOk (c : UInt8) : Bool := decide (c.toNat = 46 ∨ (97 ≤ c.toNat ∧ c.toNat ≤ 122) ∨ (48 ≤ c.toNat ∧ c.toNat ≤ 57))
def tOk (l : List UInt8) : Bool := l.all cOk && decide (l.length ≤ 48)
theorem spec_l2Byte_is (c : UInt8) : spec_l2Byte.f (c.toNat : Int) = some (cOk c) := by
  unfold spec_l2Byte.f cOk
  repeat' split
  all_goals first | exact dec_true (by omega) | exact dec_eq (by omega) | exact dec_false (by omega)
theorem all_drop (l : List UInt8) (i : Nat) (h : i < l.length) : (l.drop i).all cOk = (cOk l[i] && (l.drop (i + 1)).all cOk) := by
  rw [List.drop_eq_getElem_cons h, List.all_cons]
theorem spec_TextOk_l (s : ByteArray) (hs : s.size < 4611686018427387904) : ∀ (d i : Nat), i + d = (B s).length → Ev (fun k => spec_TextOk.l0 k s (i : Int)) ((((B s).drop i).all cOk) && decide ((B s).length ≤ 48)) := by
  have hz : (s.size : Int) = ((B s).length : Int) := by rw [B_size]
  have hs' : (B s).length < 4611686018427387904 := by rw [← B_size]; exact hs
  intro d
  induction d with
  | zero =>
    intro i hi
    refine Ev.end_ (fun k => ?_)
    simp only [spec_TextOk.l0]
    rw [hz, if_neg (by omega), List.drop_of_length_le (by omega)]
    simp
    omega
  | succ d ih =>
    intro i hi
    have hlt : i < (B s).length := by omega
    have hr : (((B s).drop i).all cOk) = (cOk ((B s)[i]) && ((B s).drop (i + 1)).all cOk) := all_drop _ _ hlt
    rw [hr]
    cases hc : cOk ((B s)[i]) with
    | true =>
      refine Ev.cut (f := fun k => spec_TextOk.l0 k s ((i + 1 : Nat) : Int)) ?_ (fun k => ?_)
      · simpa using ih (i + 1) (by omega)
      · simp only [spec_TextOk.l0]
        rw [hz, if_pos (by omega), if_pos (by omega), bt_B s i hlt, spec_l2Byte_is, wsucc i (by omega), hc]
        rfl
    | false =>
      refine Ev.end_ (fun k => ?_)
      simp only [spec_TextOk.l0]
      rw [hz, if_pos (by omega), if_pos (by omega), bt_B s i hlt, spec_l2Byte_is, hc]
      simp
theorem spec_TextOk_is (s : ByteArray) (hs : s.size < 4611686018427387904) : Ev (fun k => spec_TextOk.f k s) (tOk (B s)) := by
  have h := spec_TextOk_l s hs (B s).length 0 (by omega)
  simpa [spec_TextOk.f, tOk] using h
theorem impl_TextOk_l (s : ByteArray) (hs : s.size < 4611686018427387904) : ∀ (d i : Nat), i + d = (B s).length → Ev (fun k => impl_TextOk.l0 k s (s.size : Int) (i : Int)) ((((B s).drop i).all cOk) && decide ((B s).length ≤ 48)) := by
  have hz : (s.size : Int) = ((B s).length : Int) := by rw [B_size]
  have hs' : (B s).length < 4611686018427387904 := by rw [← B_size]; exact hs
  intro d
  induction d with
  | zero =>
    intro i hi
    refine Ev.end_ (fun k => ?_)
    simp only [impl_TextOk.l0]
    rw [hz, if_neg (by omega), List.drop_of_length_le (by omega)]
    simp
    omega
  | succ d ih =>
    intro i hi
    have hlt : i < (B s).length := by omega
    have hr : (((B s).drop i).all cOk) = (cOk ((B s)[i]) && ((B s).drop (i + 1)).all cOk) := all_drop _ _ hlt
    rw [hr]
    cases hc : cOk ((B s)[i]) with
    | true =>
      have hc' := of_decide_eq_true hc
      refine Ev.cut (f := fun k => impl_TextOk.l0 k s (s.size : Int) ((i + 1 : Nat) : Int)) ?_ (fun k => ?_)
      · simpa using ih (i + 1) (by omega)
      · simp only [impl_TextOk.l0]
        rw [if_pos (by omega), if_pos (by omega), if_pos (by omega), bt_B s i hlt, wsucc i (by omega)]
        repeat' split
        all_goals first | rfl | (exfalso; omega)
    | false =>
      have hc' := of_decide_eq_false hc
      refine Ev.end_ (fun k => ?_)
      simp only [impl_TextOk.l0]
      rw [if_pos (by omega), if_pos (by omega), if_pos (by omega), bt_B s i hlt]
      simp only [Bool.false_and]
      repeat' split
      all_goals first | rfl | (exfalso; omega)
theorem impl_TextOk_is (s : ByteArray) (hs : s.size < 4611686018427387904) : Ev (fun k => impl_TextOk.f k s) (tOk (B s)) := by
  have h := impl_TextOk_l s hs (B s).length 0 (by omega)
  simpa [impl_TextOk.f, tOk] using h

/-! A file, dealt to its objects. -/
def deal (l m : Int) (s : ByteArray) (out : List ByteArray) (i : Nat) : List ByteArray := out.set (lAt l m i).1.toNat (rdOf ByteArray.empty out (lAt l m i).1 ++ s.extract i (i + 1))
def lyOf (l m : Int) (s : ByteArray) : List ByteArray := if laOk l m = true ∧ tOk (B s) = true then (List.range' 0 s.size).foldl (deal l m s) (List.replicate m.toNat (⟨#[]⟩ : ByteArray)) else []
theorem deal_length (l m : Int) (s : ByteArray) (out : List ByteArray) (i : Nat) : (deal l m s out i).length = out.length := by simp [deal]
theorem one_size (s : ByteArray) (i : Nat) : (s.extract i (i + 1)).size ≤ 1 := by
  rw [B_size, B_ext, List.length_drop, List.length_take]
  omega
theorem rdOf_size {out : List ByteArray} {i n : Nat} (h : ∀ x ∈ out, x.size ≤ n) : (rdOf ByteArray.empty out (i : Int)).size ≤ n := by
  unfold rdOf
  rw [show (i : Int).toNat = i from rfl, List.getD_eq_getElem?_getD]
  cases e : out[i]? with
  | none => simp
  | some x => exact h x (List.mem_of_getElem? e)
theorem deal_sizes {l m : Int} {s : ByteArray} {out : List ByteArray} {i : Nat} (h : ∀ x ∈ out, x.size ≤ i) (h0 : 0 ≤ (lAt l m i).1) : ∀ x ∈ deal l m s out i, x.size ≤ i + 1 := by
  intro x hx
  unfold deal at hx
  rcases List.mem_or_eq_of_mem_set hx with hx | rfl
  · exact Nat.le_succ_of_le (h x hx)
  · have h1 := one_size s i
    have h2 := rdOf_size (i := (lAt l m i).1.toNat) h
    rw [Int.toNat_of_nonneg h0] at h2
    rw [B_size, B_app, List.length_append, ← B_size, ← B_size]
    omega
theorem spec_LayOf_l1 {l m : Int} (hl : 1 ≤ l) (hl8 : l ≤ 8) (hm : 1 ≤ m) (hm3 : m ≤ 3) (s : ByteArray) (hs : s.size ≤ 48) : ∀ (d i : Nat) (out : List ByteArray), i + d = s.size → (out.length : Int) = m → (∀ x ∈ out, x.size ≤ i) →
    Ev (fun k => spec_LayOf.l1 k s out (i : Int) l m) ((List.range' i d).foldl (deal l m s) out) := by
  intro d
  induction d with
  | zero =>
    intro i out hi hm' hx
    refine Ev.end_ (fun k => ?_)
    simp only [spec_LayOf.l1]
    rw [if_neg (by omega)]
    rfl
  | succ d ih =>
    intro i out hi hm' hx
    obtain ⟨b1, b2, b3, b4⟩ := lAt_bounds (l := l) (m := m) (p := i) hl hl8 hm hm3 (by omega) (by omega)
    have z1 := one_size s i
    have z2 := rdOf_size (i := (lAt l m i).1.toNat) hx
    rw [Int.toNat_of_nonneg b1] at z2
    rw [List.range'_succ, List.foldl_cons]
    refine Ev.cut (f := fun k => spec_LayOf.l1 k s (deal l m s out i) ((i + 1 : Nat) : Int) l m) (ih (i + 1) _ (by omega) (by rw [deal_length]; exact hm') (deal_sizes hx b1)) (fun k => ?_)
    simp only [spec_LayOf.l1]
    rw [if_pos (by omega), spec_l3At_is hl hl8 hm hm3 (by omega) (by omega)]
    simp only [Option.bind_some]
    rw [if_pos b1, if_pos (by omega), if_pos (by omega), wsucc i (by omega), if_pos (by omega), if_pos (by omega), if_pos ?_]
    · rfl
    · show (rdOf ByteArray.empty out (lAt l m i).1).size + (s.extract i (i + 1)).size ≤ _
      omega
theorem spec_LayOf_l0 {l m : Int} (hl : 1 ≤ l) (hl8 : l ≤ 8) (hm : 1 ≤ m) (hm3 : m ≤ 3) (s : ByteArray) (hs : s.size ≤ 48) : ∀ (d i : Nat), (i : Int) + d = m →
    Ev (fun k => spec_LayOf.l0 k s (List.replicate i (⟨#[]⟩ : ByteArray)) (i : Int) l m) ((List.range' 0 s.size).foldl (deal l m s) (List.replicate m.toNat (⟨#[]⟩ : ByteArray))) := by
  intro d
  induction d with
  | zero =>
    intro i hi
    obtain rfl : m.toNat = i := by omega
    refine Ev.cut (f := fun k => spec_LayOf.l1 k s (List.replicate m.toNat (⟨#[]⟩ : ByteArray)) ((0 : Nat) : Int) l m) (spec_LayOf_l1 hl hl8 hm hm3 s hs s.size 0 _ (by omega) (by simp; omega) (fun x hx => by rw [List.eq_of_mem_replicate hx]; exact Nat.le_refl _)) (fun k => ?_)
    simp only [spec_LayOf.l0]
    rw [if_neg (by omega)]
    rfl
  | succ d ih =>
    intro i hi
    refine Ev.cut (f := fun k => spec_LayOf.l0 k s (List.replicate (i + 1) (⟨#[]⟩ : ByteArray)) ((i + 1 : Nat) : Int) l m) (ih (i + 1) (by omega)) (fun k => ?_)
    simp only [spec_LayOf.l0]
    rw [if_pos (by omega), if_pos (by simp; omega), wsucc i (by omega), ← List.replicate_succ']
theorem spec_LayOf_is (l m : Int) (s : ByteArray) (hz : s.size < 4611686018427387904) : Ev (fun k => spec_LayOf.f k l m s) (lyOf l m s) := by
  unfold spec_LayOf.f lyOf
  simp only [Option.bind_some, spec_LayOk_is]
  cases h : laOk l m with
  | false => exact Ev.end_ (fun k => by simp [spec_LayOf.j0])
  | true =>
    have h' := of_decide_eq_true h
    simp only [if_true]
    refine Ev.bind (spec_TextOk_is s hz) ?_
    cases ht : tOk (B s) with
    | false => exact Ev.end_ (fun k => by simp [spec_LayOf.j0])
    | true =>
      have hs : s.size ≤ 48 := by rw [B_size]; simp [tOk] at ht; exact ht.2
      simp only [true_and, if_true]
      refine Ev.cut (f := fun k => spec_LayOf.l0 k s (List.replicate 0 (⟨#[]⟩ : ByteArray)) ((0 : Nat) : Int) l m) (spec_LayOf_l0 (by omega) (by omega) (by omega) (by omega) s hs m.toNat 0 (by omega)) (fun k => ?_)
      simp [spec_LayOf.j0]
theorem impl_LayOf_l0 {l m : Int} (hl : 1 ≤ l) (hl8 : l ≤ 8) (hm : 1 ≤ m) (hm3 : m ≤ 3) (s : ByteArray) (hs : s.size ≤ 48) : ∀ (d i : Nat) (out : List ByteArray), i + d = s.size → (out.length : Int) = m → (∀ x ∈ out, x.size ≤ i) →
    Ev (fun k => impl_LayOf.l0 k s out (s.size : Int) (i : Int) l m) ((List.range' i d).foldl (deal l m s) out) := by
  have ho : laOk l m = true := decide_eq_true ⟨hl, hl8, hm, hm3⟩
  intro d
  induction d with
  | zero =>
    intro i out hi hm' hx
    refine Ev.end_ (fun k => ?_)
    simp only [impl_LayOf.l0]
    rw [if_neg (by omega)]
    rfl
  | succ d ih =>
    intro i out hi hm' hx
    obtain ⟨b1, b2, b3, b4⟩ := lAt_bounds (l := l) (m := m) (p := i) hl hl8 hm hm3 (by omega) (by omega)
    have z1 := one_size s i
    have z2 := rdOf_size (i := (lAt l m i).1.toNat) hx
    rw [Int.toNat_of_nonneg b1] at z2
    rw [List.range'_succ, List.foldl_cons]
    refine Ev.cut (f := fun k => impl_LayOf.l0 k s (deal l m s out i) (s.size : Int) ((i + 1 : Nat) : Int) l m) (ih (i + 1) _ (by omega) (by rw [deal_length]; exact hm') (deal_sizes hx b1)) (fun k => ?_)
    simp only [impl_LayOf.l0]
    have hy : lyAt l m (i : Int) = lAt l m (i : Int) := if_pos ⟨ho, by omega, by omega⟩
    rw [if_pos (by omega), impl_LayAt_is, hy]
    simp only [Option.bind_some]
    rw [if_pos b1, if_pos (by omega), if_pos (by omega), wsucc i (by omega), if_pos (by omega), if_pos (by omega), if_pos ?_]
    · rfl
    · show (rdOf ByteArray.empty out (lAt l m i).1).size + (s.extract i (i + 1)).size ≤ _
      omega
theorem impl_LayOf_is (l m : Int) (s : ByteArray) (hz : s.size < 4611686018427387904) : Ev (fun k => impl_LayOf.f k l m s) (lyOf l m s) := by
  unfold impl_LayOf.f lyOf
  simp only [impl_LayOk_is, Option.bind_some]
  cases h : laOk l m with
  | false => exact Ev.end_ (fun k => by simp [impl_LayOf.j0])
  | true =>
    have h' := of_decide_eq_true h
    simp only [if_true]
    refine Ev.bind (impl_TextOk_is s hz) ?_
    cases ht : tOk (B s) with
    | false => exact Ev.end_ (fun k => by simp [impl_LayOf.j0])
    | true =>
      have hs : s.size ≤ 48 := by rw [B_size]; simp [tOk] at ht; exact ht.2
      simp only [true_and, if_true]
      refine Ev.cut (f := fun k => impl_LayOf.l0 k s (List.replicate m.toNat (⟨#[]⟩ : ByteArray)) (s.size : Int) ((0 : Nat) : Int) l m) (impl_LayOf_l0 (by omega) (by omega) (by omega) (by omega) s hs s.size 0 _ (by omega) (by simp; omega) (fun x hx => by rw [List.eq_of_mem_replicate hx]; exact Nat.le_refl _)) (fun k => ?_)
      simp only [impl_LayOf.j0]
      rw [if_neg (by simp), if_pos (by omega), if_pos (by omega)]
      rfl
theorem lyOf_small (l m : Int) (s : ByteArray) : (lyOf l m s).length ≤ 3 := by
  unfold lyOf
  split
  · rename_i h
    have h' := of_decide_eq_true h.1
    have : ∀ (L : List Nat) (out : List ByteArray), (L.foldl (deal l m s) out).length = out.length := by
      intro L
      induction L with
      | nil => intro out; rfl
      | cons a L ih => intro out; rw [List.foldl_cons, ih, deal_length]
    rw [this]
    simp
    omega
  · simp

/-! Lists of strings, compared. -/
theorem rdOf_nat (L : List ByteArray) (i : Nat) : rdOf ByteArray.empty L (i : Int) = L.getD i ByteArray.empty := rfl
theorem laws_eqStringS_l (L : List ByteArray) (hL : L.length < 4611686018427387904) : ∀ (d i : Nat), i + d = L.length → Ev (fun k => laws_eqStringS.l0 k L L (i : Int)) true := by
  intro d
  induction d with
  | zero =>
    intro i hi
    refine Ev.end_ (fun k => ?_)
    simp only [laws_eqStringS.l0]
    rw [if_neg (by omega)]
  | succ d ih =>
    intro i hi
    refine Ev.cut (f := fun k => laws_eqStringS.l0 k L L ((i + 1 : Nat) : Int)) (ih (i + 1) (by omega)) (fun k => ?_)
    simp only [laws_eqStringS.l0]
    rw [if_pos (by omega), if_pos (by omega), if_pos (by omega), wsucc i (by omega)]
    simp
theorem laws_eqStringS_refl (L : List ByteArray) (hL : L.length < 4611686018427387904) : Ev (fun k => laws_eqStringS.f k L L) true := by
  unfold laws_eqStringS.f
  simp only [if_true]
  exact laws_eqStringS_l L hL L.length 0 (by omega)

/-! Marks, written and read again. -/
theorem markText_l : ∀ (n : Nat) (a : Int) (s : ByteArray), 0 ≤ a → a ≤ n → (s.size : Int) + a ≤ 4611686018427387904 → ∃ t, Ev (fun k => laws_markText.l0 k a s) t := by
  intro n
  induction n with
  | zero =>
    intro a s h0 h1 h2
    refine ⟨_, Ev.end_ (r := (⟨#[109]⟩ : ByteArray) ++ s) (fun k => ?_)⟩
    simp only [laws_markText.l0]
    rw [if_neg (by omega), if_pos (by omega)]
  | succ n ih =>
    intro a s h0 h1 h2
    by_cases hp : a > 0
    · have hz : (strOfNums [(wrap64 (48 + (Int.tmod a 10))) % 256] ++ s).size = 1 + s.size := by rw [B_size, B_app, List.length_append, ← B_size, ← B_size, strOfNums_size]; rfl
      have hw : wrap64 (Int.tdiv a 10) = a / 10 := by rw [Int.tdiv_eq_ediv_of_nonneg h0, wid (by omega) (by omega)]
      obtain ⟨t, ht⟩ := ih (a / 10) (strOfNums [(wrap64 (48 + (Int.tmod a 10))) % 256] ++ s) (by omega) (by omega) (by rw [hz]; omega)
      refine ⟨t, Ev.cut ht (fun k => ?_)⟩
      simp only [laws_markText.l0]
      rw [if_pos hp, Option.bind_some, if_pos (by rw [strOfNums_size]; show 1 + s.size ≤ _; omega), hw]
    · refine ⟨_, Ev.end_ (r := (⟨#[109]⟩ : ByteArray) ++ s) (fun k => ?_)⟩
      simp only [laws_markText.l0]
      rw [if_neg hp, if_pos (by omega)]
theorem markText_some (a : Int) (h : a ≤ 4611686018427387904) : ∃ t, Ev (fun k => laws_markText.f k a) t := by
  by_cases h0 : a ≤ 0
  · exact ⟨_, Ev.all (fun k => by unfold laws_markText.f; rw [if_pos h0])⟩
  · obtain ⟨t, ht⟩ := markText_l a.toNat a (⟨#[]⟩ : ByteArray) (by omega) (by omega) (by show (0 : Int) + a ≤ _; omega)
    refine ⟨t, ?_⟩
    unfold laws_markText.f
    simp only [if_neg h0]
    exact ht
open Classical in
noncomputable def mt (a : Int) : ByteArray := if h : ∃ t, Ev (fun k => laws_markText.f k a) t then h.choose else ByteArray.empty
theorem mt_is (a : Int) (h : a ≤ 4611686018427387904) : Ev (fun k => laws_markText.f k a) (mt a) := by
  unfold mt
  rw [dif_pos (markText_some a h)]
  exact (markText_some a h).choose_spec
noncomputable def mtL (n : Nat) (c : Int) : List ByteArray := (List.range n).map fun (j : Nat) => mt (c + (j : Int))
theorem mtL_get (n : Nat) (c : Int) (j : Nat) (h : j < n) : (mtL n c)[j]? = some (mt (c + (j : Int))) := by simp [mtL, h]
theorem mtL_length (n : Nat) (c : Int) : (mtL n c).length = n := by simp [mtL]
theorem markStringS_l (n : Nat) (c : Int) (hc : 0 ≤ c) (hn : c + n ≤ 4611686018427387904) : ∀ (d i : Nat) (M : List ByteArray), i + d = n → M.length = n → (∀ j, j < i → M[j]? = some (mt (c + (j : Int)))) →
    Ev (fun k => laws_markStringS.l0 k M (c + i) (i : Int)) (c + n, mtL n c) := by
  intro d
  induction d with
  | zero =>
    intro i M hi hM hj
    have : M = mtL n c := by
      apply List.ext_getElem?
      intro j
      by_cases h : j < i
      · rw [hj j h, mtL_get _ _ _ (by omega)]
      · rw [List.getElem?_eq_none (by omega), List.getElem?_eq_none (by rw [mtL_length]; omega)]
    refine Ev.end_ (fun k => ?_)
    simp only [laws_markStringS.l0]
    rw [if_neg (by omega), this, show i = n by omega]
  | succ d ih =>
    intro i M hi hM hj
    have h := ih (i + 1) (M.set i (mt (c + (i : Int)))) (by omega) (by simpa using hM) (by
      intro j hj'
      by_cases e : j = i
      · subst e
        rw [List.getElem?_set_self (by omega)]
      · rw [List.getElem?_set_ne (Ne.symm e)]
        exact hj j (by omega))
    refine Ev.cut (f := fun k => (laws_markText.f k (c + (i : Int))).bind fun t => if (0 : Int) ≤ (i : Int) then laws_markStringS.l0 k (M.set (i : Int).toNat t) (wrap64 (c + (i : Int) + 1)) (wrap64 ((i : Int) + 1)) else none) (Ev.bind (mt_is _ (by omega)) ?_) (fun k => ?_)
    · simp only [if_pos (show (0 : Int) ≤ (i : Int) by omega)]
      rw [wsucc i (by omega), wid (x := c + (i : Int) + 1) (by omega) (by omega), show c + (i : Int) + 1 = c + ((i + 1 : Nat) : Int) by omega]
      exact h
    · simp only [laws_markStringS.l0]
      rw [if_pos (by omega)]
theorem markStringS_is (M : List ByteArray) (c : Int) (hc : 0 ≤ c) (hn : c + M.length ≤ 4611686018427387904) : Ev (fun k => laws_markStringS.f k M c) (c + M.length, mtL M.length c) := by
  have h := markStringS_l M.length c hc hn M.length 0 M (by omega) rfl (fun j hj => by omega)
  simpa [laws_markStringS.f] using h
theorem heldStringS_l (n : Nat) (c : Int) (hc : 0 ≤ c) (hn : c + n ≤ 4611686018427387904) : ∀ (d i : Nat), i + d = n → Ev (fun k => laws_heldStringS.l0 k (mtL n c) (c + i) (i : Int)) (c + n) := by
  intro d
  induction d with
  | zero =>
    intro i hi
    refine Ev.end_ (fun k => ?_)
    simp only [laws_heldStringS.l0]
    rw [mtL_length, if_neg (by omega), show i = n by omega]
  | succ d ih =>
    intro i hi
    have hg : (mtL n c).getD i ByteArray.empty = mt (c + (i : Int)) := by rw [List.getD_eq_getElem?_getD, mtL_get _ _ _ (by omega)]; rfl
    refine Ev.cut (f := fun k => (laws_markText.f k (c + (i : Int))).bind fun t => if ((mtL n c).getD i ByteArray.empty).toList = t.toList then laws_heldStringS.l0 k (mtL n c) (wrap64 (c + (i : Int) + 1)) (wrap64 ((i : Int) + 1)) else some (-1)) (Ev.bind (mt_is _ (by omega)) ?_) (fun k => ?_)
    · simp only [hg, if_true]
      rw [wsucc i (by omega), wid (x := c + (i : Int) + 1) (by omega) (by omega), show c + (i : Int) + 1 = c + ((i + 1 : Nat) : Int) by omega]
      exact ih (i + 1) (by omega)
    · simp only [laws_heldStringS.l0]
      rw [mtL_length, if_pos (by omega), if_pos (by omega)]
      rfl
theorem heldStringS_is (n : Nat) (c : Int) (hc : 0 ≤ c) (hn : c + n ≤ 4611686018427387904) : Ev (fun k => laws_heldStringS.f k (mtL n c) c) (c + n) := by
  have h := heldStringS_l n c hc hn n 0 (by omega)
  simpa [laws_heldStringS.f] using h


theorem FnExactLayOf (a0_0 a0_1 : Int) (a1 : ByteArray) (w0_0 : (Lit.int .i64 a0_0).wf = true) (w0_1 : (Lit.int .i64 a0_1).wf = true) (w1 : a1.size ≤ maxLen) : ∃ k, laws_FnExactLayOf.f k a0_0 a0_1 a1 = some true := by
  by_cases h : (a1.size : Int) > 1048576
  · exact ⟨0, by unfold laws_FnExactLayOf.f; rw [if_pos h]⟩
  · refine Ev.rounds (r := true) (g := fun k => laws_FnExactLayOf.f k a0_0 a0_1 a1) ?_
    unfold laws_FnExactLayOf.f
    simp only [if_neg h, laws_toLay.f, Option.bind_some]
    have h1 := spec_LayOf_is a0_0 a0_1 a1 (by omega)
    have h2 := impl_LayOf_is a0_0 a0_1 a1 (by omega)
    have h3 := lyOf_small a0_0 a0_1 a1
    generalize lyOf a0_0 a0_1 a1 = L at h1 h2 h3
    have he := laws_eqStringS_refl L (by omega)
    have hm := markStringS_is L 1 (by omega) (by omega)
    have hh := heldStringS_is L.length 1 (by omega) (by omega)
    refine Ev.bind h1 (Ev.bind h2 (Ev.bind he ?_))
    simp only [if_true]
    refine Ev.bind hm (Ev.bind hh ?_)
    simp only [if_neg (show ¬ (1 + (L.length : Int) < 0) by omega), if_true]
    refine Ev.bind h2 (Ev.bind he ?_)
    simp only [if_true]
    refine Ev.bind hh ?_
    simp only [if_neg (show ¬ (1 + (L.length : Int) < 0) by omega), if_true]
    exact Ev.now _

end Go.Proofs.Ytdbmipnbcbhcnaa.Pure
