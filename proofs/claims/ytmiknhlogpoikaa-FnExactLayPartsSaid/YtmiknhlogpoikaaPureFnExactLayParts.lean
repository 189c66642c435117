/- The law FnExactLayParts over numbers and lists, as the program's text computes it: it answers true. Conditions: the arguments are of their kinds, lengths fit. -/
import Derived.Test.YtmiknhlogpoikaaQEx9
import Derived.OpenShut
import Derived.Laws.Strings
namespace Go.Proofs.Ytmiknhlogpoikaa.Pure
open Go.RowKit Go.Proofs.Ytmiknhlogpoikaa.QE Go.Proofs.YtmiknhlogpoikaaW.PrintWords Go.Proofs.YtmiknhlogpoikaaW.PrintLast
set_option linter.unusedVariables false
set_option linter.unusedSimpArgs false

/-! Words for the pure side: strings as lists of bytes, counters as natural numbers, what is answered from some round on. -/
def B (s : ByteArray) : List UInt8 := s.data.toList
theorem B_size (s : ByteArray) : s.size = (B s).length := (Array.length_toList).symm
theorem B_toList (s : ByteArray) : s.toList = B s := Go.ByteArray.toList_eq s
theorem B_inj {s t : ByteArray} (h : B s = B t) : s = t := by
  cases s; cases t
  simp only [B] at h
  congr 1
  exact Array.ext' h
theorem B_app (s t : ByteArray) : B (s ++ t) = B s ++ B t := by simp [B, ByteArray.data_append]
theorem app_size (s t : ByteArray) : (s ++ t).size = s.size + t.size := by rw [B_size, B_app, List.length_append, ← B_size, ← B_size]
theorem B_ext (s : ByteArray) (i j : Nat) : B (s.extract i j) = ((B s).take j).drop i := by
  simp [B, ByteArray.data_extract, List.extract_eq_take_drop, List.drop_take]
theorem B_nil : B (⟨#[]⟩ : ByteArray) = [] := rfl
theorem bt_B (s : ByteArray) (i : Nat) (h : i < (B s).length) : bt s (i : Int) = (((B s)[i]'h).toNat : Int) := by
  have h' : (i : Int).toNat < s.size := by rw [B_size]; simpa using h
  unfold bt
  rw [dif_pos h']
  rfl
theorem wsucc (i : Nat) (h : i < 4611686018427387904) : wrap64 ((i : Int) + 1) = ((i + 1 : Nat) : Int) := by unfold wrap64; omega
theorem wpred (i : Nat) (h : i < 4611686018427387904) (h0 : 0 < i) : wrap64 ((i : Int) - 1) = ((i - 1 : Nat) : Int) := by unfold wrap64; omega
theorem wid {x : Int} (h0 : -9223372036854775808 ≤ x) (h1 : x ≤ 9223372036854775807) : wrap64 x = x := by unfold wrap64; omega
theorem Ev.cut {α : Type} {g f : Nat → Option α} {r : α} (k : Ev f r) (h : ∀ k, g (k + 1) = f k) : Ev g r := Ev.step h k
theorem Ev.end_ {α : Type} {g : Nat → Option α} {r : α} (h : ∀ k, g (k + 1) = some r) : Ev g r := Ev.step h (Ev.now r)
theorem Ev.all {α : Type} {g : Nat → Option α} {r : α} (h : ∀ k, g k = some r) : Ev g r := ⟨0, fun k _ => h k⟩
theorem Ev.uniq {α : Type} {g : Nat → Option α} {r q : α} (h : Ev g r) (h' : Ev g q) : r = q := by
  obtain ⟨K, h⟩ := h
  obtain ⟨K', h'⟩ := h'
  have h1 := h (max K K') (by omega)
  rw [h' (max K K') (by omega)] at h1
  exact (Option.some.inj h1).symm
theorem dec_eq {p q : Prop} [Decidable p] [Decidable q] (h : p ↔ q) : (some (decide p) : Option Bool) = some (decide q) := by rw [decide_eq_decide.2 h]
theorem dec_false {q : Prop} [Decidable q] (h : ¬ q) : (some false : Option Bool) = some (decide q) := by rw [decide_eq_false h]
theorem dec_true {q : Prop} [Decidable q] (h : q) : (some true : Option Bool) = some (decide q) := by rw [decide_eq_true h]

/-! Layouts, valid. -/
def laOk (a b : Int) : Bool := decide (1 ≤ a ∧ a ≤ 8 ∧ 1 ≤ b ∧ b ≤ 3)
theorem spec_LayOk_is (a b : Int) : spec_LayOk.f a b = some (laOk a b) := by
  unfold spec_LayOk.f laOk
  repeat' split
  all_goals first | exact dec_eq (by omega) | exact dec_false (by omega)
theorem impl_LayOk_is (a b : Int) : impl_LayOk.f a b = some (laOk a b) := by
  unfold impl_LayOk.f laOk
  repeat' split
  all_goals first | exact dec_eq (by omega) | exact dec_false (by omega)

/-! Where a place lies. -/
def lAt (l m p : Int) : Int × Int := (p / l % m, p / l / m * l + p % l)
theorem lAt_bounds {l m p : Int} (hl : 1 ≤ l) (hl8 : l ≤ 8) (hm : 1 ≤ m) (hm3 : m ≤ 3) (h0 : 0 ≤ p) (h1 : p < 100) : 0 ≤ (lAt l m p).1 ∧ (lAt l m p).1 < m ∧ 0 ≤ (lAt l m p).2 ∧ (lAt l m p).2 ≤ p := by
  have hq0 : 0 ≤ p / l := Int.ediv_nonneg h0 (by omega)
  have e1 : p / l * l + p % l = p := by rw [Int.mul_comm]; exact Int.mul_ediv_add_emod p l
  have r0 : 0 ≤ p % l := Int.emod_nonneg _ (by omega)
  have hq2 : 0 ≤ p / l / m := Int.ediv_nonneg hq0 (by omega)
  have hq3 : p / l / m ≤ p / l := Int.ediv_le_self _ hq0
  refine ⟨Int.emod_nonneg _ (by omega), Int.emod_lt_of_pos _ (by omega), ?_, ?_⟩
  · exact Int.add_nonneg (Int.mul_nonneg hq2 (by omega)) r0
  · have := Int.mul_le_mul_of_nonneg_right hq3 (show 0 ≤ l by omega)
    show p / l / m * l + p % l ≤ p
    omega
theorem lAt_words {l m p : Int} (hl : 1 ≤ l) (hl8 : l ≤ 8) (hm : 1 ≤ m) (hm3 : m ≤ 3) (h0 : 0 ≤ p) (h1 : p < 100) :
    Int.tmod (wrap64 (Int.tdiv p l)) m = (lAt l m p).1 ∧ wrap64 ((wrap64 ((wrap64 (Int.tdiv (wrap64 (Int.tdiv p l)) m)) * l)) + (Int.tmod p l)) = (lAt l m p).2 := by
  have hq0 : 0 ≤ p / l := Int.ediv_nonneg h0 (by omega)
  have hqp : p / l ≤ p := Int.ediv_le_self _ h0
  have hq2 : 0 ≤ p / l / m := Int.ediv_nonneg hq0 (by omega)
  have hq3 : p / l / m ≤ p / l := Int.ediv_le_self _ hq0
  have r0 : 0 ≤ p % l := Int.emod_nonneg _ (by omega)
  have r1 : p % l < l := Int.emod_lt_of_pos _ (by omega)
  have m0 : 0 ≤ p / l / m * l := Int.mul_nonneg hq2 (by omega)
  have m1 : p / l / m * l ≤ 100 * 8 := Int.mul_le_mul (by omega) hl8 (by omega) (by omega)
  rw [Int.tdiv_eq_ediv_of_nonneg h0, wid (x := p / l) (by omega) (by omega), Int.tmod_eq_emod_of_nonneg hq0, Int.tdiv_eq_ediv_of_nonneg hq0, wid (x := p / l / m) (by omega) (by omega), wid (x := p / l / m * l) (by omega) (by omega), Int.tmod_eq_emod_of_nonneg h0, wid (by omega) (by omega)]
  exact ⟨rfl, rfl⟩
def lyAt (l m p : Int) : Int × Int := if laOk l m = true ∧ 0 ≤ p ∧ p < 48 then lAt l m p else (-1, -1)
theorem spec_l3At_is {l m p : Int} (hl : 1 ≤ l) (hl8 : l ≤ 8) (hm : 1 ≤ m) (hm3 : m ≤ 3) (h0 : 0 ≤ p) (h1 : p < 100) : spec_l3At.f l m p = some (lAt l m p) := by
  unfold spec_l3At.f
  obtain ⟨e1, e2⟩ := lAt_words hl hl8 hm hm3 h0 h1
  rw [if_neg (by omega), if_neg (by omega), e1, e2]

theorem impl_LayAt_is (l m p : Int) : impl_LayAt.f l m p = some (lyAt l m p) := by
  unfold impl_LayAt.f lyAt
  rw [impl_LayOk_is]
  cases h : laOk l m with
  | false => simp
  | true =>
    have h' := of_decide_eq_true h
    simp only [Option.bind_some, if_true]
    by_cases h0 : p < 0
    · rw [if_pos h0, if_neg (by omega)]
    · rw [if_neg h0]
      by_cases h1 : p ≥ 48
      · rw [if_pos h1, if_neg (by omega)]
      · obtain ⟨e1, e2⟩ := lAt_words (l := l) (m := m) (p := p) (by omega) (by omega) (by omega) (by omega) (by omega) (by omega)
        rw [if_neg h1, if_neg (show ¬ l = 0 by omega), if_neg (show ¬ m = 0 by omega), e1, e2, if_pos ⟨trivial, by omega, by omega⟩]

/-! Ranges, valid. -/
def spOk (a b : Int) : Bool := decide (0 ≤ a ∧ a < b ∧ b ≤ 48)
theorem spec_SpanOk_is (a b : Int) : spec_SpanOk.f a b = some (spOk a b) := by
  unfold spec_SpanOk.f spOk
  repeat' split
  all_goals first | exact dec_eq (by omega) | exact dec_false (by omega)
theorem impl_SpanOk_is (a b : Int) : impl_SpanOk.f a b = some (spOk a b) := by
  unfold impl_SpanOk.f spOk
  repeat' split
  all_goals first | exact dec_eq (by omega) | exact dec_false (by omega)

/-! The parts of a range, by the stripes. -/
theorem at_run {l m g q : Int} (hl : 1 ≤ l) (hl8 : l ≤ 8) (h0 : 0 ≤ g) (h1 : g ≤ q) (h2 : q < (g / l + 1) * l) : q / l = g / l ∧ q % l = g % l + (q - g) ∧ lAt l m q = ((lAt l m g).1, (lAt l m g).2 + (q - g)) ∧ (g < q → 0 < q % l) := by
  have hq : q / l = g / l ∧ q % l = g % l + (q - g) ∧ (g < q → 0 < q % l) := by
    have : l = 1 ∨ l = 2 ∨ l = 3 ∨ l = 4 ∨ l = 5 ∨ l = 6 ∨ l = 7 ∨ l = 8 := by omega
    rcases this with rfl | rfl | rfl | rfl | rfl | rfl | rfl | rfl <;> omega
  refine ⟨hq.1, hq.2.1, ?_, hq.2.2⟩
  unfold lAt
  rw [hq.1, hq.2.1, Int.add_assoc]
theorem run_gt {l f : Int} (hl : 1 ≤ l) (hl8 : l ≤ 8) (h0 : 0 ≤ f) : f < (f / l + 1) * l ∧ (f / l + 1) * l ≤ f + l ∧ ((f / l + 1) * l) % l = 0 := by
  have : l = 1 ∨ l = 2 ∨ l = 3 ∨ l = 4 ∨ l = 5 ∨ l = 6 ∨ l = 7 ∨ l = 8 := by omega
  rcases this with rfl | rfl | rfl | rfl | rfl | rfl | rfl | rfl <;> omega
def pc (l m f e : Int) : S55 := ⟨(lAt l m f).1, ⟨(lAt l m f).2, (lAt l m f).2 + (e - f)⟩, f⟩
def plL (l m h : Int) : Nat → Int → List S55
  | 0, _ => []
  | d + 1, f => if f < h then pc l m f (mn h ((f / l + 1) * l)) :: plL l m h d (mn h ((f / l + 1) * l)) else []
theorem plL_end (l m h : Int) (d : Nat) (f : Int) (hf : h ≤ f) : plL l m h d f = [] := by
  cases d with
  | zero => rfl
  | succ d => rw [plL, if_neg (by omega)]
theorem plL_len (l m h : Int) : ∀ (d : Nat) (f : Int), (plL l m h d f).length ≤ d
  | 0, _ => Nat.le_refl _
  | d + 1, f => by
    rw [plL]
    split
    · have := plL_len l m h d (mn h ((f / l + 1) * l))
      simp
      omega
    · simp
theorem plL_grow {l m p : Int} (hl : 1 ≤ l) (hl8 : l ≤ 8) : ∀ (d : Nat) (f : Int), 0 ≤ f → f ≤ p → p + 1 - f ≤ d →
    (f < p ∧ 0 < p % l → ∃ L0 g, plL l m p d f = L0 ++ [pc l m g p] ∧ plL l m (p + 1) d f = L0 ++ [pc l m g (p + 1)] ∧ g < p ∧ p < (g / l + 1) * l ∧ f ≤ g) ∧ (¬ (f < p ∧ 0 < p % l) → plL l m (p + 1) d f = plL l m p d f ++ [pc l m p (p + 1)])
  | 0, f, h0, h1, h2 => by omega
  | d + 1, f, h0, h1, h2 => by
    obtain ⟨g1, g2, g3⟩ := run_gt hl hl8 h0
    by_cases e : f = p
    · subst e
      refine ⟨fun h => by omega, fun _ => ?_⟩
      have em : mn (f + 1) ((f / l + 1) * l) = f + 1 := by unfold mn; split <;> omega
      rw [plL_end l m f (d + 1) f (Int.le_refl _), plL, if_pos (by omega), em, plL_end _ _ _ _ _ (Int.le_refl _)]
      rfl
    · by_cases hb : p < (f / l + 1) * l
      · have hr := (at_run (m := m) hl hl8 h0 h1 hb).2.2.2 (by omega)
        have em1 : mn (p + 1) ((f / l + 1) * l) = p + 1 := by unfold mn; split <;> omega
        have em0 : mn p ((f / l + 1) * l) = p := by unfold mn; split <;> omega
        refine ⟨fun _ => ⟨[], f, ?_, ?_, by omega, hb, Int.le_refl _⟩, fun h => absurd ⟨by omega, hr⟩ h⟩
        · rw [plL, if_pos (by omega), em0, plL_end _ _ _ _ _ (Int.le_refl _)]
          rfl
        · rw [plL, if_pos (by omega), em1, plL_end _ _ _ _ _ (Int.le_refl _)]
          rfl
      · have em1 : mn (p + 1) ((f / l + 1) * l) = (f / l + 1) * l := by unfold mn; split <;> omega
        have em0 : mn p ((f / l + 1) * l) = (f / l + 1) * l := by unfold mn; split <;> omega
        have c1 : plL l m p (d + 1) f = pc l m f ((f / l + 1) * l) :: plL l m p d ((f / l + 1) * l) := by rw [plL, if_pos (by omega), em0]
        have c2 : plL l m (p + 1) (d + 1) f = pc l m f ((f / l + 1) * l) :: plL l m (p + 1) d ((f / l + 1) * l) := by rw [plL, if_pos (by omega), em1]
        generalize (f / l + 1) * l = b at *
        obtain ⟨i1, i2⟩ := plL_grow (m := m) (p := p) hl hl8 d b (by omega) (by omega) (by omega)
        rw [c1, c2]
        refine ⟨fun h => ?_, fun h => ?_⟩
        · have hbp : b < p := by
            by_cases hh : b = p
            · rw [← hh, g3] at h
              omega
            · omega
          obtain ⟨L0, g, q1, q2, q3, q4, q5⟩ := i1 ⟨hbp, h.2⟩
          exact ⟨pc l m f b :: L0, g, by rw [q1]; rfl, by rw [q2]; rfl, q3, q4, by omega⟩
        · rw [i2 (fun hh => h ⟨by omega, hh.2⟩)]
          rfl
theorem plL_fuel {l m h : Int} (hl : 1 ≤ l) (hl8 : l ≤ 8) : ∀ (d : Nat) (f : Int), 0 ≤ f → h - f ≤ d → plL l m h (d + 1) f = plL l m h d f
  | 0, f, h0, h1 => by rw [plL_end _ _ _ _ _ (by omega), plL_end _ _ _ _ _ (by omega)]
  | d + 1, f, h0, h1 => by
    obtain ⟨g1, g2, g3⟩ := run_gt hl hl8 h0
    by_cases hf : f < h
    · have hb : f < mn h ((f / l + 1) * l) := by unfold mn; split <;> omega
      rw [plL, if_pos hf, plL_fuel hl hl8 d (mn h ((f / l + 1) * l)) (by omega) (by omega)]
      conv => rhs; rw [plL, if_pos hf]
    · rw [plL_end _ _ _ _ _ (by omega), plL_end _ _ _ _ _ (by omega)]
def lyParts (l m x y : Int) : List S55 := if laOk l m = true ∧ spOk x y = true then plL l m y 48 x else []
theorem impl_LayParts_l {l m : Int} (hk : laOk l m = true) (x y : Int) (hy : y ≤ 48) : ∀ (d : Nat) (f : Int) (out : List S55), 0 ≤ f → f ≤ y → y - f ≤ d → out.length + d ≤ 1000 → Ev (fun k => impl_LayParts.l0 k out f l m x y) (out ++ plL l m y d f) := by
  have hok := of_decide_eq_true hk
  intro d
  induction d with
  | zero =>
    intro f out h0 h1 h2 h3
    refine Ev.end_ (fun k => ?_)
    simp only [impl_LayParts.l0]
    rw [if_neg (by omega)]
    simp [plL]
  | succ d ih =>
    intro f out h0 h1 h2 h3
    by_cases hlt : f < y
    · obtain ⟨g1, g2, g3⟩ := run_gt hok.1 hok.2.1 h0
      have hb := lAt_bounds (l := l) (m := m) (p := f) hok.1 hok.2.1 hok.2.2.1 hok.2.2.2 h0 (by omega)
      have hq0 : 0 ≤ f / l := Int.ediv_nonneg h0 (by omega)
      have hq1 : f / l ≤ f := Int.ediv_le_self _ h0
      have hw : wrap64 (wrap64 (wrap64 (Int.tdiv f l) + 1) * l) = (f / l + 1) * l := by
        rw [Int.tdiv_eq_ediv_of_nonneg h0, wid (x := f / l) (by omega) (by omega), wid (x := f / l + 1) (by omega) (by omega), wid (by omega) (by omega)]
      have hmn : f < mn y ((f / l + 1) * l) ∧ mn y ((f / l + 1) * l) ≤ y := by unfold mn; split <;> omega
      have h := ih (mn y ((f / l + 1) * l)) (out ++ [pc l m f (mn y ((f / l + 1) * l))]) (by omega) (by omega) (by omega) (by simp; omega)
      have e : plL l m y (d + 1) f = pc l m f (mn y ((f / l + 1) * l)) :: plL l m y d (mn y ((f / l + 1) * l)) := by rw [plL, if_pos hlt]
      rw [e]
      rw [List.append_assoc] at h
      have hpc : (⟨(lAt l m f).1, ⟨(lAt l m f).2, wrap64 (wrap64 ((lAt l m f).2 + mn y ((f / l + 1) * l)) - f)⟩, f⟩ : S55) = pc l m f (mn y ((f / l + 1) * l)) := by
        unfold pc
        rw [wid (x := (lAt l m f).2 + mn y ((f / l + 1) * l)) (by omega) (by omega), wid (by omega) (by omega), Int.add_sub_assoc]
      refine Ev.cut h (fun k => ?_)
      simp only [impl_LayParts.l0, hw]
      rw [if_pos hlt, if_neg (by omega), impl_LayAt_is, show lyAt l m f = lAt l m f from if_pos ⟨hk, h0, by omega⟩]
      simp only [Option.bind_some]
      rw [if_pos (by omega), hpc]
    · rw [plL_end _ _ _ _ _ (by omega), List.append_nil]
      refine Ev.end_ (fun k => ?_)
      simp only [impl_LayParts.l0]
      rw [if_neg hlt]
theorem impl_LayParts_is (l m x y : Int) : Ev (fun k => impl_LayParts.f k l m x y) (lyParts l m x y) := by
  unfold impl_LayParts.f lyParts
  simp only [impl_LayOk_is, impl_SpanOk_is, Option.bind_some]
  have hbad : Ev (fun k => impl_LayParts.j0 k true l m x y) ([] : List S55) := Ev.end_ (fun k => by simp only [impl_LayParts.j0, if_true])
  cases hk : laOk l m with
  | false => simpa using hbad
  | true =>
    cases hs : spOk x y with
    | false => simpa using hbad
    | true =>
      have hs' := of_decide_eq_true hs
      simp only [if_true, and_self, Bool.not_true]
      refine Ev.cut (impl_LayParts_l hk x y hs'.2.2 48 x [] hs'.1 (by omega) (by omega) (by simp)) (fun k => ?_)
      simp only [impl_LayParts.j0, Bool.false_eq_true, if_false]
theorem rdPart_nat (L : List S55) (i : Nat) : rd_T55 L (i : Int) = L.getD i z55 := rfl
theorem spec_LayParts_l {l m : Int} (hk : laOk l m = true) (x y : Int) (hx : 0 ≤ x) (hy : y ≤ 48) : ∀ (d : Nat) (p : Int), x ≤ p → p ≤ y → (y - p).toNat = d → Ev (fun k => spec_LayParts.l0 k (plL l m p 49 x) p l m x y) (plL l m y 49 x) := by
  have hok := of_decide_eq_true hk
  intro d
  induction d with
  | zero =>
    intro p h0 h1 h2
    obtain rfl : p = y := by omega
    refine Ev.end_ (fun k => ?_)
    simp only [spec_LayParts.l0]
    rw [if_neg (by omega)]
  | succ d ih =>
    intro p h0 h1 h2
    have hpy : p < y := by omega
    have h := ih (p + 1) (by omega) (by omega) (by omega)
    clear ih h2
    obtain ⟨g1, g2⟩ := plL_grow (m := m) (p := p) hok.1 hok.2.1 49 x hx h0 (by omega)
    have hlen := plL_len l m p 49 x
    have hlb := lAt_bounds (l := l) (m := m) (p := p) hok.1 hok.2.1 hok.2.2.1 hok.2.2.2 (by omega) (by omega)
    have hat := spec_l3At_is (l := l) (m := m) (p := p) hok.1 hok.2.1 hok.2.2.1 hok.2.2.2 (by omega) (by omega)
    have hw : wrap64 ((lAt l m p).2 + 1) = (lAt l m p).2 + 1 := wid (by omega) (by omega)
    have hwp : wrap64 (p + 1) = p + 1 := wid (by omega) (by omega)
    have htm : Int.tmod p l = p % l := Int.tmod_eq_emod_of_nonneg (by omega)
    have hpc : pc l m p (p + 1) = ⟨(lAt l m p).1, ⟨(lAt l m p).2, (lAt l m p).2 + 1⟩, p⟩ := by unfold pc; rw [show p + 1 - p = 1 by omega]
    by_cases hc : x < p ∧ 0 < p % l
    · obtain ⟨L0, g, q1, q2, q3, q4, q5⟩ := g1 hc
      clear g1 g2
      obtain ⟨r1, r2, r3, r4⟩ := at_run (m := m) (g := g) (q := p) hok.1 hok.2.1 (by omega) (by omega) q4
      rw [q2] at h
      have hL : (plL l m p 49 x).length = L0.length + 1 := by rw [q1]; simp
      have hlast : rd_T55 (plL l m p 49 x) (wrap64 (((plL l m p 49 x).length : Int) - 1)) = pc l m g p := by
        rw [wpred _ (by omega) (by omega), rdPart_nat, hL, q1, List.getD_eq_getElem?_getD]
        simp
      have e1 : (pc l m g p).f0 = (lAt l m p).1 := by rw [r3]; rfl
      have e2 : (pc l m g p).f1.f1 = (lAt l m p).2 := by rw [r3]; rfl
      have hset : (plL l m p 49 x).set (wrap64 (((plL l m p 49 x).length : Int) - 1)).toNat (⟨(pc l m g p).f0, ⟨(pc l m g p).f1.f0, (lAt l m p).2 + 1⟩, (pc l m g p).f2⟩ : S55) = L0 ++ [pc l m g (p + 1)] := by
        rw [wpred _ (by omega) (by omega), Int.toNat_natCast, hL, q1]
        have : (⟨(pc l m g p).f0, ⟨(pc l m g p).f1.f0, (lAt l m p).2 + 1⟩, (pc l m g p).f2⟩ : S55) = pc l m g (p + 1) := by
          rw [r3]
          unfold pc
          simp only [Int.add_assoc, Int.add_sub_assoc]
          congr 3
          omega
        rw [this]
        simp
      refine Ev.cut h (fun k => ?_)
      simp only [spec_LayParts.l0, hat, Option.bind_some, hw, hwp, htm, hlast]
      rw [if_pos hpy, if_pos (by omega), wpred _ (by omega) (by omega), if_pos (by omega), if_pos (by omega), if_pos e1, if_pos e2, if_neg (by omega), if_pos (by omega)]
      rw [wpred _ (by omega) (by omega)] at hset
      rw [hset]
    · have e := g2 hc
      clear g1 g2
      rw [e, hpc] at h
      refine Ev.cut h (fun k => ?_)
      simp only [spec_LayParts.l0, hat, Option.bind_some, hw, hwp, htm]
      rw [if_pos hpy]
      have happ : (plL l m p 49 x).length < 4398046511104 := by omega
      by_cases hz : ((plL l m p 49 x).length : Int) > 0
      · have hxp : x < p := by
          by_cases hxp : x < p
          · exact hxp
          · rw [plL_end _ _ _ _ _ (by omega)] at hz
            simp at hz
        have hnp : ¬ p % l > 0 := fun hh => hc ⟨hxp, by omega⟩
        rw [if_pos hz, wpred _ (by omega) (by omega), if_pos (by omega), if_pos (by omega)]
        simp only [if_neg hnp, if_pos happ, if_neg (show ¬ l = 0 by omega)]
        split
        · split <;> rfl
        · rfl
      · rw [if_neg hz, if_pos happ]
theorem spec_LayParts_is (l m x y : Int) : Ev (fun k => spec_LayParts.f k l m x y) (lyParts l m x y) := by
  unfold spec_LayParts.f lyParts
  simp only [spec_LayOk_is, spec_SpanOk_is, Option.bind_some]
  have hbad : Ev (fun k => spec_LayParts.j0 k [] true l m x y) ([] : List S55) := Ev.end_ (fun k => by simp only [spec_LayParts.j0, if_true])
  cases hk : laOk l m with
  | false => simpa using hbad
  | true =>
    cases hs : spOk x y with
    | false => simpa using hbad
    | true =>
      have hs' := of_decide_eq_true hs
      simp only [if_true, and_self, Bool.not_true]
      have h := spec_LayParts_l hk x y hs'.1 hs'.2.2 (y - x).toNat x (Int.le_refl _) (by omega) rfl
      rw [plL_end _ _ _ _ _ (Int.le_refl _)] at h
      have hok := of_decide_eq_true hk
      have e : plL l m y 49 x = plL l m y 48 x := plL_fuel hok.1 hok.2.1 48 x hs'.1 (by omega)
      rw [e] at h
      refine Ev.cut h (fun k => ?_)
      simp only [spec_LayParts.j0, Bool.false_eq_true, if_false]

/-! Marks in parts, written and read again. -/
def mkPt (n : Nat) (c : Int) : List S55 := (List.range n).map fun (j : Nat) => ⟨c + 4 * (j : Int), ⟨c + 4 * (j : Int) + 1, c + 4 * (j : Int) + 1 + 1⟩, c + 4 * (j : Int) + 1 + 1 + 1⟩
theorem mkPt_get (n : Nat) (c : Int) (j : Nat) (h : j < n) : (mkPt n c)[j]? = some ⟨c + 4 * (j : Int), ⟨c + 4 * (j : Int) + 1, c + 4 * (j : Int) + 1 + 1⟩, c + 4 * (j : Int) + 1 + 1 + 1⟩ := by simp [mkPt, h]
theorem mkPt_length (n : Nat) (c : Int) : (mkPt n c).length = n := by simp [mkPt]
theorem rdset (M : List S55) (i : Nat) (v : S55) (h : i < M.length) : rd_T55 (M.set i v) (i : Int) = v := by
  rw [rdPart_nat, List.getD_eq_getElem?_getD, List.getElem?_set_self h]
  rfl
theorem markPartS_l (n : Nat) (c : Int) (hc : 0 ≤ c) (hn : c + 4 * n ≤ 4611686018427387904) : ∀ (d i : Nat) (M : List S55), i + d = n → M.length = n → (∀ j, j < i → M[j]? = (mkPt n c)[j]?) →
    Ev (fun k => laws_markPartS.l0 k M (c + 4 * (i : Int)) (i : Int)) (c + 4 * n, mkPt n c) := by
  intro d
  induction d with
  | zero =>
    intro i M hi hM hj
    have : M = mkPt n c := by
      apply List.ext_getElem?
      intro j
      by_cases h : j < i
      · exact hj j h
      · rw [List.getElem?_eq_none (by omega), List.getElem?_eq_none (by rw [mkPt_length]; omega)]
    refine Ev.end_ (fun k => ?_)
    simp only [laws_markPartS.l0]
    rw [if_neg (by omega), this, show i = n by omega]
  | succ d ih =>
    intro i M hi hM hj
    have h := ih (i + 1) (M.set i ⟨c + 4 * (i : Int), ⟨c + 4 * (i : Int) + 1, c + 4 * (i : Int) + 1 + 1⟩, c + 4 * (i : Int) + 1 + 1 + 1⟩) (by omega) (by simpa using hM) (by
      intro j hj'
      by_cases e : j = i
      · subst e
        rw [List.getElem?_set_self (by omega), mkPt_get _ _ _ (by omega)]
      · rw [List.getElem?_set_ne (Ne.symm e)]
        exact hj j (by omega))
    refine Ev.cut h (fun k => ?_)
    have w1 : wrap64 (c + 4 * (i : Int) + 1) = c + 4 * (i : Int) + 1 := wid (by omega) (by omega)
    have w2 : wrap64 (c + 4 * (i : Int) + 1 + 1) = c + 4 * (i : Int) + 1 + 1 := wid (by omega) (by omega)
    have w3 : wrap64 (c + 4 * (i : Int) + 1 + 1 + 1) = c + 4 * (i : Int) + 1 + 1 + 1 := wid (by omega) (by omega)
    have w4 : wrap64 (c + 4 * (i : Int) + 1 + 1 + 1 + 1) = c + 4 * ((i + 1 : Nat) : Int) := by rw [wid (by omega) (by omega)]; omega
    simp only [laws_markPartS.l0, Option.bind_some, Int.toNat_natCast, w1, w2, w3, w4]
    rw [if_pos (by omega), if_pos (by omega), rdset _ _ _ (by omega)]
    simp only [List.set_set]
    rw [rdset _ _ _ (by omega)]
    simp only
    rw [rdset _ _ _ (by omega), wsucc i (by omega)]
theorem markPartS_is (M : List S55) (c : Int) (hc : 0 ≤ c) (hn : c + 4 * M.length ≤ 4611686018427387904) : Ev (fun k => laws_markPartS.f k M c) (c + 4 * M.length, mkPt M.length c) := by
  have h := markPartS_l M.length c hc hn M.length 0 M (by omega) rfl (fun j hj => by omega)
  simpa [laws_markPartS.f] using h
theorem heldPartS_l (n : Nat) (c : Int) (hc : 0 ≤ c) (hn : c + 4 * n ≤ 4611686018427387904) : ∀ (d i : Nat), i + d = n → Ev (fun k => laws_heldPartS.l0 k (mkPt n c) (c + 4 * (i : Int)) (i : Int)) (c + 4 * n) := by
  intro d
  induction d with
  | zero =>
    intro i hi
    refine Ev.end_ (fun k => ?_)
    simp only [laws_heldPartS.l0]
    rw [mkPt_length, if_neg (by omega), show i = n by omega]
  | succ d ih =>
    intro i hi
    have hg : rd_T55 (mkPt n c) (i : Int) = ⟨c + 4 * (i : Int), ⟨c + 4 * (i : Int) + 1, c + 4 * (i : Int) + 1 + 1⟩, c + 4 * (i : Int) + 1 + 1 + 1⟩ := by rw [rdPart_nat, List.getD_eq_getElem?_getD, mkPt_get _ _ _ (by omega)]; rfl
    have w1 : wrap64 (c + 4 * (i : Int) + 1) = c + 4 * (i : Int) + 1 := wid (by omega) (by omega)
    have w2 : wrap64 (c + 4 * (i : Int) + 1 + 1) = c + 4 * (i : Int) + 1 + 1 := wid (by omega) (by omega)
    have w3 : wrap64 (c + 4 * (i : Int) + 1 + 1 + 1) = c + 4 * (i : Int) + 1 + 1 + 1 := wid (by omega) (by omega)
    have w4 : wrap64 (c + 4 * (i : Int) + 1 + 1 + 1 + 1) = c + 4 * ((i + 1 : Nat) : Int) := by rw [wid (by omega) (by omega)]; omega
    refine Ev.cut (f := fun k => laws_heldPartS.l0 k (mkPt n c) (c + 4 * ((i + 1 : Nat) : Int)) ((i + 1 : Nat) : Int)) (ih (i + 1) (by omega)) (fun k => ?_)
    simp only [laws_heldPartS.l0, hg, w1, w2, w3, w4]
    rw [mkPt_length, if_pos (by omega), if_pos (by omega), wsucc i (by omega)]
    simp only [if_true]
theorem heldPartS_is (n : Nat) (c : Int) (hc : 0 ≤ c) (hn : c + 4 * n ≤ 4611686018427387904) : Ev (fun k => laws_heldPartS.f k (mkPt n c) c) (c + 4 * n) := by
  have h := heldPartS_l n c hc hn n 0 (by omega)
  simpa [laws_heldPartS.f] using h
theorem laws_eqPartS_l (L : List S55) (hL : L.length < 4611686018427387904) : ∀ (d i : Nat), i + d = L.length → Ev (fun k => laws_eqPartS.l0 k L L (i : Int)) true := by
  intro d
  induction d with
  | zero =>
    intro i hi
    refine Ev.end_ (fun k => ?_)
    simp only [laws_eqPartS.l0]
    rw [if_neg (by omega)]
  | succ d ih =>
    intro i hi
    refine Ev.cut (f := fun k => laws_eqPartS.l0 k L L ((i + 1 : Nat) : Int)) (ih (i + 1) (by omega)) (fun k => ?_)
    simp only [laws_eqPartS.l0]
    rw [if_pos (by omega), if_pos (by omega), if_pos (by omega), wsucc i (by omega)]
    simp [laws_eqPart.f, laws_eqSpan.f]
theorem laws_eqPartS_refl (L : List S55) (hL : L.length < 4611686018427387904) : Ev (fun k => laws_eqPartS.f k L L) true := by
  unfold laws_eqPartS.f
  simp only [if_true]
  exact laws_eqPartS_l L hL L.length 0 (by omega)
theorem lyParts_len (l m x y : Int) : (lyParts l m x y).length ≤ 48 := by
  unfold lyParts
  split
  · exact plL_len _ _ _ _ _
  · simp


theorem FnExactLayParts (a0_0 a0_1 : Int) (a1_0 a1_1 : Int) (w0_0 : (Lit.int .i64 a0_0).wf = true) (w0_1 : (Lit.int .i64 a0_1).wf = true) (w1_0 : (Lit.int .i64 a1_0).wf = true) (w1_1 : (Lit.int .i64 a1_1).wf = true) : ∃ k, laws_FnExactLayParts.f k a0_0 a0_1 a1_0 a1_1 = some true := by
  refine Ev.rounds (r := true) (g := fun k => laws_FnExactLayParts.f k a0_0 a0_1 a1_0 a1_1) ?_
  unfold laws_FnExactLayParts.f
  simp only [laws_toLay.f, laws_toSpan.f, Option.bind_some]
  have h1 := spec_LayParts_is a0_0 a0_1 a1_0 a1_1
  have h2 := impl_LayParts_is a0_0 a0_1 a1_0 a1_1
  have h3 := lyParts_len a0_0 a0_1 a1_0 a1_1
  generalize lyParts a0_0 a0_1 a1_0 a1_1 = M at h1 h2 h3
  have he := laws_eqPartS_refl M (by omega)
  have hm := markPartS_is M 1 (by omega) (by omega)
  have hh := heldPartS_is M.length 1 (by omega) (by omega)
  refine Ev.bind h1 (Ev.bind h2 (Ev.bind he ?_))
  simp only [if_true]
  refine Ev.bind hm (Ev.bind hh ?_)
  simp only [if_neg (show ¬ (1 + 4 * (M.length : Int) < 0) by omega), if_true]
  refine Ev.bind h2 (Ev.bind he ?_)
  simp only [if_true]
  refine Ev.bind hh ?_
  simp only [if_neg (show ¬ (1 + 4 * (M.length : Int) < 0) by omega), if_true]
  exact Ev.now _

end Go.Proofs.Ytmiknhlogpoikaa.Pure
