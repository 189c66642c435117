/- The law FnLayPieces over numbers and lists, as the program's text computes it: it answers true. Conditions: the arguments are of their kinds, lengths fit. -/
import Derived.Test.YtmiknhlogpoikaaQLx12
import Derived.OpenShut
import Derived.Laws.Strings
namespace Go.Proofs.Ytmiknhlogpoikaa.Pure
open Go.RowKit Go.Proofs.Ytmiknhlogpoikaa.QL Go.Proofs.YtmiknhlogpoikaaW.PrintWords Go.Proofs.YtmiknhlogpoikaaW.PrintLast
set_option linter.unusedVariables false
set_option linter.unusedSimpArgs false

/-! Words for the pure side: strings as lists of bytes, counters as natural numbers, what is answered from some round on. -/
def B (s : ByteArray) : List UInt8 := s.data.toList
theorem B_size (s : ByteArray) : s.size = (B s).length := (Array.length_toList).symm
theorem B_toList (s : ByteArray) : s.toList = B s := Go.ByteArray.toList_eq s
theorem B_inj {s t : ByteArray} (h : B s = B t) : s = t := by
  cases s; cases t
  simp only [B] at h
  congr 1
  exact Array.ext' h
theorem B_app (s t : ByteArray) : B (s ++ t) = B s ++ B t := by simp [B, ByteArray.data_append]
theorem app_size (s t : ByteArray) : (s ++ t).size = s.size + t.size := by rw [B_size, B_app, List.length_append, ← B_size, ← B_size]
theorem B_ext (s : ByteArray) (i j : Nat) : B (s.extract i j) = ((B s).take j).drop i := by
  simp [B, ByteArray.data_extract, List.extract_eq_take_drop, List.drop_take]
theorem B_nil : B (⟨#[]⟩ : ByteArray) = [] := rfl
theorem bt_B (s : ByteArray) (i : Nat) (h : i < (B s).length) : bt s (i : Int) = (((B s)[i]'h).toNat : Int) := by
  have h' : (i : Int).toNat < s.size := by rw [B_size]; simpa using h
  unfold bt
  rw [dif_pos h']
  rfl
theorem wsucc (i : Nat) (h : i < 4611686018427387904) : wrap64 ((i : Int) + 1) = ((i + 1 : Nat) : Int) := by unfold wrap64; omega
theorem wpred (i : Nat) (h : i < 4611686018427387904) (h0 : 0 < i) : wrap64 ((i : Int) - 1) = ((i - 1 : Nat) : Int) := by unfold wrap64; omega
theorem wid {x : Int} (h0 : -9223372036854775808 ≤ x) (h1 : x ≤ 9223372036854775807) : wrap64 x = x := by unfold wrap64; omega
theorem Ev.cut {α : Type} {g f : Nat → Option α} {r : α} (k : Ev f r) (h : ∀ k, g (k + 1) = f k) : Ev g r := Ev.step h k
theorem Ev.end_ {α : Type} {g : Nat → Option α} {r : α} (h : ∀ k, g (k + 1) = some r) : Ev g r := Ev.step h (Ev.now r)
theorem Ev.all {α : Type} {g : Nat → Option α} {r : α} (h : ∀ k, g k = some r) : Ev g r := ⟨0, fun k _ => h k⟩
theorem Ev.uniq {α : Type} {g : Nat → Option α} {r q : α} (h : Ev g r) (h' : Ev g q) : r = q := by
  obtain ⟨K, h⟩ := h
  obtain ⟨K', h'⟩ := h'
  have h1 := h (max K K') (by omega)
  rw [h' (max K K') (by omega)] at h1
  exact (Option.some.inj h1).symm
theorem dec_eq {p q : Prop} [Decidable p] [Decidable q] (h : p ↔ q) : (some (decide p) : Option Bool) = some (decide q) := by rw [decide_eq_decide.2 h]
theorem dec_false {q : Prop} [Decidable q] (h : ¬ q) : (some false : Option Bool) = some (decide q) := by rw [decide_eq_false h]
theorem dec_true {q : Prop} [Decidable q] (h : q) : (some true : Option Bool) = some (decide q) := by rw [decide_eq_true h]

/-! Layouts, valid. -/
def laOk (a b : Int) : Bool := decide (1 ≤ a ∧ a ≤ 8 ∧ 1 ≤ b ∧ b ≤ 3)
theorem spec_LayOk_is (a b : Int) : spec_LayOk.f a b = some (laOk a b) := by
  unfold spec_LayOk.f laOk
  repeat' split
  all_goals first | exact dec_eq (by omega) | exact dec_false (by omega)
theorem impl_LayOk_is (a b : Int) : impl_LayOk.f a b = some (laOk a b) := by
  unfold impl_LayOk.f laOk
  repeat' split
  all_goals first | exact dec_eq (by omega) | exact dec_false (by omega)

/-! Where a place lies. -/
def lAt (l m p : Int) : Int × Int := (p / l % m, p / l / m * l + p % l)
theorem lAt_bounds {l m p : Int} (hl : 1 ≤ l) (hl8 : l ≤ 8) (hm : 1 ≤ m) (hm3 : m ≤ 3) (h0 : 0 ≤ p) (h1 : p < 100) : 0 ≤ (lAt l m p).1 ∧ (lAt l m p).1 < m ∧ 0 ≤ (lAt l m p).2 ∧ (lAt l m p).2 ≤ p := by
  have hq0 : 0 ≤ p / l := Int.ediv_nonneg h0 (by omega)
  have e1 : p / l * l + p % l = p := by rw [Int.mul_comm]; exact Int.mul_ediv_add_emod p l
  have r0 : 0 ≤ p % l := Int.emod_nonneg _ (by omega)
  have hq2 : 0 ≤ p / l / m := Int.ediv_nonneg hq0 (by omega)
  have hq3 : p / l / m ≤ p / l := Int.ediv_le_self _ hq0
  refine ⟨Int.emod_nonneg _ (by omega), Int.emod_lt_of_pos _ (by omega), ?_, ?_⟩
  · exact Int.add_nonneg (Int.mul_nonneg hq2 (by omega)) r0
  · have := Int.mul_le_mul_of_nonneg_right hq3 (show 0 ≤ l by omega)
    show p / l / m * l + p % l ≤ p
    omega
theorem lAt_words {l m p : Int} (hl : 1 ≤ l) (hl8 : l ≤ 8) (hm : 1 ≤ m) (hm3 : m ≤ 3) (h0 : 0 ≤ p) (h1 : p < 100) :
    Int.tmod (wrap64 (Int.tdiv p l)) m = (lAt l m p).1 ∧ wrap64 ((wrap64 ((wrap64 (Int.tdiv (wrap64 (Int.tdiv p l)) m)) * l)) + (Int.tmod p l)) = (lAt l m p).2 := by
  have hq0 : 0 ≤ p / l := Int.ediv_nonneg h0 (by omega)
  have hqp : p / l ≤ p := Int.ediv_le_self _ h0
  have hq2 : 0 ≤ p / l / m := Int.ediv_nonneg hq0 (by omega)
  have hq3 : p / l / m ≤ p / l := Int.ediv_le_self _ hq0
  have r0 : 0 ≤ p % l := Int.emod_nonneg _ (by omega)
  have r1 : p % l < l := Int.emod_lt_of_pos _ (by omega)
  have m0 : 0 ≤ p / l / m * l := Int.mul_nonneg hq2 (by omega)
  have m1 : p / l / m * l ≤ 100 * 8 := Int.mul_le_mul (by omega) hl8 (by omega) (by omega)
  rw [Int.tdiv_eq_ediv_of_nonneg h0, wid (x := p / l) (by omega) (by omega), Int.tmod_eq_emod_of_nonneg hq0, Int.tdiv_eq_ediv_of_nonneg hq0, wid (x := p / l / m) (by omega) (by omega), wid (x := p / l / m * l) (by omega) (by omega), Int.tmod_eq_emod_of_nonneg h0, wid (by omega) (by omega)]
  exact ⟨rfl, rfl⟩
def lyAt (l m p : Int) : Int × Int := if laOk l m = true ∧ 0 ≤ p ∧ p < 48 then lAt l m p else (-1, -1)
theorem spec_l3At_is {l m p : Int} (hl : 1 ≤ l) (hl8 : l ≤ 8) (hm : 1 ≤ m) (hm3 : m ≤ 3) (h0 : 0 ≤ p) (h1 : p < 100) : spec_l3At.f l m p = some (lAt l m p) := by
  unfold spec_l3At.f
  obtain ⟨e1, e2⟩ := lAt_words hl hl8 hm hm3 h0 h1
  rw [if_neg (by omega), if_neg (by omega), e1, e2]

theorem impl_LayAt_is (l m p : Int) : impl_LayAt.f l m p = some (lyAt l m p) := by
  unfold impl_LayAt.f lyAt
  rw [impl_LayOk_is]
  cases h : laOk l m with
  | false => simp
  | true =>
    have h' := of_decide_eq_true h
    simp only [Option.bind_some, if_true]
    by_cases h0 : p < 0
    · rw [if_pos h0, if_neg (by omega)]
    · rw [if_neg h0]
      by_cases h1 : p ≥ 48
      · rw [if_pos h1, if_neg (by omega)]
      · obtain ⟨e1, e2⟩ := lAt_words (l := l) (m := m) (p := p) (by omega) (by omega) (by omega) (by omega) (by omega) (by omega)
        rw [if_neg h1, if_neg (show ¬ l = 0 by omega), if_neg (show ¬ m = 0 by omega), e1, e2, if_pos ⟨trivial, by omega, by omega⟩]

/-! Ranges, valid. -/
def spOk (a b : Int) : Bool := decide (0 ≤ a ∧ a < b ∧ b ≤ 48)
theorem spec_SpanOk_is (a b : Int) : spec_SpanOk.f a b = some (spOk a b) := by
  unfold spec_SpanOk.f spOk
  repeat' split
  all_goals first | exact dec_eq (by omega) | exact dec_false (by omega)
theorem impl_SpanOk_is (a b : Int) : impl_SpanOk.f a b = some (spOk a b) := by
  unfold impl_SpanOk.f spOk
  repeat' split
  all_goals first | exact dec_eq (by omega) | exact dec_false (by omega)

/-! What two ranges have in common. -/
def spMeet (a b c d : Int) : Int × Int × Bool := if spOk a b = true ∧ spOk c d = true ∧ mx a c < mn b d then (mx a c, mn b d, true) else (0, 0, false)
theorem impl_SpanMeet_is (a b c d : Int) : impl_SpanMeet.f a b c d = some (spMeet a b c d) := by
  unfold impl_SpanMeet.f spMeet
  rw [impl_SpanOk_is, impl_SpanOk_is, impl_SpanOk_is]
  cases h : spOk a b with
  | false => simp
  | true =>
    cases h2 : spOk c d with
    | false => simp
    | true =>
      have h' := of_decide_eq_true h
      have h2' := of_decide_eq_true h2
      simp only [Option.bind_some, if_true]
      cases h3 : spOk (mx a c) (mn b d) with
      | true =>
        have h3' := of_decide_eq_true h3
        rw [if_pos rfl, if_pos ⟨trivial, trivial, by omega⟩]
      | false =>
        have h3' := of_decide_eq_false h3
        rw [if_neg (by simp), if_neg (fun hh => h3' ⟨by unfold mx; split <;> omega, hh.2.2, by unfold mn; split <;> omega⟩)]

theorem l1Min_is (a b : Int) : spec_l1Min.f a b = some (mn a b) := by
  unfold spec_l1Min.f mn
  split <;> split <;> first | rfl | (congr 1; omega)

/-! Which place lies there. -/
def lBack (l m o a : Int) : Int := (a / l * m + o) * l + a % l
theorem lBack_bounds {l m o a : Int} (hl : 1 ≤ l) (hl8 : l ≤ 8) (hm : 1 ≤ m) (hm3 : m ≤ 3) (ho : 0 ≤ o) (ho3 : o < 3) (h0 : 0 ≤ a) (h1 : a < 100) : 0 ≤ lBack l m o a ∧ lBack l m o a ≤ 5000 := by
  have hq0 : 0 ≤ a / l := Int.ediv_nonneg h0 (by omega)
  have hqa : a / l ≤ a := Int.ediv_le_self _ h0
  have r0 : 0 ≤ a % l := Int.emod_nonneg _ (by omega)
  have r1 : a % l < l := Int.emod_lt_of_pos _ (by omega)
  have m0 : 0 ≤ a / l * m := Int.mul_nonneg hq0 (by omega)
  have m1 : a / l * m ≤ 100 * 3 := Int.mul_le_mul (by omega) hm3 (by omega) (by omega)
  have p0 : 0 ≤ (a / l * m + o) * l := Int.mul_nonneg (by omega) (by omega)
  have p1 : (a / l * m + o) * l ≤ 303 * 8 := Int.mul_le_mul (by omega) hl8 (by omega) (by omega)
  unfold lBack
  omega
theorem lBack_words {l m o a : Int} (hl : 1 ≤ l) (hl8 : l ≤ 8) (hm : 1 ≤ m) (hm3 : m ≤ 3) (ho : 0 ≤ o) (ho3 : o < 3) (h0 : 0 ≤ a) (h1 : a < 100) :
    wrap64 ((wrap64 ((wrap64 ((wrap64 ((wrap64 (Int.tdiv a l)) * m)) + o)) * l)) + (Int.tmod a l)) = lBack l m o a := by
  have hq0 : 0 ≤ a / l := Int.ediv_nonneg h0 (by omega)
  have hqa : a / l ≤ a := Int.ediv_le_self _ h0
  have r0 : 0 ≤ a % l := Int.emod_nonneg _ (by omega)
  have r1 : a % l < l := Int.emod_lt_of_pos _ (by omega)
  have m0 : 0 ≤ a / l * m := Int.mul_nonneg hq0 (by omega)
  have m1 : a / l * m ≤ 100 * 3 := Int.mul_le_mul (by omega) hm3 (by omega) (by omega)
  have p0 : 0 ≤ (a / l * m + o) * l := Int.mul_nonneg (by omega) (by omega)
  have p1 : (a / l * m + o) * l ≤ 303 * 8 := Int.mul_le_mul (by omega) hl8 (by omega) (by omega)
  rw [Int.tdiv_eq_ediv_of_nonneg h0, wid (x := a / l) (by omega) (by omega), wid (x := a / l * m) (by omega) (by omega), wid (x := a / l * m + o) (by omega) (by omega), wid (x := (a / l * m + o) * l) (by omega) (by omega), Int.tmod_eq_emod_of_nonneg h0, wid (by omega) (by omega)]
  rfl

/-! Facts on layouts that are few enough to be looked at one by one. -/
theorem lay_all (Q : Int → Int → Int → Prop) [∀ a b c, Decidable (Q a b c)] (h : ∀ l : Fin 8, ∀ m : Fin 3, ∀ p : Fin 50, Q (((l.val + 1 : Nat) : Int)) (((m.val + 1 : Nat) : Int)) ((p.val : Nat) : Int)) {l m p : Int} (hl : 1 ≤ l) (hl8 : l ≤ 8) (hm : 1 ≤ m) (hm3 : m ≤ 3) (h0 : 0 ≤ p) (h1 : p < 50) : Q l m p := by
  have e1 : (((⟨(l - 1).toNat, by omega⟩ : Fin 8).val + 1 : Nat) : Int) = l := by show (((l - 1).toNat + 1 : Nat) : Int) = l; omega
  have e2 : (((⟨(m - 1).toNat, by omega⟩ : Fin 3).val + 1 : Nat) : Int) = m := by show (((m - 1).toNat + 1 : Nat) : Int) = m; omega
  have e3 : (((⟨p.toNat, by omega⟩ : Fin 50).val : Nat) : Int) = p := by show ((p.toNat : Nat) : Int) = p; omega
  have := h ⟨(l - 1).toNat, by omega⟩ ⟨(m - 1).toNat, by omega⟩ ⟨p.toNat, by omega⟩
  rwa [e1, e2, e3] at this

theorem back_at {l m p : Int} (hl : 1 ≤ l) (hl8 : l ≤ 8) (hm : 1 ≤ m) (hm3 : m ≤ 3) (h0 : 0 ≤ p) (h1 : p < 50) : lBack l m (lAt l m p).1 (lAt l m p).2 = p :=
  lay_all (fun l m p => lBack l m (lAt l m p).1 (lAt l m p).2 = p) (by decide +kernel) hl hl8 hm hm3 h0 h1
theorem at_next {l m p : Int} (hl : 1 ≤ l) (hl8 : l ≤ 8) (hm : 1 ≤ m) (hm3 : m ≤ 3) (h0 : 0 ≤ p) (h1 : p < 50) (h : (p + 1) % l > 0) : lAt l m (p + 1) = ((lAt l m p).1, (lAt l m p).2 + 1) :=
  lay_all (fun l m p => (p + 1) % l > 0 → lAt l m (p + 1) = ((lAt l m p).1, (lAt l m p).2 + 1)) (by decide +kernel) hl hl8 hm hm3 h0 h1 h
theorem at_back {l m o a : Int} (hl : 1 ≤ l) (hl8 : l ≤ 8) (hm : 1 ≤ m) (hm3 : m ≤ 3) (ho : 0 ≤ o) (hom : o < m) (h0 : 0 ≤ a) (h1 : a < 50) : lAt l m (lBack l m o a) = (o, a) :=
  lay_all (fun l m a => ∀ o : Fin 3, (o.val : Int) < m → lAt l m (lBack l m (o.val : Int) a) = ((o.val : Int), a)) (by decide +kernel) hl hl8 hm hm3 h0 h1 ⟨o.toNat, by omega⟩ (by show ((o.toNat : Nat) : Int) < m; omega) |> fun h => by
    have e : (((⟨o.toNat, by omega⟩ : Fin 3).val : Nat) : Int) = o := by show ((o.toNat : Nat) : Int) = o; omega
    rwa [e] at h

/-! The parts of a range, by the stripes. -/
theorem at_run {l m g q : Int} (hl : 1 ≤ l) (hl8 : l ≤ 8) (h0 : 0 ≤ g) (h1 : g ≤ q) (h2 : q < (g / l + 1) * l) : q / l = g / l ∧ q % l = g % l + (q - g) ∧ lAt l m q = ((lAt l m g).1, (lAt l m g).2 + (q - g)) ∧ (g < q → 0 < q % l) := by
  have hq : q / l = g / l ∧ q % l = g % l + (q - g) ∧ (g < q → 0 < q % l) := by
    have : l = 1 ∨ l = 2 ∨ l = 3 ∨ l = 4 ∨ l = 5 ∨ l = 6 ∨ l = 7 ∨ l = 8 := by omega
    rcases this with rfl | rfl | rfl | rfl | rfl | rfl | rfl | rfl <;> omega
  refine ⟨hq.1, hq.2.1, ?_, hq.2.2⟩
  unfold lAt
  rw [hq.1, hq.2.1, Int.add_assoc]
theorem run_gt {l f : Int} (hl : 1 ≤ l) (hl8 : l ≤ 8) (h0 : 0 ≤ f) : f < (f / l + 1) * l ∧ (f / l + 1) * l ≤ f + l ∧ ((f / l + 1) * l) % l = 0 := by
  have : l = 1 ∨ l = 2 ∨ l = 3 ∨ l = 4 ∨ l = 5 ∨ l = 6 ∨ l = 7 ∨ l = 8 := by omega
  rcases this with rfl | rfl | rfl | rfl | rfl | rfl | rfl | rfl <;> omega
def pc (l m f e : Int) : S55 := ⟨(lAt l m f).1, ⟨(lAt l m f).2, (lAt l m f).2 + (e - f)⟩, f⟩
def plL (l m h : Int) : Nat → Int → List S55
  | 0, _ => []
  | d + 1, f => if f < h then pc l m f (mn h ((f / l + 1) * l)) :: plL l m h d (mn h ((f / l + 1) * l)) else []
theorem plL_end (l m h : Int) (d : Nat) (f : Int) (hf : h ≤ f) : plL l m h d f = [] := by
  cases d with
  | zero => rfl
  | succ d => rw [plL, if_neg (by omega)]
theorem plL_len (l m h : Int) : ∀ (d : Nat) (f : Int), (plL l m h d f).length ≤ d
  | 0, _ => Nat.le_refl _
  | d + 1, f => by
    rw [plL]
    split
    · have := plL_len l m h d (mn h ((f / l + 1) * l))
      simp
      omega
    · simp
theorem plL_grow {l m p : Int} (hl : 1 ≤ l) (hl8 : l ≤ 8) : ∀ (d : Nat) (f : Int), 0 ≤ f → f ≤ p → p + 1 - f ≤ d →
    (f < p ∧ 0 < p % l → ∃ L0 g, plL l m p d f = L0 ++ [pc l m g p] ∧ plL l m (p + 1) d f = L0 ++ [pc l m g (p + 1)] ∧ g < p ∧ p < (g / l + 1) * l ∧ f ≤ g) ∧ (¬ (f < p ∧ 0 < p % l) → plL l m (p + 1) d f = plL l m p d f ++ [pc l m p (p + 1)])
  | 0, f, h0, h1, h2 => by omega
  | d + 1, f, h0, h1, h2 => by
    obtain ⟨g1, g2, g3⟩ := run_gt hl hl8 h0
    by_cases e : f = p
    · subst e
      refine ⟨fun h => by omega, fun _ => ?_⟩
      have em : mn (f + 1) ((f / l + 1) * l) = f + 1 := by unfold mn; split <;> omega
      rw [plL_end l m f (d + 1) f (Int.le_refl _), plL, if_pos (by omega), em, plL_end _ _ _ _ _ (Int.le_refl _)]
      rfl
    · by_cases hb : p < (f / l + 1) * l
      · have hr := (at_run (m := m) hl hl8 h0 h1 hb).2.2.2 (by omega)
        have em1 : mn (p + 1) ((f / l + 1) * l) = p + 1 := by unfold mn; split <;> omega
        have em0 : mn p ((f / l + 1) * l) = p := by unfold mn; split <;> omega
        refine ⟨fun _ => ⟨[], f, ?_, ?_, by omega, hb, Int.le_refl _⟩, fun h => absurd ⟨by omega, hr⟩ h⟩
        · rw [plL, if_pos (by omega), em0, plL_end _ _ _ _ _ (Int.le_refl _)]
          rfl
        · rw [plL, if_pos (by omega), em1, plL_end _ _ _ _ _ (Int.le_refl _)]
          rfl
      · have em1 : mn (p + 1) ((f / l + 1) * l) = (f / l + 1) * l := by unfold mn; split <;> omega
        have em0 : mn p ((f / l + 1) * l) = (f / l + 1) * l := by unfold mn; split <;> omega
        have c1 : plL l m p (d + 1) f = pc l m f ((f / l + 1) * l) :: plL l m p d ((f / l + 1) * l) := by rw [plL, if_pos (by omega), em0]
        have c2 : plL l m (p + 1) (d + 1) f = pc l m f ((f / l + 1) * l) :: plL l m (p + 1) d ((f / l + 1) * l) := by rw [plL, if_pos (by omega), em1]
        generalize (f / l + 1) * l = b at *
        obtain ⟨i1, i2⟩ := plL_grow (m := m) (p := p) hl hl8 d b (by omega) (by omega) (by omega)
        rw [c1, c2]
        refine ⟨fun h => ?_, fun h => ?_⟩
        · have hbp : b < p := by
            by_cases hh : b = p
            · rw [← hh, g3] at h
              omega
            · omega
          obtain ⟨L0, g, q1, q2, q3, q4, q5⟩ := i1 ⟨hbp, h.2⟩
          exact ⟨pc l m f b :: L0, g, by rw [q1]; rfl, by rw [q2]; rfl, q3, q4, by omega⟩
        · rw [i2 (fun hh => h ⟨by omega, hh.2⟩)]
          rfl
theorem plL_fuel {l m h : Int} (hl : 1 ≤ l) (hl8 : l ≤ 8) : ∀ (d : Nat) (f : Int), 0 ≤ f → h - f ≤ d → plL l m h (d + 1) f = plL l m h d f
  | 0, f, h0, h1 => by rw [plL_end _ _ _ _ _ (by omega), plL_end _ _ _ _ _ (by omega)]
  | d + 1, f, h0, h1 => by
    obtain ⟨g1, g2, g3⟩ := run_gt hl hl8 h0
    by_cases hf : f < h
    · have hb : f < mn h ((f / l + 1) * l) := by unfold mn; split <;> omega
      rw [plL, if_pos hf, plL_fuel hl hl8 d (mn h ((f / l + 1) * l)) (by omega) (by omega)]
      conv => rhs; rw [plL, if_pos hf]
    · rw [plL_end _ _ _ _ _ (by omega), plL_end _ _ _ _ _ (by omega)]
def lyParts (l m x y : Int) : List S55 := if laOk l m = true ∧ spOk x y = true then plL l m y 48 x else []
theorem impl_LayParts_l {l m : Int} (hk : laOk l m = true) (x y : Int) (hy : y ≤ 48) : ∀ (d : Nat) (f : Int) (out : List S55), 0 ≤ f → f ≤ y → y - f ≤ d → out.length + d ≤ 1000 → Ev (fun k => impl_LayParts.l0 k out f l m x y) (out ++ plL l m y d f) := by
  have hok := of_decide_eq_true hk
  intro d
  induction d with
  | zero =>
    intro f out h0 h1 h2 h3
    refine Ev.end_ (fun k => ?_)
    simp only [impl_LayParts.l0]
    rw [if_neg (by omega)]
    simp [plL]
  | succ d ih =>
    intro f out h0 h1 h2 h3
    by_cases hlt : f < y
    · obtain ⟨g1, g2, g3⟩ := run_gt hok.1 hok.2.1 h0
      have hb := lAt_bounds (l := l) (m := m) (p := f) hok.1 hok.2.1 hok.2.2.1 hok.2.2.2 h0 (by omega)
      have hq0 : 0 ≤ f / l := Int.ediv_nonneg h0 (by omega)
      have hq1 : f / l ≤ f := Int.ediv_le_self _ h0
      have hw : wrap64 (wrap64 (wrap64 (Int.tdiv f l) + 1) * l) = (f / l + 1) * l := by
        rw [Int.tdiv_eq_ediv_of_nonneg h0, wid (x := f / l) (by omega) (by omega), wid (x := f / l + 1) (by omega) (by omega), wid (by omega) (by omega)]
      have hmn : f < mn y ((f / l + 1) * l) ∧ mn y ((f / l + 1) * l) ≤ y := by unfold mn; split <;> omega
      have h := ih (mn y ((f / l + 1) * l)) (out ++ [pc l m f (mn y ((f / l + 1) * l))]) (by omega) (by omega) (by omega) (by simp; omega)
      have e : plL l m y (d + 1) f = pc l m f (mn y ((f / l + 1) * l)) :: plL l m y d (mn y ((f / l + 1) * l)) := by rw [plL, if_pos hlt]
      rw [e]
      rw [List.append_assoc] at h
      have hpc : (⟨(lAt l m f).1, ⟨(lAt l m f).2, wrap64 (wrap64 ((lAt l m f).2 + mn y ((f / l + 1) * l)) - f)⟩, f⟩ : S55) = pc l m f (mn y ((f / l + 1) * l)) := by
        unfold pc
        rw [wid (x := (lAt l m f).2 + mn y ((f / l + 1) * l)) (by omega) (by omega), wid (by omega) (by omega), Int.add_sub_assoc]
      refine Ev.cut h (fun k => ?_)
      simp only [impl_LayParts.l0, hw]
      rw [if_pos hlt, if_neg (by omega), impl_LayAt_is, show lyAt l m f = lAt l m f from if_pos ⟨hk, h0, by omega⟩]
      simp only [Option.bind_some]
      rw [if_pos (by omega), hpc]
    · rw [plL_end _ _ _ _ _ (by omega), List.append_nil]
      refine Ev.end_ (fun k => ?_)
      simp only [impl_LayParts.l0]
      rw [if_neg hlt]
theorem impl_LayParts_is (l m x y : Int) : Ev (fun k => impl_LayParts.f k l m x y) (lyParts l m x y) := by
  unfold impl_LayParts.f lyParts
  simp only [impl_LayOk_is, impl_SpanOk_is, Option.bind_some]
  have hbad : Ev (fun k => impl_LayParts.j0 k true l m x y) ([] : List S55) := Ev.end_ (fun k => by simp only [impl_LayParts.j0, if_true])
  cases hk : laOk l m with
  | false => simpa using hbad
  | true =>
    cases hs : spOk x y with
    | false => simpa using hbad
    | true =>
      have hs' := of_decide_eq_true hs
      simp only [if_true, and_self, Bool.not_true]
      refine Ev.cut (impl_LayParts_l hk x y hs'.2.2 48 x [] hs'.1 (by omega) (by omega) (by simp)) (fun k => ?_)
      simp only [impl_LayParts.j0, Bool.false_eq_true, if_false]
theorem rdPart_nat (L : List S55) (i : Nat) : rd_T55 L (i : Int) = L.getD i z55 := rfl
theorem spec_LayParts_l {l m : Int} (hk : laOk l m = true) (x y : Int) (hx : 0 ≤ x) (hy : y ≤ 48) : ∀ (d : Nat) (p : Int), x ≤ p → p ≤ y → (y - p).toNat = d → Ev (fun k => spec_LayParts.l0 k (plL l m p 49 x) p l m x y) (plL l m y 49 x) := by
  have hok := of_decide_eq_true hk
  intro d
  induction d with
  | zero =>
    intro p h0 h1 h2
    obtain rfl : p = y := by omega
    refine Ev.end_ (fun k => ?_)
    simp only [spec_LayParts.l0]
    rw [if_neg (by omega)]
  | succ d ih =>
    intro p h0 h1 h2
    have hpy : p < y := by omega
    have h := ih (p + 1) (by omega) (by omega) (by omega)
    clear ih h2
    obtain ⟨g1, g2⟩ := plL_grow (m := m) (p := p) hok.1 hok.2.1 49 x hx h0 (by omega)
    have hlen := plL_len l m p 49 x
    have hlb := lAt_bounds (l := l) (m := m) (p := p) hok.1 hok.2.1 hok.2.2.1 hok.2.2.2 (by omega) (by omega)
    have hat := spec_l3At_is (l := l) (m := m) (p := p) hok.1 hok.2.1 hok.2.2.1 hok.2.2.2 (by omega) (by omega)
    have hw : wrap64 ((lAt l m p).2 + 1) = (lAt l m p).2 + 1 := wid (by omega) (by omega)
    have hwp : wrap64 (p + 1) = p + 1 := wid (by omega) (by omega)
    have htm : Int.tmod p l = p % l := Int.tmod_eq_emod_of_nonneg (by omega)
    have hpc : pc l m p (p + 1) = ⟨(lAt l m p).1, ⟨(lAt l m p).2, (lAt l m p).2 + 1⟩, p⟩ := by unfold pc; rw [show p + 1 - p = 1 by omega]
    by_cases hc : x < p ∧ 0 < p % l
    · obtain ⟨L0, g, q1, q2, q3, q4, q5⟩ := g1 hc
      clear g1 g2
      obtain ⟨r1, r2, r3, r4⟩ := at_run (m := m) (g := g) (q := p) hok.1 hok.2.1 (by omega) (by omega) q4
      rw [q2] at h
      have hL : (plL l m p 49 x).length = L0.length + 1 := by rw [q1]; simp
      have hlast : rd_T55 (plL l m p 49 x) (wrap64 (((plL l m p 49 x).length : Int) - 1)) = pc l m g p := by
        rw [wpred _ (by omega) (by omega), rdPart_nat, hL, q1, List.getD_eq_getElem?_getD]
        simp
      have e1 : (pc l m g p).f0 = (lAt l m p).1 := by rw [r3]; rfl
      have e2 : (pc l m g p).f1.f1 = (lAt l m p).2 := by rw [r3]; rfl
      have hset : (plL l m p 49 x).set (wrap64 (((plL l m p 49 x).length : Int) - 1)).toNat (⟨(pc l m g p).f0, ⟨(pc l m g p).f1.f0, (lAt l m p).2 + 1⟩, (pc l m g p).f2⟩ : S55) = L0 ++ [pc l m g (p + 1)] := by
        rw [wpred _ (by omega) (by omega), Int.toNat_natCast, hL, q1]
        have : (⟨(pc l m g p).f0, ⟨(pc l m g p).f1.f0, (lAt l m p).2 + 1⟩, (pc l m g p).f2⟩ : S55) = pc l m g (p + 1) := by
          rw [r3]
          unfold pc
          simp only [Int.add_assoc, Int.add_sub_assoc]
          congr 3
          omega
        rw [this]
        simp
      refine Ev.cut h (fun k => ?_)
      simp only [spec_LayParts.l0, hat, Option.bind_some, hw, hwp, htm, hlast]
      rw [if_pos hpy, if_pos (by omega), wpred _ (by omega) (by omega), if_pos (by omega), if_pos (by omega), if_pos e1, if_pos e2, if_neg (by omega), if_pos (by omega)]
      rw [wpred _ (by omega) (by omega)] at hset
      rw [hset]
    · have e := g2 hc
      clear g1 g2
      rw [e, hpc] at h
      refine Ev.cut h (fun k => ?_)
      simp only [spec_LayParts.l0, hat, Option.bind_some, hw, hwp, htm]
      rw [if_pos hpy]
      have happ : (plL l m p 49 x).length < 4398046511104 := by omega
      by_cases hz : ((plL l m p 49 x).length : Int) > 0
      · have hxp : x < p := by
          by_cases hxp : x < p
          · exact hxp
          · rw [plL_end _ _ _ _ _ (by omega)] at hz
            simp at hz
        have hnp : ¬ p % l > 0 := fun hh => hc ⟨hxp, by omega⟩
        rw [if_pos hz, wpred _ (by omega) (by omega), if_pos (by omega), if_pos (by omega)]
        simp only [if_neg hnp, if_pos happ, if_neg (show ¬ l = 0 by omega)]
        split
        · split <;> rfl
        · rfl
      · rw [if_neg hz, if_pos happ]
theorem spec_LayParts_is (l m x y : Int) : Ev (fun k => spec_LayParts.f k l m x y) (lyParts l m x y) := by
  unfold spec_LayParts.f lyParts
  simp only [spec_LayOk_is, spec_SpanOk_is, Option.bind_some]
  have hbad : Ev (fun k => spec_LayParts.j0 k [] true l m x y) ([] : List S55) := Ev.end_ (fun k => by simp only [spec_LayParts.j0, if_true])
  cases hk : laOk l m with
  | false => simpa using hbad
  | true =>
    cases hs : spOk x y with
    | false => simpa using hbad
    | true =>
      have hs' := of_decide_eq_true hs
      simp only [if_true, and_self, Bool.not_true]
      have h := spec_LayParts_l hk x y hs'.1 hs'.2.2 (y - x).toNat x (Int.le_refl _) (by omega) rfl
      rw [plL_end _ _ _ _ _ (Int.le_refl _)] at h
      have hok := of_decide_eq_true hk
      have e : plL l m y 49 x = plL l m y 48 x := plL_fuel hok.1 hok.2.1 48 x hs'.1 (by omega)
      rw [e] at h
      refine Ev.cut h (fun k => ?_)
      simp only [spec_LayParts.j0, Bool.false_eq_true, if_false]

/-! Marks in parts, written and read again. -/
def mkPt (n : Nat) (c : Int) : List S55 := (List.range n).map fun (j : Nat) => ⟨c + 4 * (j : Int), ⟨c + 4 * (j : Int) + 1, c + 4 * (j : Int) + 1 + 1⟩, c + 4 * (j : Int) + 1 + 1 + 1⟩
theorem mkPt_get (n : Nat) (c : Int) (j : Nat) (h : j < n) : (mkPt n c)[j]? = some ⟨c + 4 * (j : Int), ⟨c + 4 * (j : Int) + 1, c + 4 * (j : Int) + 1 + 1⟩, c + 4 * (j : Int) + 1 + 1 + 1⟩ := by simp [mkPt, h]
theorem mkPt_length (n : Nat) (c : Int) : (mkPt n c).length = n := by simp [mkPt]
theorem rdset (M : List S55) (i : Nat) (v : S55) (h : i < M.length) : rd_T55 (M.set i v) (i : Int) = v := by
  rw [rdPart_nat, List.getD_eq_getElem?_getD, List.getElem?_set_self h]
  rfl
theorem lyParts_len (l m x y : Int) : (lyParts l m x y).length ≤ 48 := by
  unfold lyParts
  split
  · exact plL_len _ _ _ _ _
  · simp

/-! The reader of draws. -/
def RB (b : List Int) : Prop := b.length ≤ 2000 ∧ ∀ x ∈ b, 0 ≤ x ∧ x ≤ 255
theorem rd_byte {b : List Int} (hb : RB b) (i : Int) : 0 ≤ rd b i ∧ rd b i ≤ 255 := by
  unfold rd
  rw [List.getD_eq_getElem?_getD]
  cases e : b[i.toNat]? with
  | none => simp
  | some x => exact hb.2 x (List.mem_of_getElem? e)
theorem open_is (l : List Int) (hw : ∀ x ∈ l, (Lit.int .u8 x).wf = true) : ∃ b, spec_l10Open.f l = some (b, 0) ∧ RB b := by
  have h : ∀ x ∈ l, 0 ≤ x ∧ x ≤ 255 := fun x hx => bounds_u8 (hw x hx)
  unfold spec_l10Open.f
  by_cases hl : (l.length : Int) > 2000
  · rw [if_pos hl, if_pos (by omega)]
    exact ⟨_, rfl, by rw [List.length_take]; omega, fun x hx => h x (List.mem_of_mem_take hx)⟩
  · rw [if_neg hl]
    exact ⟨_, rfl, by omega, h⟩
theorem xor_nonneg (a b : Int) (ha0 : 0 ≤ a) (ha : a < 1152921504606846976) (hb0 : 0 ≤ b) (hb : b < 1152921504606846976) : 0 ≤ Go.bits .xor .i64 a b := by
  obtain ⟨m, rfl⟩ := Int.eq_ofNat_of_zero_le ha0
  obtain ⟨n, rfl⟩ := Int.eq_ofNat_of_zero_le hb0
  have hm : m < 2 ^ 60 := by omega
  have hn : n < 2 ^ 60 := by omega
  have hx : m ^^^ n < 2 ^ 60 := Nat.xor_lt_two_pow hm hn
  have hm' : m % 2 ^ IntKind.i64.bits = m := Nat.mod_eq_of_lt (show m < 2 ^ 64 by omega)
  have hn' : n % 2 ^ IntKind.i64.bits = n := Nat.mod_eq_of_lt (show n < 2 ^ 64 by omega)
  have e : Go.bits .xor .i64 (m : Int) (n : Int) = IntKind.i64.wrap ((m ^^^ n : Nat) : Int) := by
    simp only [bits, BitVec.ofInt_natCast, BitVec.toNat_xor, BitVec.toNat_ofNat, hm', hn']
  rw [e, IntKind.wrap_i64]
  omega
theorem pick_is {b : List Int} (hb : RB b) (p n : Int) (h0 : 0 ≤ p) (h1 : p ≤ 1099511627776) (hn1 : 1 ≤ n) : ∃ v, Ev (fun k => spec_l10Rd_pick.f k b p n) (v, p + 1) ∧ 0 ≤ v ∧ v < n := by
  have e1 : wrap64 (p + 1) = p + 1 := wid (by omega) (by omega)
  have e2 : wrap64 (p + 1 - 1) = p := by rw [show p + 1 - 1 = p by omega]; exact wid (by omega) (by omega)
  have hl := hb.1
  by_cases hz : (b.length : Int) = 0
  · refine ⟨0, Ev.end_ (fun k => ?_), by omega, by omega⟩
    unfold spec_l10Rd_pick.f
    rw [if_neg (by omega), e1]
    simp only [spec_l10Rd_pick.j0]
    rw [if_pos (by simpa using hz)]
  · by_cases hlt : p < (b.length : Int)
    · have hr := rd_byte hb p
      refine ⟨Int.tmod (rd b p) n, Ev.end_ (fun k => ?_), ?_, ?_⟩
      · unfold spec_l10Rd_pick.f
        rw [if_neg (by omega), e1]
        simp only [spec_l10Rd_pick.j0]
        rw [if_neg (by simpa using hz), e2, if_pos hlt, if_pos h0, if_neg (by omega), wid (by omega) (by omega)]
      · rw [Int.tmod_eq_emod_of_nonneg hr.1]; exact Int.emod_nonneg _ (by omega)
      · rw [Int.tmod_eq_emod_of_nonneg hr.1]; exact Int.emod_lt_of_pos _ (by omega)
    · have e3 : wrap64 (p * 7) = p * 7 := wid (by omega) (by omega)
      have e4 : wrap64 (p * 7 + 3) = p * 7 + 3 := wid (by omega) (by omega)
      have q0 : 0 ≤ p % (b.length : Int) := Int.emod_nonneg _ hz
      have q1 : p % (b.length : Int) < (b.length : Int) := Int.emod_lt_of_pos _ (by omega)
      have q2 : 0 ≤ (p * 7 + 3) % (b.length : Int) := Int.emod_nonneg _ hz
      have q3 : (p * 7 + 3) % (b.length : Int) < (b.length : Int) := Int.emod_lt_of_pos _ (by omega)
      have q4 : 0 ≤ p / (b.length : Int) := Int.ediv_nonneg h0 (by omega)
      have q5 : p / (b.length : Int) ≤ p := Int.ediv_le_self _ h0
      have r1 := rd_byte hb (p % (b.length : Int))
      have r2 := rd_byte hb ((p * 7 + 3) % (b.length : Int))
      obtain ⟨X, hX⟩ : ∃ X, X = rd b (p % (b.length : Int)) * 131 + rd b ((p * 7 + 3) % (b.length : Int)) * 1117 + p * 29 + p / (b.length : Int) * 53 := ⟨_, rfl⟩
      have x0 : 0 ≤ X := by omega
      have x1 : X < 1152921504606846976 := by omega
      have y := xor_nonneg X (X / 64) x0 x1 (by omega) (by omega)
      refine ⟨Int.tmod (Go.bits .xor .i64 X (X / 64)) n, Ev.end_ (fun k => ?_), ?_, ?_⟩
      · unfold spec_l10Rd_pick.f
        rw [if_neg (by omega), e1]
        simp only [spec_l10Rd_pick.j0]
        rw [if_neg (by simpa using hz), e2, if_neg hlt, if_neg hz, Int.tmod_eq_emod_of_nonneg h0, if_pos q0, if_pos q1, e3, e4, Int.tmod_eq_emod_of_nonneg (show 0 ≤ p * 7 + 3 by omega), if_pos q2, if_pos q3, if_neg (by omega), Int.tdiv_eq_ediv_of_nonneg h0,
          wid (x := rd b (p % (b.length : Int))) (by omega) (by omega), wid (x := rd b ((p * 7 + 3) % (b.length : Int))) (by omega) (by omega), wid (x := rd b (p % (b.length : Int)) * 131) (by omega) (by omega), wid (x := rd b ((p * 7 + 3) % (b.length : Int)) * 1117) (by omega) (by omega),
          wid (x := rd b (p % (b.length : Int)) * 131 + rd b ((p * 7 + 3) % (b.length : Int)) * 1117) (by omega) (by omega), wid (x := p * 29) (by omega) (by omega), wid (x := rd b (p % (b.length : Int)) * 131 + rd b ((p * 7 + 3) % (b.length : Int)) * 1117 + p * 29) (by omega) (by omega),
          wid (x := p / (b.length : Int)) (by omega) (by omega), wid (x := p / (b.length : Int) * 53) (by omega) (by omega), ← hX, wid (x := X) (by omega) (by omega), Int.tdiv_eq_ediv_of_nonneg x0, wid (x := X / 64) (by omega) (by omega)]
      · rw [Int.tmod_eq_emod_of_nonneg y]; exact Int.emod_nonneg _ (by omega)
      · rw [Int.tmod_eq_emod_of_nonneg y]; exact Int.emod_lt_of_pos _ (by omega)

/-! One of a list of numbers. -/
theorem rd_mem (l : List Int) (i : Int) (h0 : 0 ≤ i) (h1 : i < (l.length : Int)) : rd l i ∈ l := by
  unfold rd
  rw [List.getD_eq_getElem?_getD, List.getElem?_eq_getElem (by omega)]
  exact List.getElem_mem _
theorem num_is {b : List Int} (hb : RB b) (p : Int) (l : List Int) (h0 : 0 ≤ p) (h1 : p ≤ 1099511627776) (hn1 : 1 ≤ (l.length : Int)) : ∃ v, Ev (fun k => spec_l10Rd_num.f k b p l) (v, p + 1) ∧ v ∈ l := by
  obtain ⟨i, hi, i0, i1⟩ := pick_is hb p (l.length : Int) h0 h1 hn1
  refine ⟨rd l i, Ev.bind hi (Ev.all fun k => ?_), rd_mem l i i0 i1⟩
  rw [if_pos i0, if_pos i1]

/-! A layout, drawn. -/
theorem l3Lay_is {b : List Int} (hb : RB b) (p : Int) (h0 : 0 ≤ p) (h1 : p ≤ 1000000000000) : ∃ x y, Ev (fun k => spec_l3Lay.f k b p) (x, y, p + 1 + 1) ∧ laOk x y = true := by
  obtain ⟨v, hv, vm⟩ := num_is hb p [1, 2, 3, 4, 5, 8] h0 (by omega) (by simp)
  obtain ⟨x, hx, x0, x1⟩ := pick_is hb (p + 1) 3 (by omega) (by omega) (by omega)
  have hv2 : 1 ≤ v ∧ v ≤ 8 := by simp at vm; omega
  refine ⟨v, 1 + x, Ev.bind hv (Ev.bind hx (Ev.all fun k => ?_)), decide_eq_true (by omega)⟩
  rw [wid (by omega) (by omega)]
theorem l3Lays_is {b : List Int} (hb : RB b) (p : Int) (h0 : 0 ≤ p) (h1 : p ≤ 1000000000000) : ∃ x y q, Ev (fun k => spec_l3Lays.f k b p) (x, y, q) ∧ p ≤ q ∧ q ≤ p + 4 ∧ y ≤ 4 := by
  obtain ⟨x, y, hx, hok⟩ := l3Lay_is hb p h0 h1
  have hok := of_decide_eq_true hok
  obtain ⟨v, hv, v0, v1⟩ := pick_is hb (p + 1 + 1) 36 (by omega) (by omega) (by omega)
  by_cases c0 : v = 0
  · obtain ⟨u, hu, um⟩ := num_is hb (p + 1 + 1 + 1) [0, -1, 9] (by omega) (by omega) (by simp)
    exact ⟨u, y, p + 1 + 1 + 1 + 1, Ev.bind hx (Ev.bind hv (by simp only [if_pos c0]; exact Ev.bind hu (Ev.now _))), by omega, by omega, by omega⟩
  by_cases c1 : v = 1
  · obtain ⟨u, hu, um⟩ := num_is hb (p + 1 + 1 + 1) [0, -1, 4] (by omega) (by omega) (by simp)
    have hu4 : u ≤ 4 := by simp at um; omega
    exact ⟨x, u, p + 1 + 1 + 1 + 1, Ev.bind hx (Ev.bind hv (by simp only [if_neg c0, if_pos c1]; exact Ev.bind hu (Ev.now _))), by omega, by omega, hu4⟩
  by_cases c2 : v = 2
  · exact ⟨0, 0, p + 1 + 1 + 1, Ev.bind hx (Ev.bind hv (by simp only [if_neg c0, if_neg c1, if_pos c2]; exact Ev.now _)), by omega, by omega, by omega⟩
  · exact ⟨x, y, p + 1 + 1 + 1, Ev.bind hx (Ev.bind hv (by simp only [if_neg c0, if_neg c1, if_neg c2]; exact Ev.now _)), by omega, by omega, by omega⟩

/-! A range, drawn. -/
theorem l1Span_is {b : List Int} (hb : RB b) (p : Int) (h0 : 0 ≤ p) (h1 : p ≤ 1000000000000) : ∃ x y, Ev (fun k => spec_l1Span.f k b p) (x, y, p + 1 + 1) ∧ 0 ≤ x ∧ x < y ∧ y ≤ 48 := by
  obtain ⟨x, hx, x0, x1⟩ := pick_is hb p 47 h0 (by omega) (by omega)
  obtain ⟨v, hv, vm⟩ := num_is hb (p + 1) [0, 1, 3, 5, 9, 20, 47] (by omega) (by omega) (by simp)
  have hv2 : 0 ≤ v ∧ v ≤ 47 := by simp at vm; omega
  refine ⟨x, mn 48 (x + 1 + v), Ev.bind hx (Ev.bind hv (Ev.all fun k => ?_)), x0, ?_, ?_⟩
  · rw [wid (x := x + 1) (by omega) (by omega), wid (x := x + 1 + v) (by omega) (by omega), l1Min_is]
    rfl
  · unfold mn; split <;> omega
  · unfold mn; split <;> omega
theorem l1Some_is {b : List Int} (hb : RB b) (p : Int) (h0 : 0 ≤ p) (h1 : p ≤ 1000000000000) : ∃ x y, Ev (fun k => spec_l1Some.f k b p) (x, y, p + 1 + 1 + 1) := by
  obtain ⟨x, y, hx, _⟩ := l1Span_is hb p h0 h1
  obtain ⟨v, hv, v0, v1⟩ := pick_is hb (p + 1 + 1) 48 (by omega) (by omega) (by omega)
  by_cases c0 : v = 0
  · exact ⟨_, _, Ev.bind hx (Ev.bind hv (Ev.all fun k => by rw [if_pos c0]))⟩
  by_cases c1 : v = 1
  · exact ⟨_, _, Ev.bind hx (Ev.bind hv (Ev.all fun k => by rw [if_neg c0, if_pos c1]))⟩
  by_cases c2 : v = 2
  · exact ⟨_, _, Ev.bind hx (Ev.bind hv (Ev.all fun k => by rw [if_neg c0, if_neg c1, if_pos c2]))⟩
  by_cases c3 : v = 3
  · exact ⟨_, _, Ev.bind hx (Ev.bind hv (Ev.all fun k => by rw [if_neg c0, if_neg c1, if_neg c2, if_pos c3]))⟩
  · exact ⟨_, _, Ev.bind hx (Ev.bind hv (Ev.all fun k => by rw [if_neg c0, if_neg c1, if_neg c2, if_neg c3]))⟩

/-! Where the parts begin. -/
def nx (l h f : Int) : Int := mn h ((f / l + 1) * l)
def fsn (l h : Int) : Nat → Int → Int
  | 0, f => f
  | i + 1, f => fsn l h i (nx l h f)
theorem fsn_succ (l h : Int) : ∀ (i : Nat) (f : Int), fsn l h (i + 1) f = nx l h (fsn l h i f)
  | 0, f => rfl
  | i + 1, f => fsn_succ l h i (nx l h f)
theorem nx_facts {l h f : Int} (hl : 1 ≤ l) (hl8 : l ≤ 8) (h0 : 0 ≤ f) (h1 : f ≤ h) : f ≤ nx l h f ∧ nx l h f ≤ h ∧ nx l h f ≤ (f / l + 1) * l ∧ (f < h → f < nx l h f) ∧ nx l h f ≤ f + l := by
  obtain ⟨g1, g2, _⟩ := run_gt hl hl8 h0
  unfold nx mn
  split <;> omega
theorem fsn_le {l h : Int} (hl : 1 ≤ l) (hl8 : l ≤ 8) {f : Int} (h0 : 0 ≤ f) (h1 : f ≤ h) : ∀ i : Nat, f ≤ fsn l h i f ∧ fsn l h i f ≤ h
  | 0 => ⟨Int.le_refl _, h1⟩
  | i + 1 => by
    rw [fsn_succ]
    have ih := fsn_le hl hl8 h0 h1 i
    have := nx_facts (h := h) (f := fsn l h i f) hl hl8 (by omega) ih.2
    omega
theorem fsn_mono {l h : Int} (hl : 1 ≤ l) (hl8 : l ≤ 8) {f : Int} (h0 : 0 ≤ f) (h1 : f ≤ h) (i : Nat) : ∀ c : Nat, fsn l h i f ≤ fsn l h (i + c) f
  | 0 => Int.le_refl _
  | c + 1 => by
    have ih := fsn_mono hl hl8 h0 h1 i c
    have hb := fsn_le hl hl8 h0 h1 (i + c)
    have := nx_facts (h := h) (f := fsn l h (i + c) f) hl hl8 (by omega) hb.2
    rw [← Nat.add_assoc, fsn_succ]
    omega
theorem plL_at (l m h : Int) : ∀ (d : Nat) (f : Int) (i : Nat), i < (plL l m h d f).length → (plL l m h d f).getD i z55 = pc l m (fsn l h i f) (fsn l h (i + 1) f) ∧ fsn l h i f < h
  | 0, f, i, hi => by simp [plL] at hi
  | d + 1, f, i, hi => by
    rw [plL] at hi ⊢
    by_cases hf : f < h
    · rw [if_pos hf] at hi ⊢
      cases i with
      | zero => exact ⟨rfl, hf⟩
      | succ i => exact plL_at l m h d _ i (by simpa using hi)
    · rw [if_neg hf] at hi
      simp at hi
theorem plL_all {l m h : Int} (hl : 1 ≤ l) (hl8 : l ≤ 8) : ∀ (d : Nat) (f : Int), 0 ≤ f → f ≤ h → h - f ≤ d → fsn l h (plL l m h d f).length f = h
  | 0, f, h0, h1, h2 => by
    have : f = h := by omega
    exact this
  | d + 1, f, h0, h1, h2 => by
    rw [plL]
    by_cases hf : f < h
    · have hn := nx_facts (h := h) hl hl8 h0 h1
      rw [if_pos hf]
      exact plL_all hl hl8 d (nx l h f) (by omega) hn.2.1 (by have := hn.2.2.2.1 hf; omega)
    · rw [if_neg hf]
      show f = h
      omega
theorem part_at {l m x y : Int} (hk : laOk l m = true) (hs : spOk x y = true) (i : Nat) (hi : i < (lyParts l m x y).length) :
    ∃ f e, f = fsn l y i x ∧ e = fsn l y (i + 1) x ∧ (lyParts l m x y).getD i z55 = pc l m f e ∧ x ≤ f ∧ f < e ∧ e ≤ y ∧ e ≤ (f / l + 1) * l ∧ e - f ≤ l := by
  have hok := of_decide_eq_true hk
  have hs' := of_decide_eq_true hs
  have e0 : lyParts l m x y = plL l m y 48 x := if_pos ⟨hk, hs⟩
  rw [e0] at hi ⊢
  obtain ⟨h1, h2⟩ := plL_at l m y 48 x i hi
  have hb := fsn_le (h := y) hok.1 hok.2.1 hs'.1 (by omega) i
  have hn := nx_facts (h := y) (f := fsn l y i x) hok.1 hok.2.1 (by omega) hb.2
  refine ⟨_, _, rfl, rfl, h1, hb.1, ?_, ?_, ?_, ?_⟩ <;> rw [fsn_succ] <;> omega
theorem part_end {l m x y : Int} (hk : laOk l m = true) (hs : spOk x y = true) : fsn l y (lyParts l m x y).length x = y := by
  have hok := of_decide_eq_true hk
  have hs' := of_decide_eq_true hs
  have e0 : lyParts l m x y = plL l m y 48 x := if_pos ⟨hk, hs⟩
  rw [e0]
  exact plL_all hok.1 hok.2.1 48 x hs'.1 (by omega) (by omega)
theorem DrawLayParts_is (l : List Int) (hw : ∀ x ∈ l, (Lit.int .u8 x).wf = true) : ∃ a b c d, Ev (fun k => spec_DrawLayParts.f k l) (a, b, c, d) := by
  obtain ⟨r, hr, hb⟩ := open_is l hw
  obtain ⟨x, y, q, h1, q0, q1, _⟩ := l3Lays_is hb 0 (by omega) (by omega)
  obtain ⟨s, t, h2⟩ := l1Some_is hb q (by omega) (by omega)
  unfold spec_DrawLayParts.f
  simp only [hr, Option.bind_some]
  exact ⟨x, y, s, t, Ev.bind h1 (Ev.bind h2 (Ev.now _))⟩

theorem pieces_apart {l m x y : Int} (hk : laOk l m = true) (hs : spOk x y = true) (i k : Nat) (hik : k < i) (hi : i < (lyParts l m x y).length) (hm : (spMeet ((lyParts l m x y).getD i z55).f1.f0 ((lyParts l m x y).getD i z55).f1.f1 ((lyParts l m x y).getD k z55).f1.f0 ((lyParts l m x y).getD k z55).f1.f1).2.2 = true) : ¬ ((lyParts l m x y).getD i z55).f0 = ((lyParts l m x y).getD k z55).f0 := by
  have hok := of_decide_eq_true hk
  have hs' := of_decide_eq_true hs
  obtain ⟨f, e, hf, he, hLi, a1, a2, a3, a4, a5⟩ := part_at (m := m) hk hs i hi
  obtain ⟨g, u, hg, hu, hLk, b1, b2, b3, b4, b5⟩ := part_at (m := m) hk hs k (by omega)
  have hle : u ≤ f := by
    have := fsn_mono (h := y) hok.1 hok.2.1 hs'.1 (by omega : x ≤ y) (k + 1) (i - (k + 1))
    rw [show k + 1 + (i - (k + 1)) = i by omega, ← hf, ← hu] at this
    exact this
  rw [hLi, hLk] at hm ⊢
  have e1 : (pc l m f e).f0 = (lAt l m f).1 := rfl
  have e2 : (pc l m f e).f1.f0 = (lAt l m f).2 := rfl
  have e3 : (pc l m f e).f1.f1 = (lAt l m f).2 + (e - f) := rfl
  have e4 : (pc l m g u).f0 = (lAt l m g).1 := rfl
  have e5 : (pc l m g u).f1.f0 = (lAt l m g).2 := rfl
  have e6 : (pc l m g u).f1.f1 = (lAt l m g).2 + (u - g) := rfl
  rw [e2, e3, e5, e6] at hm
  rw [e1, e4]
  intro hob
  unfold spMeet at hm
  split at hm
  · rename_i hc
    have hlt := hc.2.2
    obtain ⟨t, t1, t2, t3, t4⟩ : ∃ t : Int, (lAt l m f).2 ≤ t ∧ t < (lAt l m f).2 + (e - f) ∧ (lAt l m g).2 ≤ t ∧ t < (lAt l m g).2 + (u - g) := by
      refine ⟨mx (lAt l m f).2 (lAt l m g).2, ?_, ?_, ?_, ?_⟩
      · unfold mx; split <;> omega
      · have : mn ((lAt l m f).2 + (e - f)) ((lAt l m g).2 + (u - g)) ≤ (lAt l m f).2 + (e - f) := by unfold mn; split <;> omega
        omega
      · unfold mx; split <;> omega
      · have : mn ((lAt l m f).2 + (e - f)) ((lAt l m g).2 + (u - g)) ≤ (lAt l m g).2 + (u - g) := by unfold mn; split <;> omega
        omega
    have r1 := (at_run (m := m) (g := f) (q := f + (t - (lAt l m f).2)) hok.1 hok.2.1 (by omega) (by omega) (by omega)).2.2.1
    have r2 := (at_run (m := m) (g := g) (q := g + (t - (lAt l m g).2)) hok.1 hok.2.1 (by omega) (by omega) (by omega)).2.2.1
    have k1 := back_at (l := l) (m := m) (p := f + (t - (lAt l m f).2)) hok.1 hok.2.1 hok.2.2.1 hok.2.2.2 (by omega) (by omega)
    have k2 := back_at (l := l) (m := m) (p := g + (t - (lAt l m g).2)) hok.1 hok.2.1 hok.2.2.1 hok.2.2.2 (by omega) (by omega)
    rw [r1] at k1
    rw [r2] at k2
    simp only at k1 k2
    rw [show (lAt l m f).2 + (f + (t - (lAt l m f).2) - f) = t by omega] at k1
    rw [show (lAt l m g).2 + (g + (t - (lAt l m g).2) - g) = t by omega, ← hob] at k2
    omega
  · simp at hm
theorem pieces_inner {l m x y : Int} (hk : laOk l m = true) (hs : spOk x y = true) (n : Int) (i : Nat) (hi : i < (lyParts l m x y).length)
    (hnext : Ev (fun k => laws_FnLayPieces.l0 k (lyParts l m x y) n ((i + 1 : Nat) : Int) x y) true) : ∀ (d c : Nat), c + d = i → Ev (fun k => laws_FnLayPieces.l1 k (lyParts l m x y) n (i : Int) (c : Int) x y) true := by
  have hL := lyParts_len l m x y
  intro d
  induction d with
  | zero =>
    intro c hc
    refine Ev.cut hnext (fun k => ?_)
    simp only [laws_FnLayPieces.l1]
    rw [if_neg (by omega), wsucc i (by omega)]
  | succ d ih =>
    intro c hc
    refine Ev.cut (ih (c + 1) (by omega)) (fun k => ?_)
    simp only [laws_FnLayPieces.l1]
    rw [if_pos (by omega), if_pos (by omega), if_pos (by omega), if_pos (by omega), if_pos (by omega), rdPart_nat, rdPart_nat, impl_SpanMeet_is]
    simp only [Option.bind_some]
    rw [wsucc c (by omega)]
    cases hm : (spMeet ((lyParts l m x y).getD i z55).f1.f0 ((lyParts l m x y).getD i z55).f1.f1 ((lyParts l m x y).getD c z55).f1.f0 ((lyParts l m x y).getD c z55).f1.f1).2.2 with
    | false => simp
    | true =>
      have := pieces_apart hk hs i c (by omega) hi hm
      rw [if_pos rfl, if_neg this]
theorem pieces_loop {l m x y : Int} (hk : laOk l m = true) (hs : spOk x y = true) : ∀ (d i : Nat), i + d = (lyParts l m x y).length → Ev (fun k => laws_FnLayPieces.l0 k (lyParts l m x y) (fsn l y i x - x) (i : Int) x y) true := by
  have hL := lyParts_len l m x y
  have hs' := of_decide_eq_true hs
  have hok := of_decide_eq_true hk
  intro d
  induction d with
  | zero =>
    intro i hi
    have hend := part_end (m := m) hk hs
    rw [show i = (lyParts l m x y).length by omega, hend]
    refine Ev.end_ (fun k => ?_)
    simp only [laws_FnLayPieces.l0]
    rw [if_neg (by omega), wid (x := y - x) (by omega) (by omega), beq_self_eq_true]
  | succ d ih =>
    intro i hi
    obtain ⟨f, e, hf, he, hLi, h1, h2, h3, h4, h5⟩ := part_at (m := m) hk hs i (by omega)
    have hnext := ih (i + 1) (by omega)
    rw [← he] at hnext
    have hb := lAt_bounds (l := l) (m := m) (p := f) hok.1 hok.2.1 hok.2.2.1 hok.2.2.2 (by omega) (by omega)
    have hin := pieces_inner hk hs (e - x) i (by omega) hnext i 0 (by omega)
    have hrd : rd_T55 (lyParts l m x y) (i : Int) = pc l m f e := hLi
    have e2 : (pc l m f e).f1.f0 = (lAt l m f).2 := rfl
    have e3 : (pc l m f e).f1.f1 = (lAt l m f).2 + (e - f) := rfl
    rw [← hf]
    refine Ev.cut hin (fun k => ?_)
    simp only [laws_FnLayPieces.l0, hrd, e2, e3]
    rw [if_pos (by omega), if_pos (by omega), wid (x := f - x + ((lAt l m f).2 + (e - f))) (by omega) (by omega), wid (by omega) (by omega), show f - x + ((lAt l m f).2 + (e - f)) - (lAt l m f).2 = e - x by omega]
    rfl

theorem FnLayPieces (l0 : List Int) (hm0 : l0.length ≤ maxLen) (hw0 : ∀ x ∈ l0, (Lit.int .u8 x).wf = true) : ∃ k, laws_FnLayPieces.f k l0 = some true := by
  have hw := hw0
  by_cases h : (l0.length : Int) > 1048576
  · exact ⟨0, by unfold laws_FnLayPieces.f; rw [if_pos h]⟩
  refine Ev.rounds (r := true) (g := fun k => laws_FnLayPieces.f k l0) ?_
  unfold laws_FnLayPieces.f
  simp only [if_neg h]
  obtain ⟨l, m, x, y, hd⟩ := DrawLayParts_is l0 hw
  have hsp := spec_LayParts_is l m x y
  refine Ev.bind hd (Ev.bind (impl_LayParts_is l m x y) (Ev.bind hsp ?_))
  simp only [if_true, spec_LayOk_is, spec_SpanOk_is, Option.bind_some]
  have hbad : Ev (fun k => laws_FnLayPieces.j0 k (lyParts l m x y) true l m x y) true := by
    refine Ev.step (fun k => by simp only [laws_FnLayPieces.j0, if_true]; rfl) ?_
    exact Ev.bind hsp (Ev.all fun k => by rw [beq_self_eq_true])
  cases h1 : laOk l m with
  | false => simpa using hbad
  | true =>
    cases h2 : spOk x y with
    | false => simpa using hbad
    | true =>
      simp only [if_true, Bool.not_true]
      have hp := pieces_loop h1 h2 (lyParts l m x y).length 0 (by omega)
      have e0 : fsn l y 0 x - x = 0 := by show x - x = 0; omega
      rw [e0] at hp
      refine Ev.cut hp (fun k => ?_)
      simp only [laws_FnLayPieces.j0, Bool.false_eq_true, if_false]
      rfl

end Go.Proofs.Ytmiknhlogpoikaa.Pure
