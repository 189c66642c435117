/- Arguments of a law opened to numbers, strings and lists: structs of two whole numbers by value, slices of any elements of one known form. Conditions: none but the types' own forms. -/
import Derived.Test.YtmiknhlogpoikaaWWords
import Derived.Lib.SmallJoins
import Derived.ChangeArms
import Derived.DataReads
import Derived.Deep.Fields
namespace Go.Proofs.Ytmiknhlogpoikaa.Open
open Go.ChangeShapes Go.WideShapes Go.RowKit Go.Deep Go.Joins
open Go.Proofs.YtmiknhlogpoikaaW.PrintWords
set_option linter.unusedVariables false

section
variable {H : Type} {enc : TypeId × Value → H} {P : Program} {w : World} {base : Nat} {spare : Nat → Bool} {held : Bool}

/-- A struct of two whole numbers, by value. -/
theorem two_ints {r : Reach} {b0 : Nat} {t : TypeId} {f0 f1 : Field} {k : IntKind} {v : Value} {d : DataW H} {p : List MemPlace} (hs : P.underlying t = some (.struct #[f0, f1])) (hone : oneCellFields P #[f0, f1] = true) (hC : P.cellsOf t = 2)
    (h0 : P.underlying f0.type = some (.int k)) (h1 : P.underlying f1.type = some (.int k))
    (hv : Value.okWide P w r b0 t v) (h : DataW.Trod enc P w base spare held t v d p) :
    ∃ a b : Int, v = .agg #[.int k a, .int k b] ∧ (Lit.int k a).wf = true ∧ (Lit.int k b).wf = true := by
  obtain ⟨v0, v1, y0, y1, n, rfl, _, _, g0, g1⟩ := open_agg2 hs hone hC hv h
  obtain ⟨a, ha, _, wa⟩ := DataW.trod_int h0 g0
  obtain ⟨b, hb, _, wb⟩ := DataW.trod_int h1 g1
  simp only [List.cons.injEq, and_true] at ha hb
  subst ha hb
  exact ⟨a, b, rfl, wa, wb⟩

/-- A slice of elements of one known form. -/
theorem row_of {α : Type} (K : Kd α) (F : α → Prop) {t e : TypeId} {a : Option Addr} {len cap : Nat} {d : DataW H} {p : List MemPlace} (ht : P.underlying t = some (.slice e)) (hsz : P.cellsOf e = K.sz)
    (hel : ∀ (n : Nat) (cs : List Value) (y : DataW H × List MemPlace), cs.length = P.cellsOf e → DataW.trod enc P w base spare held n e cs = some y → ∃ x : α, K.K w x cs ∧ F x)
    (h : DataW.Trod enc P w base spare held t (.slice a len cap) d p) :
    ∃ l : List α, len = l.length ∧ K.C w a l.length l ∧ l.length ≤ cap ∧ l.length ≤ maxLen ∧ ∀ x ∈ l, F x := by
  obtain ⟨fuel, hf⟩ := h
  rcases DataW.trod_slice ht hf with ⟨hcs, _⟩ | ⟨ad, len', cap', elems, rest, n, _, hcs, _, hb, hl, hm, hlen, hel', _, _⟩
  · simp [Value.cells] at hcs
    obtain ⟨rfl, rfl, rfl⟩ := hcs
    exact ⟨[], rfl, ⟨rfl, by simp, fun h => absurd h (by simp)⟩, by simp, by simp, fun x hx => by simp at hx⟩
  · simp [Value.cells] at hcs
    obtain ⟨rfl, rfl, rfl⟩ := hcs
    have each : ∀ i, i < len → ∃ x : α, (∃ cs, K.K w x cs ∧ cs.length = K.sz ∧ ∀ j u, cs[j]? = some u → w.cell? (ad.add (i * K.sz + j)) = some u) ∧ F x := by
      intro i hi
      have h2 := hel' i hi
      have hlt : i < elems.length := by omega
      rw [List.getElem?_eq_getElem hlt, Option.bind_eq_some_iff] at h2
      obtain ⟨cs, hcs, hy⟩ := h2
      obtain ⟨_, hcl, hat⟩ := World.cells?_some hcs
      obtain ⟨x, hK, hF⟩ := hel n cs _ hcl hy
      refine ⟨x, ⟨cs, hK, K.K_len hK, fun j u hj => ?_⟩, hF⟩
      have hjl : j < cs.length := (List.getElem?_eq_some_iff.1 hj).1
      have h3 := hat j (by omega)
      rw [hj] at h3
      rw [← h3, hsz, Go.Deep.add_add]
    have all : ∀ m, m ≤ len → ∃ l : List α, l.length = m ∧ (∀ i x, l[i]? = some x → (∃ cs, cs.length = K.sz ∧ K.K w x cs ∧ ∀ j u, cs[j]? = some u → w.cell? (ad.add (i * K.sz + j)) = some u)) ∧ ∀ x ∈ l, F x := by
      intro m
      induction m with
      | zero => exact fun _ => ⟨[], rfl, fun i x hx => by simp at hx, fun x hx => by simp at hx⟩
      | succ m ih =>
        intro hm'
        obtain ⟨l, hl1, hl2, hl3⟩ := ih (by omega)
        obtain ⟨x, ⟨cs, k1, k2, k3⟩, hF⟩ := each m (by omega)
        refine ⟨l ++ [x], by simp [hl1], fun i z hz => ?_, fun z hz => ?_⟩
        · by_cases hi : i < l.length
          · rw [List.getElem?_append_left hi] at hz
            exact hl2 i z hz
          · have hlt := (List.getElem?_eq_some_iff.1 hz).1
            simp at hlt
            have : i = m := by omega
            subst this
            rw [List.getElem?_append_right (by omega)] at hz
            rw [hl1] at hz
            simp at hz
            subst hz
            exact ⟨cs, k2, k1, k3⟩
        · rcases List.mem_append.1 hz with hz | hz
          · exact hl3 z hz
          · simp at hz
            subst hz
            exact hF
    obtain ⟨l, hl1, hl2, hl3⟩ := all len (Nat.le_refl _)
    refine ⟨l, hl1.symm, ⟨rfl, ?_, fun _ => ⟨ad, rfl, hl2⟩⟩, by omega, by omega, hl3⟩
    have : maxLen = 9223372036854775807 := rfl
    omega

/-- Elements: structs of two whole numbers. -/
theorem elem_ints {t : TypeId} {f0 f1 : Field} {k : IntKind} {n : Nat} {cs : List Value} {y : DataW H × List MemPlace} (hs : P.underlying t = some (.struct #[f0, f1])) (hone : oneCellFields P #[f0, f1] = true) (hC : P.cellsOf t = 2)
    (h0 : P.underlying f0.type = some (.int k)) (h1 : P.underlying f1.type = some (.int k)) (hl : cs.length = P.cellsOf t) (h : DataW.trod enc P w base spare held n t cs = some y) :
    ∃ a b : Int, cs = [.int k a, .int k b] ∧ (Lit.int k a).wf = true ∧ (Lit.int k b).wf = true := by
  obtain ⟨y0, y1, m, _, _, g0, g1⟩ := trod_struct2 hs h
  obtain ⟨o0, k0⟩ := hone_of hone 0 f0 rfl
  obtain ⟨o1, k1⟩ := hone_of hone 1 f1 rfl
  rw [hC] at hl
  match cs, hl with
  | [c0, c1], _ =>
    rw [o0, k0] at g0
    rw [o1, k1] at g1
    obtain ⟨a, ha, _, wa⟩ := DataW.trod_int h0 g0
    obtain ⟨b, hb, _, wb⟩ := DataW.trod_int h1 g1
    simp at ha hb
    subst ha hb
    exact ⟨a, b, rfl, wa, wb⟩

/-- Elements: structs of a whole number and a string. -/
theorem elem_int_str {t : TypeId} {f0 f1 : Field} {k : IntKind} {n : Nat} {cs : List Value} {y : DataW H × List MemPlace} (hs : P.underlying t = some (.struct #[f0, f1])) (hone : oneCellFields P #[f0, f1] = true) (hC : P.cellsOf t = 2)
    (h0 : P.underlying f0.type = some (.int k)) (h1 : P.underlying f1.type = some .string) (hl : cs.length = P.cellsOf t) (h : DataW.trod enc P w base spare held n t cs = some y) :
    ∃ (a : Int) (s : ByteArray), cs = [.int k a, .string s] ∧ (Lit.int k a).wf = true ∧ s.size ≤ maxLen := by
  obtain ⟨y0, y1, m, _, _, g0, g1⟩ := trod_struct2 hs h
  obtain ⟨o0, k0⟩ := hone_of hone 0 f0 rfl
  obtain ⟨o1, k1⟩ := hone_of hone 1 f1 rfl
  rw [hC] at hl
  match cs, hl with
  | [c0, c1], _ =>
    rw [o0, k0] at g0
    rw [o1, k1] at g1
    obtain ⟨a, ha, _, wa⟩ := DataW.trod_int h0 g0
    obtain ⟨b, hb, _, wb⟩ := DataW.trod_string h1 g1
    simp at ha hb
    subst ha hb
    exact ⟨a, b, rfl, wa, wb⟩

/-- Slices of strings. -/
theorem row_strings {t e : TypeId} {a : Option Addr} {len cap : Nat} {d : DataW H} {p : List MemPlace} (ht : P.underlying t = some (.slice e)) (he : P.underlying e = some .string) (hsz : P.cellsOf e = 1)
    (h : DataW.Trod enc P w base spare held t (.slice a len cap) d p) :
    ∃ l : List ByteArray, len = l.length ∧ Kd.string.C w a l.length l ∧ l.length ≤ cap ∧ l.length ≤ maxLen ∧ ∀ x ∈ l, x.size ≤ maxLen :=
  row_of Kd.string (fun x => x.size ≤ maxLen) ht hsz (fun n cs y _ hy => by
    obtain ⟨s, rfl, _, hs⟩ := DataW.trod_string he hy
    exact ⟨s, rfl, hs⟩) h

/-- Slices of whole numbers. -/
theorem row_ints {t e : TypeId} {k : IntKind} {a : Option Addr} {len cap : Nat} {d : DataW H} {p : List MemPlace} (ht : P.underlying t = some (.slice e)) (he : P.underlying e = some (.int k)) (hsz : P.cellsOf e = 1)
    (h : DataW.Trod enc P w base spare held t (.slice a len cap) d p) :
    ∃ l : List Int, len = l.length ∧ (Kd.int k).C w a l.length l ∧ l.length ≤ cap ∧ l.length ≤ maxLen ∧ ∀ x ∈ l, (Lit.int k x).wf = true :=
  row_of (Kd.int k) (fun x => (Lit.int k x).wf = true) ht hsz (fun n cs y _ hy => by
    obtain ⟨s, rfl, _, hs⟩ := DataW.trod_int he hy
    exact ⟨s, rfl, hs⟩) h
end
end Go.Proofs.Ytmiknhlogpoikaa.Open
