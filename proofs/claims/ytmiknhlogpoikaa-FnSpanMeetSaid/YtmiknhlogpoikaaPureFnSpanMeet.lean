/- The law FnSpanMeet over numbers and lists, as the program's text computes it: it answers true. Conditions: the arguments are of their kinds, lengths fit. -/
import Derived.Test.YtmiknhlogpoikaaPFnSpanMeetx5
import Derived.OpenShut
import Derived.Laws.Strings
namespace Go.Proofs.Ytmiknhlogpoikaa.Pure
open Go.RowKit Go.Proofs.Ytmiknhlogpoikaa.PFnSpanMeet Go.Proofs.YtmiknhlogpoikaaW.PrintWords Go.Proofs.YtmiknhlogpoikaaW.PrintLast
set_option linter.unusedVariables false
set_option linter.unusedSimpArgs false

/-! Words for the pure side: strings as lists of bytes, counters as natural numbers, what is answered from some round on. -/
def B (s : ByteArray) : List UInt8 := s.data.toList
theorem B_size (s : ByteArray) : s.size = (B s).length := (Array.length_toList).symm
theorem B_toList (s : ByteArray) : s.toList = B s := Go.ByteArray.toList_eq s
theorem B_inj {s t : ByteArray} (h : B s = B t) : s = t := by
  cases s; cases t
  simp only [B] at h
  congr 1
  exact Array.ext' h
theorem B_app (s t : ByteArray) : B (s ++ t) = B s ++ B t := by simp [B, ByteArray.data_append]
theorem B_ext (s : ByteArray) (i j : Nat) : B (s.extract i j) = ((B s).take j).drop i := by
  simp [B, ByteArray.data_extract, List.extract_eq_take_drop, List.drop_take]
theorem B_nil : B (⟨#[]⟩ : ByteArray) = [] := rfl
theorem bt_B (s : ByteArray) (i : Nat) (h : i < (B s).length) : bt s (i : Int) = (((B s)[i]'h).toNat : Int) := by
  have h' : (i : Int).toNat < s.size := by rw [B_size]; simpa using h
  unfold bt
  rw [dif_pos h']
  rfl
theorem wsucc (i : Nat) (h : i < 4611686018427387904) : wrap64 ((i : Int) + 1) = ((i + 1 : Nat) : Int) := by unfold wrap64; omega
theorem wpred (i : Nat) (h : i < 4611686018427387904) (h0 : 0 < i) : wrap64 ((i : Int) - 1) = ((i - 1 : Nat) : Int) := by unfold wrap64; omega
theorem wid {x : Int} (h0 : -9223372036854775808 ≤ x) (h1 : x ≤ 9223372036854775807) : wrap64 x = x := by unfold wrap64; omega
theorem Ev.cut {α : Type} {g f : Nat → Option α} {r : α} (k : Ev f r) (h : ∀ k, g (k + 1) = f k) : Ev g r := Ev.step h k
theorem Ev.end_ {α : Type} {g : Nat → Option α} {r : α} (h : ∀ k, g (k + 1) = some r) : Ev g r := Ev.step h (Ev.now r)
theorem Ev.all {α : Type} {g : Nat → Option α} {r : α} (h : ∀ k, g k = some r) : Ev g r := ⟨0, fun k _ => h k⟩
theorem Ev.uniq {α : Type} {g : Nat → Option α} {r q : α} (h : Ev g r) (h' : Ev g q) : r = q := by
  obtain ⟨K, h⟩ := h
  obtain ⟨K', h'⟩ := h'
  have h1 := h (max K K') (by omega)
  rw [h' (max K K') (by omega)] at h1
  exact (Option.some.inj h1).symm
theorem dec_eq {p q : Prop} [Decidable p] [Decidable q] (h : p ↔ q) : (some (decide p) : Option Bool) = some (decide q) := by rw [decide_eq_decide.2 h]
theorem dec_false {q : Prop} [Decidable q] (h : ¬ q) : (some false : Option Bool) = some (decide q) := by rw [decide_eq_false h]
theorem dec_true {q : Prop} [Decidable q] (h : q) : (some true : Option Bool) = some (decide q) := by rw [decide_eq_true h]

/-! Ranges, valid. -/
def spOk (a b : Int) : Bool := decide (0 ≤ a ∧ a < b ∧ b ≤ 48)
theorem spec_SpanOk_is (a b : Int) : spec_SpanOk.f a b = some (spOk a b) := by
  unfold spec_SpanOk.f spOk
  repeat' split
  all_goals first | exact dec_eq (by omega) | exact dec_false (by omega)
theorem impl_SpanOk_is (a b : Int) : impl_SpanOk.f a b = some (spOk a b) := by
  unfold impl_SpanOk.f spOk
  repeat' split
  all_goals first | exact dec_eq (by omega) | exact dec_false (by omega)

theorem l1Max_is (a b : Int) : spec_l1Max.f a b = some (mx a b) := by
  unfold spec_l1Max.f mx
  split <;> split <;> first | rfl | (congr 1; omega)

theorem l1Min_is (a b : Int) : spec_l1Min.f a b = some (mn a b) := by
  unfold spec_l1Min.f mn
  split <;> split <;> first | rfl | (congr 1; omega)

/-! What two ranges have in common. -/
def spMeet (a b c d : Int) : Int × Int × Bool := if spOk a b = true ∧ spOk c d = true ∧ mx a c < mn b d then (mx a c, mn b d, true) else (0, 0, false)
theorem spec_SpanMeet_is (a b c d : Int) : spec_SpanMeet.f a b c d = some (spMeet a b c d) := by
  unfold spec_SpanMeet.f spMeet spec_l1Meet.f
  rw [spec_SpanOk_is, spec_SpanOk_is, l1Max_is, l1Min_is]
  cases h : spOk a b with
  | false => simp
  | true =>
    cases h2 : spOk c d with
    | false => simp
    | true =>
      simp only [Option.bind_some, if_true]
      by_cases h3 : mx a c ≥ mn b d
      · rw [if_pos h3, if_neg (by omega)]; rfl
      · rw [if_neg h3, if_pos ⟨trivial, trivial, by omega⟩]; rfl
theorem impl_SpanMeet_is (a b c d : Int) : impl_SpanMeet.f a b c d = some (spMeet a b c d) := by
  unfold impl_SpanMeet.f spMeet
  rw [impl_SpanOk_is, impl_SpanOk_is, impl_SpanOk_is]
  cases h : spOk a b with
  | false => simp
  | true =>
    cases h2 : spOk c d with
    | false => simp
    | true =>
      have h' := of_decide_eq_true h
      have h2' := of_decide_eq_true h2
      simp only [Option.bind_some, if_true]
      cases h3 : spOk (mx a c) (mn b d) with
      | true =>
        have h3' := of_decide_eq_true h3
        rw [if_pos rfl, if_pos ⟨trivial, trivial, by omega⟩]
      | false =>
        have h3' := of_decide_eq_false h3
        rw [if_neg (by simp), if_neg (fun hh => h3' ⟨by unfold mx; split <;> omega, hh.2.2, by unfold mn; split <;> omega⟩)]

/-! The reader of draws. -/
def RB (b : List Int) : Prop := b.length ≤ 2000 ∧ ∀ x ∈ b, 0 ≤ x ∧ x ≤ 255
theorem rd_byte {b : List Int} (hb : RB b) (i : Int) : 0 ≤ rd b i ∧ rd b i ≤ 255 := by
  unfold rd
  rw [List.getD_eq_getElem?_getD]
  cases e : b[i.toNat]? with
  | none => simp
  | some x => exact hb.2 x (List.mem_of_getElem? e)
theorem open_is (l : List Int) (hw : ∀ x ∈ l, (Lit.int .u8 x).wf = true) : ∃ b, spec_l10Open.f l = some (b, 0) ∧ RB b := by
  have h : ∀ x ∈ l, 0 ≤ x ∧ x ≤ 255 := fun x hx => bounds_u8 (hw x hx)
  unfold spec_l10Open.f
  by_cases hl : (l.length : Int) > 2000
  · rw [if_pos hl, if_pos (by omega)]
    exact ⟨_, rfl, by rw [List.length_take]; omega, fun x hx => h x (List.mem_of_mem_take hx)⟩
  · rw [if_neg hl]
    exact ⟨_, rfl, by omega, h⟩
theorem xor_nonneg (a b : Int) (ha0 : 0 ≤ a) (ha : a < 1152921504606846976) (hb0 : 0 ≤ b) (hb : b < 1152921504606846976) : 0 ≤ Go.bits .xor .i64 a b := by
  obtain ⟨m, rfl⟩ := Int.eq_ofNat_of_zero_le ha0
  obtain ⟨n, rfl⟩ := Int.eq_ofNat_of_zero_le hb0
  have hm : m < 2 ^ 60 := by omega
  have hn : n < 2 ^ 60 := by omega
  have hx : m ^^^ n < 2 ^ 60 := Nat.xor_lt_two_pow hm hn
  have hm' : m % 2 ^ IntKind.i64.bits = m := Nat.mod_eq_of_lt (show m < 2 ^ 64 by omega)
  have hn' : n % 2 ^ IntKind.i64.bits = n := Nat.mod_eq_of_lt (show n < 2 ^ 64 by omega)
  have e : Go.bits .xor .i64 (m : Int) (n : Int) = IntKind.i64.wrap ((m ^^^ n : Nat) : Int) := by
    simp only [bits, BitVec.ofInt_natCast, BitVec.toNat_xor, BitVec.toNat_ofNat, hm', hn']
  rw [e, IntKind.wrap_i64]
  omega
theorem pick_is {b : List Int} (hb : RB b) (p n : Int) (h0 : 0 ≤ p) (h1 : p ≤ 1099511627776) (hn1 : 1 ≤ n) : ∃ v, Ev (fun k => spec_l10Rd_pick.f k b p n) (v, p + 1) ∧ 0 ≤ v ∧ v < n := by
  have e1 : wrap64 (p + 1) = p + 1 := wid (by omega) (by omega)
  have e2 : wrap64 (p + 1 - 1) = p := by rw [show p + 1 - 1 = p by omega]; exact wid (by omega) (by omega)
  have hl := hb.1
  by_cases hz : (b.length : Int) = 0
  · refine ⟨0, Ev.end_ (fun k => ?_), by omega, by omega⟩
    unfold spec_l10Rd_pick.f
    rw [if_neg (by omega), e1]
    simp only [spec_l10Rd_pick.j0]
    rw [if_pos (by simpa using hz)]
  · by_cases hlt : p < (b.length : Int)
    · have hr := rd_byte hb p
      refine ⟨Int.tmod (rd b p) n, Ev.end_ (fun k => ?_), ?_, ?_⟩
      · unfold spec_l10Rd_pick.f
        rw [if_neg (by omega), e1]
        simp only [spec_l10Rd_pick.j0]
        rw [if_neg (by simpa using hz), e2, if_pos hlt, if_pos h0, if_neg (by omega), wid (by omega) (by omega)]
      · rw [Int.tmod_eq_emod_of_nonneg hr.1]; exact Int.emod_nonneg _ (by omega)
      · rw [Int.tmod_eq_emod_of_nonneg hr.1]; exact Int.emod_lt_of_pos _ (by omega)
    · have e3 : wrap64 (p * 7) = p * 7 := wid (by omega) (by omega)
      have e4 : wrap64 (p * 7 + 3) = p * 7 + 3 := wid (by omega) (by omega)
      have q0 : 0 ≤ p % (b.length : Int) := Int.emod_nonneg _ hz
      have q1 : p % (b.length : Int) < (b.length : Int) := Int.emod_lt_of_pos _ (by omega)
      have q2 : 0 ≤ (p * 7 + 3) % (b.length : Int) := Int.emod_nonneg _ hz
      have q3 : (p * 7 + 3) % (b.length : Int) < (b.length : Int) := Int.emod_lt_of_pos _ (by omega)
      have q4 : 0 ≤ p / (b.length : Int) := Int.ediv_nonneg h0 (by omega)
      have q5 : p / (b.length : Int) ≤ p := Int.ediv_le_self _ h0
      have r1 := rd_byte hb (p % (b.length : Int))
      have r2 := rd_byte hb ((p * 7 + 3) % (b.length : Int))
      obtain ⟨X, hX⟩ : ∃ X, X = rd b (p % (b.length : Int)) * 131 + rd b ((p * 7 + 3) % (b.length : Int)) * 1117 + p * 29 + p / (b.length : Int) * 53 := ⟨_, rfl⟩
      have x0 : 0 ≤ X := by omega
      have x1 : X < 1152921504606846976 := by omega
      have y := xor_nonneg X (X / 64) x0 x1 (by omega) (by omega)
      refine ⟨Int.tmod (Go.bits .xor .i64 X (X / 64)) n, Ev.end_ (fun k => ?_), ?_, ?_⟩
      · unfold spec_l10Rd_pick.f
        rw [if_neg (by omega), e1]
        simp only [spec_l10Rd_pick.j0]
        rw [if_neg (by simpa using hz), e2, if_neg hlt, if_neg hz, Int.tmod_eq_emod_of_nonneg h0, if_pos q0, if_pos q1, e3, e4, Int.tmod_eq_emod_of_nonneg (show 0 ≤ p * 7 + 3 by omega), if_pos q2, if_pos q3, if_neg (by omega), Int.tdiv_eq_ediv_of_nonneg h0,
          wid (x := rd b (p % (b.length : Int))) (by omega) (by omega), wid (x := rd b ((p * 7 + 3) % (b.length : Int))) (by omega) (by omega), wid (x := rd b (p % (b.length : Int)) * 131) (by omega) (by omega), wid (x := rd b ((p * 7 + 3) % (b.length : Int)) * 1117) (by omega) (by omega),
          wid (x := rd b (p % (b.length : Int)) * 131 + rd b ((p * 7 + 3) % (b.length : Int)) * 1117) (by omega) (by omega), wid (x := p * 29) (by omega) (by omega), wid (x := rd b (p % (b.length : Int)) * 131 + rd b ((p * 7 + 3) % (b.length : Int)) * 1117 + p * 29) (by omega) (by omega),
          wid (x := p / (b.length : Int)) (by omega) (by omega), wid (x := p / (b.length : Int) * 53) (by omega) (by omega), ← hX, wid (x := X) (by omega) (by omega), Int.tdiv_eq_ediv_of_nonneg x0, wid (x := X / 64) (by omega) (by omega)]
      · rw [Int.tmod_eq_emod_of_nonneg y]; exact Int.emod_nonneg _ (by omega)
      · rw [Int.tmod_eq_emod_of_nonneg y]; exact Int.emod_lt_of_pos _ (by omega)

/-! One of a list of numbers. -/
theorem rd_mem (l : List Int) (i : Int) (h0 : 0 ≤ i) (h1 : i < (l.length : Int)) : rd l i ∈ l := by
  unfold rd
  rw [List.getD_eq_getElem?_getD, List.getElem?_eq_getElem (by omega)]
  exact List.getElem_mem _
theorem num_is {b : List Int} (hb : RB b) (p : Int) (l : List Int) (h0 : 0 ≤ p) (h1 : p ≤ 1099511627776) (hn1 : 1 ≤ (l.length : Int)) : ∃ v, Ev (fun k => spec_l10Rd_num.f k b p l) (v, p + 1) ∧ v ∈ l := by
  obtain ⟨i, hi, i0, i1⟩ := pick_is hb p (l.length : Int) h0 h1 hn1
  refine ⟨rd l i, Ev.bind hi (Ev.all fun k => ?_), rd_mem l i i0 i1⟩
  rw [if_pos i0, if_pos i1]

/-! A range, drawn. -/
theorem l1Span_is {b : List Int} (hb : RB b) (p : Int) (h0 : 0 ≤ p) (h1 : p ≤ 1000000000000) : ∃ x y, Ev (fun k => spec_l1Span.f k b p) (x, y, p + 1 + 1) ∧ 0 ≤ x ∧ x < y ∧ y ≤ 48 := by
  obtain ⟨x, hx, x0, x1⟩ := pick_is hb p 47 h0 (by omega) (by omega)
  obtain ⟨v, hv, vm⟩ := num_is hb (p + 1) [0, 1, 3, 5, 9, 20, 47] (by omega) (by omega) (by simp)
  have hv2 : 0 ≤ v ∧ v ≤ 47 := by simp at vm; omega
  refine ⟨x, mn 48 (x + 1 + v), Ev.bind hx (Ev.bind hv (Ev.all fun k => ?_)), x0, ?_, ?_⟩
  · rw [wid (x := x + 1) (by omega) (by omega), wid (x := x + 1 + v) (by omega) (by omega), l1Min_is]
    rfl
  · unfold mn; split <;> omega
  · unfold mn; split <;> omega
theorem l1Some_is {b : List Int} (hb : RB b) (p : Int) (h0 : 0 ≤ p) (h1 : p ≤ 1000000000000) : ∃ x y, Ev (fun k => spec_l1Some.f k b p) (x, y, p + 1 + 1 + 1) := by
  obtain ⟨x, y, hx, _⟩ := l1Span_is hb p h0 h1
  obtain ⟨v, hv, v0, v1⟩ := pick_is hb (p + 1 + 1) 48 (by omega) (by omega) (by omega)
  by_cases c0 : v = 0
  · exact ⟨_, _, Ev.bind hx (Ev.bind hv (Ev.all fun k => by rw [if_pos c0]))⟩
  by_cases c1 : v = 1
  · exact ⟨_, _, Ev.bind hx (Ev.bind hv (Ev.all fun k => by rw [if_neg c0, if_pos c1]))⟩
  by_cases c2 : v = 2
  · exact ⟨_, _, Ev.bind hx (Ev.bind hv (Ev.all fun k => by rw [if_neg c0, if_neg c1, if_pos c2]))⟩
  by_cases c3 : v = 3
  · exact ⟨_, _, Ev.bind hx (Ev.bind hv (Ev.all fun k => by rw [if_neg c0, if_neg c1, if_neg c2, if_pos c3]))⟩
  · exact ⟨_, _, Ev.bind hx (Ev.bind hv (Ev.all fun k => by rw [if_neg c0, if_neg c1, if_neg c2, if_neg c3]))⟩

theorem DrawSpanMeet_is (l : List Int) (hw : ∀ x ∈ l, (Lit.int .u8 x).wf = true) : ∃ a b c d, Ev (fun k => spec_DrawSpanMeet.f k l) (a, b, c, d) := by
  obtain ⟨r, hr, hb⟩ := open_is l hw
  obtain ⟨x, y, h1⟩ := l1Some_is hb 0 (by omega) (by omega)
  obtain ⟨z, u, h2⟩ := l1Some_is hb (0 + 1 + 1 + 1) (by omega) (by omega)
  refine ⟨x, y, z, u, ?_⟩
  unfold spec_DrawSpanMeet.f
  simp only [hr, Option.bind_some]
  exact Ev.bind h1 (Ev.bind h2 (Ev.now _))
theorem spMeet_comm (a b c d : Int) : spMeet c d a b = spMeet a b c d := by
  have h1 : mx c a = mx a c := by unfold mx; split <;> split <;> omega
  have h2 : mn d b = mn b d := by unfold mn; split <;> split <;> omega
  unfold spMeet
  rw [h1, h2]
  by_cases h : spOk a b = true ∧ spOk c d = true ∧ mx a c < mn b d
  · rw [if_pos h, if_pos ⟨h.2.1, h.1, h.2.2⟩]
  · rw [if_neg h, if_neg (fun g => h ⟨g.2.1, g.1, g.2.2⟩)]

theorem FnSpanMeet (l0 : List Int) (hm0 : l0.length ≤ maxLen) (hw0 : ∀ x ∈ l0, (Lit.int .u8 x).wf = true) : ∃ k, laws_FnSpanMeet.f k l0 = some true := by
  have hm := hm0
  have hw := hw0
  by_cases h : (l0.length : Int) > 1048576
  · exact ⟨0, by unfold laws_FnSpanMeet.f; rw [if_pos h]⟩
  refine Ev.rounds (r := true) (g := fun k => laws_FnSpanMeet.f k l0) ?_
  unfold laws_FnSpanMeet.f
  simp only [if_neg h]
  obtain ⟨a, b, c, d, hd⟩ := DrawSpanMeet_is l0 hw
  refine Ev.bind hd ?_
  simp only [spec_SpanMeet_is, impl_SpanMeet_is, Option.bind_some, spMeet_comm a b c d, impl_SpanOk_is, spec_SpanOk_is]
  simp only [beq_self_eq_true, bne_self_eq_false, Bool.not_true, Bool.or_self, Bool.false_eq_true, if_false]
  refine Ev.end_ (fun k => ?_)
  simp only [laws_FnSpanMeet.j0, Bool.false_eq_true, if_false]
  unfold spMeet
  by_cases hc : spOk a b = true ∧ spOk c d = true ∧ mx a c < mn b d
  · rw [if_pos hc]
    obtain ⟨g1, g2, g3⟩ := hc
    have g1' := of_decide_eq_true g1
    have g2' := of_decide_eq_true g2
    have hok : spOk (mx a c) (mn b d) = true := decide_eq_true ⟨by unfold mx; split <;> omega, g3, by unfold mn; split <;> omega⟩
    simp only [if_true, impl_SpanOk_is, Option.bind_some, hok]
    have m1 : mx a c ≥ a := by unfold mx; split <;> omega
    have m2 : mx a c ≥ c := by unfold mx; split <;> omega
    have m3 : mn b d ≤ b := by unfold mn; split <;> omega
    have m4 : mn b d ≤ d := by unfold mn; split <;> omega
    have m5 : mx a c = a ∨ mx a c = c := by unfold mx; split <;> simp
    have m6 : mn b d = b ∨ mn b d = d := by unfold mn; split <;> simp
    rw [if_pos m1, if_pos m2, if_pos m3, if_pos m4]
    by_cases e1 : mx a c = a
    · rw [if_pos e1]
      by_cases e2 : mn b d = b
      · rw [if_pos e2]
      · rw [if_neg e2]; have := m6.resolve_left e2; simp [this]
    · rw [if_neg e1, if_pos (m5.resolve_left e1)]
      by_cases e2 : mn b d = b
      · rw [if_pos e2]
      · rw [if_neg e2]; have := m6.resolve_left e2; simp [this]
  · rw [if_neg hc]
    simp only [Bool.false_eq_true, if_false, spec_SpanOk_is, Option.bind_some]
    rw [if_pos (by decide)]
    cases g1 : spOk a b with
    | false => simp
    | true =>
      cases g2 : spOk c d with
      | false => simp
      | true =>
        simp only [if_true]
        have hx : ¬ mx a c < mn b d := fun hh => hc ⟨g1, g2, hh⟩
        have g1' := of_decide_eq_true g1
        have g2' := of_decide_eq_true g2
        by_cases e : b ≤ c
        · rw [if_pos e]
        · rw [if_neg e, decide_eq_true]
          unfold mx mn at hx
          split at hx <;> split at hx <;> omega

end Go.Proofs.Ytmiknhlogpoikaa.Pure
