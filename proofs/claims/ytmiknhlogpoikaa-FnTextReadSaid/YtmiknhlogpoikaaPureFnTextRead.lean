/- The law FnTextRead over numbers and lists, as the program's text computes it: it answers true. Conditions: the arguments are of their kinds, lengths fit. -/
import Derived.Test.YtmiknhlogpoikaaPFnTextReadx3
import Derived.OpenShut
import Derived.Laws.Strings
namespace Go.Proofs.Ytmiknhlogpoikaa.Pure
open Go.RowKit Go.Proofs.Ytmiknhlogpoikaa.PFnTextRead Go.Proofs.YtmiknhlogpoikaaW.PrintWords Go.Proofs.YtmiknhlogpoikaaW.PrintLast
set_option linter.unusedVariables false
set_option linter.unusedSimpArgs false

/-! Words for the pure side: strings as lists of bytes, counters as natural numbers, what is answered from some round on. -/
def B (s : ByteArray) : List UInt8 := s.data.toList
theorem B_size (s : ByteArray) : s.size = (B s).length := (Array.length_toList).symm
theorem B_toList (s : ByteArray) : s.toList = B s := Go.ByteArray.toList_eq s
theorem B_inj {s t : ByteArray} (h : B s = B t) : s = t := by
  cases s; cases t
  simp only [B] at h
  congr 1
  exact Array.ext' h
theorem B_app (s t : ByteArray) : B (s ++ t) = B s ++ B t := by simp [B, ByteArray.data_append]
theorem B_ext (s : ByteArray) (i j : Nat) : B (s.extract i j) = ((B s).take j).drop i := by
  simp [B, ByteArray.data_extract, List.extract_eq_take_drop, List.drop_take]
theorem B_nil : B (⟨#[]⟩ : ByteArray) = [] := rfl
theorem bt_B (s : ByteArray) (i : Nat) (h : i < (B s).length) : bt s (i : Int) = (((B s)[i]'h).toNat : Int) := by
  have h' : (i : Int).toNat < s.size := by rw [B_size]; simpa using h
  unfold bt
  rw [dif_pos h']
  rfl
theorem wsucc (i : Nat) (h : i < 4611686018427387904) : wrap64 ((i : Int) + 1) = ((i + 1 : Nat) : Int) := by unfold wrap64; omega
theorem wpred (i : Nat) (h : i < 4611686018427387904) (h0 : 0 < i) : wrap64 ((i : Int) - 1) = ((i - 1 : Nat) : Int) := by unfold wrap64; omega
theorem wid {x : Int} (h0 : -9223372036854775808 ≤ x) (h1 : x ≤ 9223372036854775807) : wrap64 x = x := by unfold wrap64; omega
theorem Ev.cut {α : Type} {g f : Nat → Option α} {r : α} (k : Ev f r) (h : ∀ k, g (k + 1) = f k) : Ev g r := Ev.step h k
theorem Ev.end_ {α : Type} {g : Nat → Option α} {r : α} (h : ∀ k, g (k + 1) = some r) : Ev g r := Ev.step h (Ev.now r)
theorem Ev.all {α : Type} {g : Nat → Option α} {r : α} (h : ∀ k, g k = some r) : Ev g r := ⟨0, fun k _ => h k⟩
theorem Ev.uniq {α : Type} {g : Nat → Option α} {r q : α} (h : Ev g r) (h' : Ev g q) : r = q := by
  obtain ⟨K, h⟩ := h
  obtain ⟨K', h'⟩ := h'
  have h1 := h (max K K') (by omega)
  rw [h' (max K K') (by omega)] at h1
  exact (Option.some.inj h1).symm
theorem dec_eq {p q : Prop} [Decidable p] [Decidable q] (h : p ↔ q) : (some (decide p) : Option Bool) = some (decide q) := by rw [decide_eq_decide.2 h]
theorem dec_false {q : Prop} [Decidable q] (h : ¬ q) : (some false : Option Bool) = some (decide q) := by rw [decide_eq_false h]
theorem dec_true {q : Prop} [Decidable q] (h : q) : (some true : Option Bool) = some (decide q) := by rw [decide_eq_true h]

def mkB (L : List UInt8) : ByteArray := ⟨L.toArray⟩
theorem B_mkB (L : List UInt8) : B (mkB L) = L := by simp [B, mkB]
theorem eq_mkB {r : ByteArray} {X : List UInt8} (h : B r = X) : r = mkB X := B_inj (by rw [h, B_mkB])
theorem mkB_B (s : ByteArray) : mkB (B s) = s := (eq_mkB rfl).symm
theorem mkB_size (L : List UInt8) : (mkB L).size = L.length := by rw [B_size, B_mkB]

/-! Ranges, valid. -/
def spOk (a b : Int) : Bool := decide (0 ≤ a ∧ a < b ∧ b ≤ 48)
theorem spec_SpanOk_is (a b : Int) : spec_SpanOk.f a b = some (spOk a b) := by
  unfold spec_SpanOk.f spOk
  repeat' split
  all_goals first | exact dec_eq (by omega) | exact dec_false (by omega)
theorem impl_SpanOk_is (a b : Int) : impl_SpanOk.f a b = some (spOk a b) := by
  unfold impl_SpanOk.f spOk
  repeat' split
  all_goals first | exact dec_eq (by omega) | exact dec_false (by omega)

theorem l1Min_is (a b : Int) : spec_l1Min.f a b = some (mn a b) := by
  unfold spec_l1Min.f mn
  split <;> split <;> first | rfl | (congr 1; omega)

/-! Files, valid. -/
def cOk (c : UInt8) : Bool := decide (c.toNat = 46 ∨ (97 ≤ c.toNat ∧ c.toNat ≤ 122) ∨ (48 ≤ c.toNat ∧ c.toNat ≤ 57))
def tOk (l : List UInt8) : Bool := l.all cOk && decide (l.length ≤ 48)
theorem spec_l2Byte_is (c : UInt8) : spec_l2Byte.f (c.toNat : Int) = some (cOk c) := by
  unfold spec_l2Byte.f cOk
  repeat' split
  all_goals first | exact dec_true (by omega) | exact dec_eq (by omega) | exact dec_false (by omega)
theorem all_drop (l : List UInt8) (i : Nat) (h : i < l.length) : (l.drop i).all cOk = (cOk l[i] && (l.drop (i + 1)).all cOk) := by
  rw [List.drop_eq_getElem_cons h, List.all_cons]
theorem spec_TextOk_l (s : ByteArray) (hs : s.size < 4611686018427387904) : ∀ (d i : Nat), i + d = (B s).length → Ev (fun k => spec_TextOk.l0 k s (i : Int)) ((((B s).drop i).all cOk) && decide ((B s).length ≤ 48)) := by
  have hz : (s.size : Int) = ((B s).length : Int) := by rw [B_size]
  have hs' : (B s).length < 4611686018427387904 := by rw [← B_size]; exact hs
  intro d
  induction d with
  | zero =>
    intro i hi
    refine Ev.end_ (fun k => ?_)
    simp only [spec_TextOk.l0]
    rw [hz, if_neg (by omega), List.drop_of_length_le (by omega)]
    simp
    omega
  | succ d ih =>
    intro i hi
    have hlt : i < (B s).length := by omega
    have hr : (((B s).drop i).all cOk) = (cOk ((B s)[i]) && ((B s).drop (i + 1)).all cOk) := all_drop _ _ hlt
    rw [hr]
    cases hc : cOk ((B s)[i]) with
    | true =>
      refine Ev.cut (f := fun k => spec_TextOk.l0 k s ((i + 1 : Nat) : Int)) ?_ (fun k => ?_)
      · simpa using ih (i + 1) (by omega)
      · simp only [spec_TextOk.l0]
        rw [hz, if_pos (by omega), if_pos (by omega), bt_B s i hlt, spec_l2Byte_is, wsucc i (by omega), hc]
        rfl
    | false =>
      refine Ev.end_ (fun k => ?_)
      simp only [spec_TextOk.l0]
      rw [hz, if_pos (by omega), if_pos (by omega), bt_B s i hlt, spec_l2Byte_is, hc]
      simp
theorem spec_TextOk_is (s : ByteArray) (hs : s.size < 4611686018427387904) : Ev (fun k => spec_TextOk.f k s) (tOk (B s)) := by
  have h := spec_TextOk_l s hs (B s).length 0 (by omega)
  simpa [spec_TextOk.f, tOk] using h
theorem impl_TextOk_l (s : ByteArray) (hs : s.size < 4611686018427387904) : ∀ (d i : Nat), i + d = (B s).length → Ev (fun k => impl_TextOk.l0 k s (s.size : Int) (i : Int)) ((((B s).drop i).all cOk) && decide ((B s).length ≤ 48)) := by
  have hz : (s.size : Int) = ((B s).length : Int) := by rw [B_size]
  have hs' : (B s).length < 4611686018427387904 := by rw [← B_size]; exact hs
  intro d
  induction d with
  | zero =>
    intro i hi
    refine Ev.end_ (fun k => ?_)
    simp only [impl_TextOk.l0]
    rw [hz, if_neg (by omega), List.drop_of_length_le (by omega)]
    simp
    omega
  | succ d ih =>
    intro i hi
    have hlt : i < (B s).length := by omega
    have hr : (((B s).drop i).all cOk) = (cOk ((B s)[i]) && ((B s).drop (i + 1)).all cOk) := all_drop _ _ hlt
    rw [hr]
    cases hc : cOk ((B s)[i]) with
    | true =>
      have hc' := of_decide_eq_true hc
      refine Ev.cut (f := fun k => impl_TextOk.l0 k s (s.size : Int) ((i + 1 : Nat) : Int)) ?_ (fun k => ?_)
      · simpa using ih (i + 1) (by omega)
      · simp only [impl_TextOk.l0]
        rw [if_pos (by omega), if_pos (by omega), if_pos (by omega), bt_B s i hlt, wsucc i (by omega)]
        repeat' split
        all_goals first | rfl | (exfalso; omega)
    | false =>
      have hc' := of_decide_eq_false hc
      refine Ev.end_ (fun k => ?_)
      simp only [impl_TextOk.l0]
      rw [if_pos (by omega), if_pos (by omega), if_pos (by omega), bt_B s i hlt]
      simp only [Bool.false_and]
      repeat' split
      all_goals first | rfl | (exfalso; omega)
theorem impl_TextOk_is (s : ByteArray) (hs : s.size < 4611686018427387904) : Ev (fun k => impl_TextOk.f k s) (tOk (B s)) := by
  have h := impl_TextOk_l s hs (B s).length 0 (by omega)
  simpa [impl_TextOk.f, tOk] using h

/-! Reads. -/
def tRead (l : List UInt8) (a b : Int) : List UInt8 := if tOk l = true ∧ spOk a b = true then (l.take b.toNat).drop a.toNat else []
theorem spec_TextRead_is (s : ByteArray) (hs : s.size < 4611686018427387904) (a b : Int) : ∃ r, Ev (fun k => spec_TextRead.f k s a b) r ∧ B r = tRead (B s) a b := by
  have h := spec_TextOk_is s hs
  cases ht : tOk (B s) with
  | false =>
    rw [ht] at h
    refine ⟨⟨#[]⟩, Ev.bind h (Ev.all fun k => rfl), by simp [tRead, ht, B_nil]⟩
  | true =>
    rw [ht] at h
    cases hp : spOk a b with
    | false => refine ⟨⟨#[]⟩, Ev.bind h (Ev.all fun k => by simp [spec_SpanOk_is, hp]), by simp [tRead, hp, B_nil]⟩
    | true =>
      have hp' := of_decide_eq_true hp
      refine ⟨s.extract (mn a s.size).toNat (mn b s.size).toNat, Ev.bind h (Ev.all fun k => ?_), ?_⟩
      · simp only [spec_SpanOk_is, hp, if_true, Option.bind_some, spec_l2Read.f, l1Min_is]
        rw [if_pos (by unfold mn; split <;> omega), if_pos (by unfold mn; split <;> split <;> omega), if_pos (by unfold mn; split <;> omega)]
        rfl
      · rw [B_ext, tRead, if_pos ⟨ht, hp⟩]
        have hz : (s.size : Int) = ((B s).length : Int) := by rw [B_size]
        rw [hz]
        unfold mn
        split <;> split
        · rw [List.take_of_length_le (by omega), List.drop_of_length_le (by omega), List.drop_of_length_le (by rw [List.length_take]; omega)]
        · rw [List.drop_of_length_le (by rw [List.length_take]; omega), List.drop_of_length_le (by rw [List.length_take]; omega)]
        · rw [List.take_of_length_le (by omega), List.take_of_length_le (by omega)]
        · rfl
theorem impl_TextRead_is (s : ByteArray) (hs : s.size < 4611686018427387904) (a b : Int) : ∃ r, Ev (fun k => impl_TextRead.f k s a b) r ∧ B r = tRead (B s) a b := by
  have h := impl_TextOk_is s hs
  cases ht : tOk (B s) with
  | false =>
    rw [ht] at h
    refine ⟨⟨#[]⟩, Ev.bind h (Ev.all fun k => rfl), by simp [tRead, ht, B_nil]⟩
  | true =>
    rw [ht] at h
    cases hp : spOk a b with
    | false => refine ⟨⟨#[]⟩, Ev.bind h (Ev.all fun k => by simp [impl_SpanOk_is, hp]), by simp [tRead, hp, B_nil]⟩
    | true =>
      have hp' := of_decide_eq_true hp
      refine ⟨s.extract (mn a s.size).toNat (mn b s.size).toNat, Ev.bind h (Ev.all fun k => ?_), ?_⟩
      · simp only [impl_SpanOk_is, hp, if_true, Option.bind_some]
        rw [if_pos (by unfold mn; split <;> omega), if_pos (by unfold mn; split <;> split <;> omega), if_pos (by unfold mn; split <;> omega)]
      · rw [B_ext, tRead, if_pos ⟨ht, hp⟩]
        have hz : (s.size : Int) = ((B s).length : Int) := by rw [B_size]
        rw [hz]
        unfold mn
        split <;> split
        · rw [List.take_of_length_le (by omega), List.drop_of_length_le (by omega), List.drop_of_length_le (by rw [List.length_take]; omega)]
        · rw [List.drop_of_length_le (by rw [List.length_take]; omega), List.drop_of_length_le (by rw [List.length_take]; omega)]
        · rw [List.take_of_length_le (by omega), List.take_of_length_le (by omega)]
        · rfl

/-! A file made longer. -/
def padL (L : List UInt8) (n : Nat) : List UInt8 := L ++ List.replicate (n - L.length) 46
theorem padL_length (L : List UInt8) (n : Nat) : (padL L n).length = max L.length n := by simp [padL]; omega
theorem padL_short (L : List UInt8) (n : Nat) (h : n ≤ L.length) : padL L n = L := by simp [padL, Nat.sub_eq_zero_of_le h]
theorem l2Long_l : ∀ (d : Nat) (s : ByteArray) (n : Int), n.toNat - (B s).length = d → s.size < 4611686018427387904 → n < 4611686018427387904 → Ev (fun k => spec_l2Long.l0 k s n) (mkB (padL (B s) n.toNat)) := by
  intro d
  induction d with
  | zero =>
    intro s n hd hs hn
    refine Ev.end_ (fun k => ?_)
    simp only [spec_l2Long.l0]
    rw [if_neg (by rw [B_size]; omega), padL_short _ _ (by omega), mkB_B]
  | succ d ih =>
    intro s n hd hs hn
    have hb : B (s ++ (⟨#[46]⟩ : ByteArray)) = B s ++ [46] := by rw [B_app]; rfl
    have hz : (B s).length = s.size := (B_size s).symm
    have h := ih (s ++ (⟨#[46]⟩ : ByteArray)) n (by rw [hb]; simp; omega) (by rw [B_size, hb]; simp; omega) hn
    have e : padL (B (s ++ (⟨#[46]⟩ : ByteArray))) n.toNat = padL (B s) n.toNat := by
      rw [hb]
      unfold padL
      rw [List.append_assoc, List.length_append]
      congr 1
      rw [show n.toNat - (B s).length = (n.toNat - ((B s).length + [46].length)) + 1 by simp; omega, List.replicate_succ]
      rfl
    rw [e] at h
    refine Ev.cut h (fun k => ?_)
    simp only [spec_l2Long.l0]
    rw [if_pos (by rw [B_size]; omega), if_pos (by omega)]
theorem l2Long_is (s : ByteArray) (n : Int) (hs : s.size < 4611686018427387904) (hn : n < 4611686018427387904) : Ev (fun k => spec_l2Long.f k s n) (mkB (padL (B s) n.toNat)) := l2Long_l _ s n rfl hs hn

/-! The reader of draws. -/
def RB (b : List Int) : Prop := b.length ≤ 2000 ∧ ∀ x ∈ b, 0 ≤ x ∧ x ≤ 255
theorem rd_byte {b : List Int} (hb : RB b) (i : Int) : 0 ≤ rd b i ∧ rd b i ≤ 255 := by
  unfold rd
  rw [List.getD_eq_getElem?_getD]
  cases e : b[i.toNat]? with
  | none => simp
  | some x => exact hb.2 x (List.mem_of_getElem? e)
theorem open_is (l : List Int) (hw : ∀ x ∈ l, (Lit.int .u8 x).wf = true) : ∃ b, spec_l10Open.f l = some (b, 0) ∧ RB b := by
  have h : ∀ x ∈ l, 0 ≤ x ∧ x ≤ 255 := fun x hx => bounds_u8 (hw x hx)
  unfold spec_l10Open.f
  by_cases hl : (l.length : Int) > 2000
  · rw [if_pos hl, if_pos (by omega)]
    exact ⟨_, rfl, by rw [List.length_take]; omega, fun x hx => h x (List.mem_of_mem_take hx)⟩
  · rw [if_neg hl]
    exact ⟨_, rfl, by omega, h⟩
theorem xor_nonneg (a b : Int) (ha0 : 0 ≤ a) (ha : a < 1152921504606846976) (hb0 : 0 ≤ b) (hb : b < 1152921504606846976) : 0 ≤ Go.bits .xor .i64 a b := by
  obtain ⟨m, rfl⟩ := Int.eq_ofNat_of_zero_le ha0
  obtain ⟨n, rfl⟩ := Int.eq_ofNat_of_zero_le hb0
  have hm : m < 2 ^ 60 := by omega
  have hn : n < 2 ^ 60 := by omega
  have hx : m ^^^ n < 2 ^ 60 := Nat.xor_lt_two_pow hm hn
  have hm' : m % 2 ^ IntKind.i64.bits = m := Nat.mod_eq_of_lt (show m < 2 ^ 64 by omega)
  have hn' : n % 2 ^ IntKind.i64.bits = n := Nat.mod_eq_of_lt (show n < 2 ^ 64 by omega)
  have e : Go.bits .xor .i64 (m : Int) (n : Int) = IntKind.i64.wrap ((m ^^^ n : Nat) : Int) := by
    simp only [bits, BitVec.ofInt_natCast, BitVec.toNat_xor, BitVec.toNat_ofNat, hm', hn']
  rw [e, IntKind.wrap_i64]
  omega
theorem pick_is {b : List Int} (hb : RB b) (p n : Int) (h0 : 0 ≤ p) (h1 : p ≤ 1099511627776) (hn1 : 1 ≤ n) : ∃ v, Ev (fun k => spec_l10Rd_pick.f k b p n) (v, p + 1) ∧ 0 ≤ v ∧ v < n := by
  have e1 : wrap64 (p + 1) = p + 1 := wid (by omega) (by omega)
  have e2 : wrap64 (p + 1 - 1) = p := by rw [show p + 1 - 1 = p by omega]; exact wid (by omega) (by omega)
  have hl := hb.1
  by_cases hz : (b.length : Int) = 0
  · refine ⟨0, Ev.end_ (fun k => ?_), by omega, by omega⟩
    unfold spec_l10Rd_pick.f
    rw [if_neg (by omega), e1]
    simp only [spec_l10Rd_pick.j0]
    rw [if_pos (by simpa using hz)]
  · by_cases hlt : p < (b.length : Int)
    · have hr := rd_byte hb p
      refine ⟨Int.tmod (rd b p) n, Ev.end_ (fun k => ?_), ?_, ?_⟩
      · unfold spec_l10Rd_pick.f
        rw [if_neg (by omega), e1]
        simp only [spec_l10Rd_pick.j0]
        rw [if_neg (by simpa using hz), e2, if_pos hlt, if_pos h0, if_neg (by omega), wid (by omega) (by omega)]
      · rw [Int.tmod_eq_emod_of_nonneg hr.1]; exact Int.emod_nonneg _ (by omega)
      · rw [Int.tmod_eq_emod_of_nonneg hr.1]; exact Int.emod_lt_of_pos _ (by omega)
    · have e3 : wrap64 (p * 7) = p * 7 := wid (by omega) (by omega)
      have e4 : wrap64 (p * 7 + 3) = p * 7 + 3 := wid (by omega) (by omega)
      have q0 : 0 ≤ p % (b.length : Int) := Int.emod_nonneg _ hz
      have q1 : p % (b.length : Int) < (b.length : Int) := Int.emod_lt_of_pos _ (by omega)
      have q2 : 0 ≤ (p * 7 + 3) % (b.length : Int) := Int.emod_nonneg _ hz
      have q3 : (p * 7 + 3) % (b.length : Int) < (b.length : Int) := Int.emod_lt_of_pos _ (by omega)
      have q4 : 0 ≤ p / (b.length : Int) := Int.ediv_nonneg h0 (by omega)
      have q5 : p / (b.length : Int) ≤ p := Int.ediv_le_self _ h0
      have r1 := rd_byte hb (p % (b.length : Int))
      have r2 := rd_byte hb ((p * 7 + 3) % (b.length : Int))
      obtain ⟨X, hX⟩ : ∃ X, X = rd b (p % (b.length : Int)) * 131 + rd b ((p * 7 + 3) % (b.length : Int)) * 1117 + p * 29 + p / (b.length : Int) * 53 := ⟨_, rfl⟩
      have x0 : 0 ≤ X := by omega
      have x1 : X < 1152921504606846976 := by omega
      have y := xor_nonneg X (X / 64) x0 x1 (by omega) (by omega)
      refine ⟨Int.tmod (Go.bits .xor .i64 X (X / 64)) n, Ev.end_ (fun k => ?_), ?_, ?_⟩
      · unfold spec_l10Rd_pick.f
        rw [if_neg (by omega), e1]
        simp only [spec_l10Rd_pick.j0]
        rw [if_neg (by simpa using hz), e2, if_neg hlt, if_neg hz, Int.tmod_eq_emod_of_nonneg h0, if_pos q0, if_pos q1, e3, e4, Int.tmod_eq_emod_of_nonneg (show 0 ≤ p * 7 + 3 by omega), if_pos q2, if_pos q3, if_neg (by omega), Int.tdiv_eq_ediv_of_nonneg h0,
          wid (x := rd b (p % (b.length : Int))) (by omega) (by omega), wid (x := rd b ((p * 7 + 3) % (b.length : Int))) (by omega) (by omega), wid (x := rd b (p % (b.length : Int)) * 131) (by omega) (by omega), wid (x := rd b ((p * 7 + 3) % (b.length : Int)) * 1117) (by omega) (by omega),
          wid (x := rd b (p % (b.length : Int)) * 131 + rd b ((p * 7 + 3) % (b.length : Int)) * 1117) (by omega) (by omega), wid (x := p * 29) (by omega) (by omega), wid (x := rd b (p % (b.length : Int)) * 131 + rd b ((p * 7 + 3) % (b.length : Int)) * 1117 + p * 29) (by omega) (by omega),
          wid (x := p / (b.length : Int)) (by omega) (by omega), wid (x := p / (b.length : Int) * 53) (by omega) (by omega), ← hX, wid (x := X) (by omega) (by omega), Int.tdiv_eq_ediv_of_nonneg x0, wid (x := X / 64) (by omega) (by omega)]
      · rw [Int.tmod_eq_emod_of_nonneg y]; exact Int.emod_nonneg _ (by omega)
      · rw [Int.tmod_eq_emod_of_nonneg y]; exact Int.emod_lt_of_pos _ (by omega)

/-! One of a list of numbers. -/
theorem rd_mem (l : List Int) (i : Int) (h0 : 0 ≤ i) (h1 : i < (l.length : Int)) : rd l i ∈ l := by
  unfold rd
  rw [List.getD_eq_getElem?_getD, List.getElem?_eq_getElem (by omega)]
  exact List.getElem_mem _
theorem num_is {b : List Int} (hb : RB b) (p : Int) (l : List Int) (h0 : 0 ≤ p) (h1 : p ≤ 1099511627776) (hn1 : 1 ≤ (l.length : Int)) : ∃ v, Ev (fun k => spec_l10Rd_num.f k b p l) (v, p + 1) ∧ v ∈ l := by
  obtain ⟨i, hi, i0, i1⟩ := pick_is hb p (l.length : Int) h0 h1 hn1
  refine ⟨rd l i, Ev.bind hi (Ev.all fun k => ?_), rd_mem l i i0 i1⟩
  rw [if_pos i0, if_pos i1]

theorem rdOf_mem (l : List ByteArray) (i : Int) (h0 : 0 ≤ i) (h1 : i < (l.length : Int)) : rdOf ByteArray.empty l i ∈ l := by
  unfold rdOf
  rw [List.getD_eq_getElem?_getD, List.getElem?_eq_getElem (by omega)]
  exact List.getElem_mem _

/-! One of a list of strings. -/
theorem of_is {b : List Int} (hb : RB b) (p : Int) (l : List ByteArray) (h0 : 0 ≤ p) (h1 : p ≤ 1099511627776) (hn1 : 1 ≤ (l.length : Int)) : ∃ v, Ev (fun k => spec_l10Rd_of.f k b p l) (v, p + 1) ∧ v ∈ l := by
  obtain ⟨i, hi, i0, i1⟩ := pick_is hb p (l.length : Int) h0 h1 hn1
  refine ⟨rdOf ByteArray.empty l i, Ev.bind hi (Ev.all fun k => ?_), rdOf_mem l i i0 i1⟩
  rw [if_pos i0, if_pos i1]

/-! A range, drawn. -/
theorem l1Span_is {b : List Int} (hb : RB b) (p : Int) (h0 : 0 ≤ p) (h1 : p ≤ 1000000000000) : ∃ x y, Ev (fun k => spec_l1Span.f k b p) (x, y, p + 1 + 1) ∧ 0 ≤ x ∧ x < y ∧ y ≤ 48 := by
  obtain ⟨x, hx, x0, x1⟩ := pick_is hb p 47 h0 (by omega) (by omega)
  obtain ⟨v, hv, vm⟩ := num_is hb (p + 1) [0, 1, 3, 5, 9, 20, 47] (by omega) (by omega) (by simp)
  have hv2 : 0 ≤ v ∧ v ≤ 47 := by simp at vm; omega
  refine ⟨x, mn 48 (x + 1 + v), Ev.bind hx (Ev.bind hv (Ev.all fun k => ?_)), x0, ?_, ?_⟩
  · rw [wid (x := x + 1) (by omega) (by omega), wid (x := x + 1 + v) (by omega) (by omega), l1Min_is]
    rfl
  · unfold mn; split <;> omega
  · unfold mn; split <;> omega
theorem l1Some_is {b : List Int} (hb : RB b) (p : Int) (h0 : 0 ≤ p) (h1 : p ≤ 1000000000000) : ∃ x y, Ev (fun k => spec_l1Some.f k b p) (x, y, p + 1 + 1 + 1) := by
  obtain ⟨x, y, hx, _⟩ := l1Span_is hb p h0 h1
  obtain ⟨v, hv, v0, v1⟩ := pick_is hb (p + 1 + 1) 48 (by omega) (by omega) (by omega)
  by_cases c0 : v = 0
  · exact ⟨_, _, Ev.bind hx (Ev.bind hv (Ev.all fun k => by rw [if_pos c0]))⟩
  by_cases c1 : v = 1
  · exact ⟨_, _, Ev.bind hx (Ev.bind hv (Ev.all fun k => by rw [if_neg c0, if_pos c1]))⟩
  by_cases c2 : v = 2
  · exact ⟨_, _, Ev.bind hx (Ev.bind hv (Ev.all fun k => by rw [if_neg c0, if_neg c1, if_pos c2]))⟩
  by_cases c3 : v = 3
  · exact ⟨_, _, Ev.bind hx (Ev.bind hv (Ev.all fun k => by rw [if_neg c0, if_neg c1, if_neg c2, if_pos c3]))⟩
  · exact ⟨_, _, Ev.bind hx (Ev.bind hv (Ev.all fun k => by rw [if_neg c0, if_neg c1, if_neg c2, if_neg c3]))⟩

/-! A file, drawn. -/
theorem l2Text_l {b : List Int} (hb : RB b) : ∀ (n : Nat) (s : ByteArray) (p : Int), n ≤ 1000 → s.size + n ≤ 1000 → 0 ≤ p → p + n ≤ 1000000000000 → ∃ t, Ev (fun k => spec_l2Text.l0 k s (n : Int) b p) (t, p + n) ∧ t.size = s.size + n := by
  intro n
  induction n with
  | zero =>
    intro s p hn hs h0 h1
    refine ⟨s, Ev.end_ (fun k => ?_), by omega⟩
    simp only [spec_l2Text.l0]
    rw [if_neg (by omega)]
    simp
  | succ n ih =>
    intro s p hn hs h0 h1
    obtain ⟨v, hv, vm⟩ := of_is hb p [(⟨#[97]⟩ : ByteArray), (⟨#[98]⟩ : ByteArray), (⟨#[99]⟩ : ByteArray), (⟨#[55]⟩ : ByteArray), (⟨#[46]⟩ : ByteArray), (⟨#[122]⟩ : ByteArray)] h0 (by omega) (by simp)
    have hv1 : v.size = 1 := by
      simp only [List.mem_cons, List.not_mem_nil, or_false] at vm
      rcases vm with rfl | rfl | rfl | rfl | rfl | rfl <;> rfl
    have hz : (s ++ v).size = s.size + 1 := by rw [B_size, B_app, List.length_append, ← B_size, ← B_size, hv1]
    obtain ⟨t, ht, tz⟩ := ih (s ++ v) (p + 1) (by omega) (by omega) (by omega) (by omega)
    refine ⟨t, ?_, by omega⟩
    rw [show p + ((n + 1 : Nat) : Int) = p + 1 + (n : Int) by omega]
    refine Ev.cut (f := fun k => (spec_l10Rd_of.f k b p [(⟨#[97]⟩ : ByteArray), (⟨#[98]⟩ : ByteArray), (⟨#[99]⟩ : ByteArray), (⟨#[55]⟩ : ByteArray), (⟨#[46]⟩ : ByteArray), (⟨#[122]⟩ : ByteArray)]).bind fun r => if s.size + r.1.size ≤ 9223372036854775807 then spec_l2Text.l0 k (s ++ r.1) (wrap64 (((n + 1 : Nat) : Int) - 1)) b r.2 else none) (Ev.bind hv ?_) (fun k => ?_)
    · simp only [if_pos (show s.size + v.size ≤ 9223372036854775807 by omega)]
      rw [show wrap64 (((n + 1 : Nat) : Int) - 1) = (n : Int) by rw [wid (by omega) (by omega)]; omega]
      exact ht
    · simp only [spec_l2Text.l0]
      rw [if_pos (by omega)]
theorem l2Text_is {b : List Int} (hb : RB b) (p m : Int) (h0 : 0 ≤ p) (h1 : p ≤ 100000000000) (m0 : 0 ≤ m) (m1 : m ≤ 100) : ∃ t q, Ev (fun k => spec_l2Text.f k b p m) (t, q) ∧ t.size ≤ 100 ∧ p ≤ q ∧ q ≤ p + 102 := by
  obtain ⟨i, hi, i0, i1⟩ := pick_is hb p (m + 1) h0 (by omega) (by omega)
  obtain ⟨t, ht, tz⟩ := l2Text_l hb i.toNat (⟨#[]⟩ : ByteArray) (p + 1) (by omega) (by show 0 + _ ≤ _; omega) (by omega) (by omega)
  rw [Int.toNat_of_nonneg i0] at ht
  refine ⟨t, p + 1 + i, ?_, by rw [tz]; show 0 + _ ≤ _; omega, by omega, by omega⟩
  unfold spec_l2Text.f
  rw [wid (x := m + 1) (by omega) (by omega)]
  exact Ev.bind hi ht
theorem l2Some_is {b : List Int} (hb : RB b) (p : Int) (h0 : 0 ≤ p) (h1 : p ≤ 10000000000) : ∃ s q, Ev (fun k => spec_l2Some.f k b p) (s, q) ∧ s.size ≤ 200 ∧ p ≤ q ∧ q ≤ p + 110 := by
  obtain ⟨v, hv, vm⟩ := num_is hb p [6, 12, 20, 30, 48] h0 (by omega) (by simp)
  have hv2 : 0 ≤ v ∧ v ≤ 48 := by simp at vm; omega
  obtain ⟨t, q, ht, tz, q0, q1⟩ := l2Text_is hb (p + 1) v (by omega) (by omega) hv2.1 (by omega)
  obtain ⟨u, hu, u0, u1⟩ := pick_is hb q 60 (by omega) (by omega) (by omega)
  by_cases c0 : u = 0
  · exact ⟨t ++ (⟨#[65]⟩ : ByteArray), q + 1, Ev.bind hv (Ev.bind ht (Ev.bind hu (Ev.all fun k => by rw [if_pos c0, if_pos (show t.size + 1 ≤ 9223372036854775807 by omega)]))), by rw [B_size, B_app, List.length_append, ← B_size, ← B_size]; show t.size + 1 ≤ _; omega, by omega, by omega⟩
  by_cases c1 : u = 1
  · exact ⟨t ++ (⟨#[32]⟩ : ByteArray), q + 1, Ev.bind hv (Ev.bind ht (Ev.bind hu (Ev.all fun k => by rw [if_neg c0, if_pos c1, if_pos (show t.size + 1 ≤ 9223372036854775807 by omega)]))), by rw [B_size, B_app, List.length_append, ← B_size, ← B_size]; show t.size + 1 ≤ _; omega, by omega, by omega⟩
  by_cases c2 : u = 2
  · refine ⟨mkB (padL (B t) 49), q + 1, Ev.bind hv (Ev.bind ht (Ev.bind hu ?_)), by rw [mkB_size, padL_length, ← B_size]; omega, by omega, by omega⟩
    simp only [if_neg c0, if_neg c1, if_pos c2]
    exact Ev.bind (l2Long_is t 49 (by omega) (by omega)) (Ev.now _)
  · exact ⟨t, q + 1, Ev.bind hv (Ev.bind ht (Ev.bind hu (Ev.all fun k => by rw [if_neg c0, if_neg c1, if_neg c2]))), by omega, by omega, by omega⟩

theorem DrawTextRead_is (l : List Int) (hw : ∀ x ∈ l, (Lit.int .u8 x).wf = true) : ∃ s a b, Ev (fun k => spec_DrawTextRead.f k l) (s, a, b) ∧ s.size ≤ 200 := by
  obtain ⟨r, hr, hb⟩ := open_is l hw
  obtain ⟨s, q, h1, hs, q0, q1⟩ := l2Some_is hb 0 (by omega) (by omega)
  obtain ⟨x, y, h2⟩ := l1Some_is hb q (by omega) (by omega)
  obtain ⟨v, h3, v0, v1⟩ := pick_is hb (q + 1 + 1 + 1) 2 (by omega) (by omega) (by omega)
  unfold spec_DrawTextRead.f
  simp only [hr, Option.bind_some]
  by_cases c0 : v = 0
  · obtain ⟨u, h4, u0, u1⟩ := pick_is hb (q + 1 + 1 + 1 + 1) 8 (by omega) (by omega) (by omega)
    obtain ⟨w, h5, w0, w1⟩ := pick_is hb (q + 1 + 1 + 1 + 1 + 1) 8 (by omega) (by omega) (by omega)
    exact ⟨s, u, wrap64 (9 + w), Ev.bind h1 (Ev.bind h2 (Ev.bind h3 (by simp only [if_pos c0]; exact Ev.bind h4 (Ev.bind h5 (Ev.now _))))), hs⟩
  · exact ⟨s, x, y, Ev.bind h1 (Ev.bind h2 (Ev.bind h3 (by simp only [if_neg c0]; exact Ev.now _))), hs⟩
theorem read_split (L : List UInt8) {a k b : Nat} (h1 : a ≤ k) (h2 : k ≤ b) : (L.take k).drop a ++ (L.take b).drop k = (L.take b).drop a := by
  have e1 : L.take k = (L.take b).take k := by rw [List.take_take, Nat.min_eq_left h2]
  rw [e1]
  generalize L.take b = X
  have h : X.drop a = (X.drop a).take (k - a) ++ (X.drop a).drop (k - a) := (List.take_append_drop _ _).symm
  rw [h, List.drop_drop, show a + (k - a) = k by omega, List.drop_take]

theorem FnTextRead (l0 : List Int) (l1 : List Int) (hm0 : l0.length ≤ maxLen) (hw0 : ∀ x ∈ l0, (Lit.int .u8 x).wf = true) (hm1 : l1.length ≤ maxLen) (hw1 : ∀ x ∈ l1, (Lit.int .u8 x).wf = true) : ∃ k, laws_FnTextRead.f k l0 l1 = some true := by
  have hm := hm0
  have hw := hw0
  have hx : ∀ k, laws_FnTextRead.j0 (k + 1) l0 l1 true = some true := fun k => by simp [laws_FnTextRead.j0]
  by_cases h : (l0.length : Int) > 1048576
  · exact ⟨1, by unfold laws_FnTextRead.f; rw [if_pos h]; exact hx 0⟩
  by_cases h2 : (l1.length : Int) > 1048576
  · exact ⟨1, by unfold laws_FnTextRead.f; rw [if_neg h, decide_eq_true h2]; exact hx 0⟩
  refine Ev.rounds (r := true) (g := fun k => laws_FnTextRead.f k l0 l1) ?_
  unfold laws_FnTextRead.f
  simp only [if_neg h, decide_eq_false h2]
  obtain ⟨s, a, b, hd, hs⟩ := DrawTextRead_is l0 hw
  have hs' : s.size < 4611686018427387904 := by omega
  obtain ⟨r1, hr1, er1⟩ := impl_TextRead_is s hs' a b
  obtain ⟨r2, hr2, er2⟩ := spec_TextRead_is s hs' a b
  obtain rfl : r2 = r1 := B_inj (er2.trans er1.symm)
  have hbad : Ev (fun k => laws_FnTextRead.j1 k l1 s r2 true a b) true := by
    refine Ev.cut (f := fun k => (spec_TextRead.f k s a b).bind fun t => some (r2.toList == t.toList)) (Ev.bind hr2 (Ev.all fun k => by simp)) (fun k => ?_)
    simp only [laws_FnTextRead.j1, if_true]
  refine Ev.cut (f := fun k => (spec_DrawTextRead.f k l0).bind fun r => (impl_TextRead.f k r.1 r.2.1 r.2.2).bind fun t => (spec_TextRead.f k r.1 r.2.1 r.2.2).bind fun u => if t.toList = u.toList then ((spec_TextOk.f k r.1).bind fun v => if v = true then ((spec_SpanOk.f r.2.1 r.2.2).bind fun w => if w = true then laws_FnTextRead.j1 k l1 r.1 t (decide ((wrap64 (r.2.2 - r.2.1)) < 2)) r.2.1 r.2.2 else laws_FnTextRead.j1 k l1 r.1 t true r.2.1 r.2.2) else laws_FnTextRead.j1 k l1 r.1 t true r.2.1 r.2.2) else laws_FnTextRead.j1 k l1 r.1 t true r.2.1 r.2.2) ?_ (fun k => by simp [laws_FnTextRead.j0])
  refine Ev.bind hd (Ev.bind hr1 (Ev.bind hr2 ?_))
  simp only [if_true]
  refine Ev.bind (spec_TextOk_is s hs') ?_
  cases ht : tOk (B s) with
  | false =>
    simp only [Bool.false_eq_true, if_false]
    exact hbad
  | true =>
    simp only [if_true, spec_SpanOk_is, Option.bind_some]
    cases hp : spOk a b with
    | false =>
      simp only [Bool.false_eq_true, if_false]
      exact hbad
    | true =>
      have hp' := of_decide_eq_true hp
      simp only [if_true]
      rw [wid (x := b - a) (by omega) (by omega)]
      by_cases h3 : b - a < 2
      · rw [decide_eq_true h3]
        exact hbad
      · rw [decide_eq_false h3]
        have m0 : 0 ≤ (l1.length : Int) % (b - a - 1) := Int.emod_nonneg _ (by omega)
        have m1 : (l1.length : Int) % (b - a - 1) < b - a - 1 := Int.emod_lt_of_pos _ (by omega)
        obtain ⟨x, hx1, ex⟩ := impl_TextRead_is s hs' a (a + 1 + (l1.length : Int) % (b - a - 1))
        obtain ⟨y, hy1, ey⟩ := impl_TextRead_is s hs' (a + 1 + (l1.length : Int) % (b - a - 1)) b
        have hc : B (x ++ y) = B r2 := by
          rw [B_app, ex, ey, er2]
          unfold tRead
          rw [if_pos ⟨ht, decide_eq_true (by omega)⟩, if_pos ⟨ht, decide_eq_true (by omega)⟩, if_pos ⟨ht, hp⟩]
          exact read_split _ (by omega) (by omega)
        have hlen : (B r2).length ≤ b.toNat - a.toNat := by
          rw [er2]
          unfold tRead
          rw [if_pos ⟨ht, hp⟩, List.length_drop, List.length_take]
          omega
        have hxy : x.size + y.size = (B r2).length := by rw [← hc, B_app, List.length_append, ← B_size, ← B_size]
        refine Ev.cut (f := fun k => (impl_TextRead.f k s a (a + 1 + (l1.length : Int) % (b - a - 1))).bind fun t => (impl_TextRead.f k s (a + 1 + (l1.length : Int) % (b - a - 1)) b).bind fun u => if t.size + u.size ≤ 9223372036854775807 then (if (t ++ u).toList = r2.toList then (if (r2.size : Int) ≤ (b - a) then (if (s.size : Int) > 0 then some true else some (r2.toList == ([] : List UInt8))) else some false) else some false) else none) (Ev.bind hx1 (Ev.bind hy1 (Ev.all fun k => ?_))) (fun k => ?_)
        · rw [if_pos (by omega), if_pos (by rw [B_toList, B_toList, hc]), if_pos (by rw [B_size]; omega)]
          by_cases h4 : (s.size : Int) > 0
          · rw [if_pos h4]
          · rw [if_neg h4]
            have hsn : B s = [] := List.eq_nil_of_length_eq_zero (by rw [← B_size]; omega)
            have : B r2 = [] := by rw [er2]; unfold tRead; rw [hsn]; simp
            rw [B_toList, this]
            rfl
        · simp only [laws_FnTextRead.j1, Bool.false_eq_true, if_false]
          rw [wid (x := b - a) (by omega) (by omega), wid (x := b - a - 1) (by omega) (by omega), if_neg (by omega), wid (x := a + 1) (by omega) (by omega), wid (x := a + 1 + (l1.length : Int) % (b - a - 1)) (by omega) (by omega)]

end Go.Proofs.Ytmiknhlogpoikaa.Pure
