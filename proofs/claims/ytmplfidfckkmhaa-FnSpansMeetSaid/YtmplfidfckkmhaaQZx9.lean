/- Functions of the program as functions over numbers and lists, each with the proof that the call comes to just its answer. Conditions: the function answers. Told by a program of this session that runs the kit's print with own parts. -/
import Derived.Test.YtmplfidfckkmhaaQZx0
namespace Go.Proofs.Ytmplfidfckkmhaa.QZ
open Go.RowKit Go.Proofs.YtmplfidfckkmhaaW.PrintWords Go.Proofs.YtmplfidfckkmhaaW.PrintLast Go.Proofs.YtmplfidfckkmhaaW.PrintMore Go.Proofs.Ytmplfidfckkmhaa.Arr
attribute [local go_sem] plw_guardT plw_eqlT max2_int min2_int max_two min_two max_three min_three max_four min_four   -- for this text's walks alone
set_option linter.unusedVariables false
set_option linter.unusedSimpArgs false

/-! ### impl_of: function 44 -/
def fillR : Nat → List Bool → Nat → List Bool
  | 0, z, _ => z
  | d + 1, z, i => fillR d (z.set i true) (i + 1)
def ofR : List S29 → List Bool → List Bool
  | [], z => z
  | s :: l, z => ofR l (fillR (s.f1 - s.f0).toNat z s.f0.toNat)
theorem fillR_len : ∀ (d : Nat) (z : List Bool) (i : Nat), (fillR d z i).length = z.length
  | 0, _, _ => rfl
  | d + 1, z, i => by rw [fillR, fillR_len d, List.length_set]
theorem ofR_drop {l : List S29} {i : Nat} (h : i < l.length) (z : List Bool) : ofR (l.drop i) z = ofR (l.drop (i + 1)) (fillR ((rd_T29 l (i : Int)).f1 - (rd_T29 l (i : Int)).f0).toNat z (rd_T29 l (i : Int)).f0.toNat) := by
  have e : rd_T29 l (i : Int) = l[i] := by unfold rd_T29; rw [Int.toNat_natCast, List.getD_eq_getElem?_getD, List.getElem?_eq_getElem h]; rfl
  rw [e, List.drop_eq_getElem_cons h, ofR]
set_option maxHeartbeats 8000000 in
set_option maxRecDepth 100000 in
theorem of_calls (A0 : Option Addr) (c0 : Nat) (l0 : List S29) (w : World) (hr0 : Kd.C k29 w A0 l0.length l0) (hc0 : l0.length ≤ c0) (hl : l0.length ≤ 4611686018427387904) (hok : ∀ s ∈ l0, 0 ≤ s.f0 ∧ s.f1 ≤ 48) :
    Calls Try.prog 44 #[.slice A0 l0.length c0] w fun e w' => e = .returned (plv (ofR l0 (List.replicate 48 false))) ∧ Below w.heap.size w w' := by
  have hu46 := Try.underlying46
  have hu29 := Try.underlying29
  have HR0 := Aside0.mk hr0
  have HC0 := Aside0.mk hc0
  clear hr0 hc0
  have HB := Aside0.mk (Below.refl w.heap.size w)
  go_enter Try.func44, Try.ntmps44
  go_wp2_with (first
    | ((with_reducible refine gate_dst (N := 2) rfl ?_); refine box_event ?hg (N := 2) ?hd (cs := bv (List.replicate 48 false)) (t := 46) ?hr ?_; (case hd => rfl); (case hg => rfl); (case hr => first | (go_simp; done) | (go_simp; rfl)); intro gb2 hg w2 hbox hb; have n0_ := Aside0.mk (below_step HB.out hb); have BK2 := Aside0.mk hbox; have GE2 := Aside0.mk (show w.heap.size ≤ gb2 by rw [hg]; exact below_size HB.out); clear HB; have HB := n0_; clear n0_ hb hbox hg)
    | ((with_reducible refine gate_dst (N := 3) rfl ?_); refine box_event ?hg (N := 3) ?hd (cs := bv (List.replicate 48 false)) (t := 46) ?hr ?_; (case hd => rfl); (case hg => rfl); (case hr => first | (go_simp; done) | (go_simp; rfl)); intro gb3 hg w3 hbox hb; have n0_ := Aside0.mk (below_step HB.out hb); have n1_ := Aside0.mk (blk_below BK2.out hb); have BK3 := Aside0.mk hbox; have GE3 := Aside0.mk (show w.heap.size ≤ gb3 by rw [hg]; exact below_size HB.out); have NB23 := Aside0.mk (show gb2 ≠ gb3 by rw [hg]; exact Nat.ne_of_lt (blk_lt BK2.out)); clear HB BK2; have HB := n0_; have BK2 := n1_; clear n0_ n1_ hb hbox hg))
  go_loopg [9] l0.length (fun kq v9 w' => ∃ (z : List Bool) (i : Nat), v9 = .int .i64 (i : Int) ∧ Aside0 (i + kq = l0.length) ∧ Aside0 (z.length = 48) ∧ Aside0 (ofR (l0.drop i) z = ofR l0 (List.replicate 48 false)) ∧ Aside0 (w'.heap[gb3]? = some (.cells (bv z) 46 (0, 0))) ∧ Aside0 (w'.heap[gb2]? = some (.cells (bv (List.replicate 48 false)) 46 (0, 0))) ∧ Aside0 (Below w.heap.size w w'))
  case atStart => exact ⟨List.replicate 48 false, 0, rfl, ⟨by omega⟩, ⟨by rw [List.length_replicate]⟩, ⟨rfl⟩, BK3, BK2, HB⟩
  case round =>
    obtain ⟨z, i, rfl, HI, HZ, HE, BK3, BK2, HB⟩ := hrel
    cases gk with
    | zero =>
      have hex : ((i : Int) < (l0.length : Int)) = False := eq_false (by have := HI.out; omega)
      go_wp2_with (first
        | ((with_reducible refine gate_dst (N := 24) rfl ?_); refine arr_load ?hg (N := 24) (p := 3) ?ho ?hd (x := z) ?hp BK3.out hu46 ?hi ?_; (case hg => rfl); (case ho => rfl); (case hd => rfl); (case hp => rfl); (case hi => rw [HZ.out]; kernel_rfl))
        | ((with_reducible refine gate_store (t := 46) (p := 2) rfl ?_); refine arr_store ?hg (p := 2) (q := 24) ?ho ?hd (y := z) ?hp ?hq BK2.out ?hxy ?hi ?_; (case hg => rfl); (case ho => rfl); (case hd => rfl); (case hp => rfl); (case hq => rfl); (case hxy => rw [HZ.out]; rfl); (case hi => rw [HZ.out]; kernel_rfl); intro w9 hblk hbel hoth; have n0_ := Aside0.mk (hbel _ _ HB.out GE2.out); clear HB BK2; have HB := n0_; have BK2 := Aside0.mk hblk; clear n0_ hblk hbel hoth))
      refine bodyPost_ret (results_cell_row rfl _ _ gb2 46 (bv z) (0, 0) _ rfl BK2.out hu46 rfl (by rw [bv_size, HZ.out]; kernel_rfl)) rfl ?_
      refine ⟨?_, HB.out⟩
      have h := HE.out
      rw [List.drop_eq_nil_of_le (by have := HI.out; omega)] at h
      rw [← h]
      rfl
    | succ k1 =>
      have hil : i < l0.length := by have := HI.out; omega
      have hil' : (i : Int) < (l0.length : Int) := by omega
      have hex : ((i : Int) < (l0.length : Int)) = True := eq_true hil'
      have hi0 : (0 ≤ (i : Int)) = True := eq_true (by omega)
      have hw1 : wrap64 ((i : Int) + 1) = ((i + 1 : Nat) : Int) := by have := HI.out; unfold wrap64; omega
      have hs := ofR_drop hil z
      have hso : 0 ≤ (rd_T29 l0 (i : Int)).f0 ∧ (rd_T29 l0 (i : Int)).f1 ≤ 48 := by
        have e : rd_T29 l0 (i : Int) = l0[i] := by unfold rd_T29; rw [Int.toNat_natCast, List.getD_eq_getElem?_getD, List.getElem?_eq_getElem hil]; rfl
        rw [e]
        exact hok _ (List.getElem_mem hil)
      obtain ⟨ad5, e5, hx5_0, hx5_1⟩ := at_T29 HR0.out (i : Int) (by omega) hil'
      cases e5
      replace hx5_0 := (HB.out.cell (World.block_lt_of_cell? w _ hx5_0)).trans hx5_0
      replace hx5_1 := (HB.out.cell (World.block_lt_of_cell? w _ hx5_1)).trans hx5_1
      simp only [Int.toNat_natCast] at hx5_0 hx5_1
      generalize (rd_T29 l0 (i : Int)).f0 = lo at *
      generalize (rd_T29 l0 (i : Int)).f1 = hi at *
      go_wp2_with (first
        | ((with_reducible refine gate_dst (N := 5) rfl ?_); refine box_event ?hg (N := 5) ?hd (cs := #[.int .i64 0, .int .i64 0]) (t := 29) ?hr ?_; (case hd => rfl); (case hg => rfl); (case hr => first | (go_simp; done) | (go_simp; rfl)); intro gb5 hg w5 hbox hb; have n0_ := Aside0.mk (below_step HB.out hb); have n1_ := Aside0.mk (blk_below BK3.out hb); have n2_ := Aside0.mk (blk_below BK2.out hb); have BK5 := Aside0.mk hbox; have GE5 := Aside0.mk (show w.heap.size ≤ gb5 by rw [hg]; exact below_size HB.out); have NB35 := Aside0.mk (show gb3 ≠ gb5 by rw [hg]; exact Nat.ne_of_lt (blk_lt BK3.out)); have NB25 := Aside0.mk (show gb2 ≠ gb5 by rw [hg]; exact Nat.ne_of_lt (blk_lt BK2.out)); clear HB BK2 BK3; have HB := n0_; have BK3 := n1_; have BK2 := n2_; clear n0_ n1_ n2_ hb hbox hg; have hcz0 : w5.cell? ⟨gb5, 0, none⟩ = some (.int .i64 0) := (blk_cell BK5.out 0).trans rfl; have hcz1 : w5.cell? ⟨gb5, 1, none⟩ = some (.int .i64 0) := (blk_cell BK5.out 1).trans rfl; have hfz0 := blk_frozen BK5.out 0; have hfz1 := blk_frozen BK5.out 1))
      have BK5b := Aside0.mk (blk_put (cs' := #[.int .i64 lo, .int .i64 hi]) (blk_put (cs' := #[.int .i64 lo, .int .i64 0]) BK5.out 0 (.int .i64 lo) rfl) 1 (.int .i64 hi) rfl)
      have BK3b := Aside0.mk (blk_far (p := ⟨gb5, 1, none⟩) (blk_far (p := ⟨gb5, 0, none⟩) BK3.out NB35.out (.int .i64 lo)) NB35.out (.int .i64 hi))
      have BK2b := Aside0.mk (blk_far (p := ⟨gb5, 1, none⟩) (blk_far (p := ⟨gb5, 0, none⟩) BK2.out NB25.out (.int .i64 lo)) NB25.out (.int .i64 hi))
      have HBb := Aside0.mk ((HB.out.setCell (p := ⟨gb5, 0, none⟩) GE5.out (.int .i64 lo)).setCell (p := ⟨gb5, 1, none⟩) GE5.out (.int .i64 hi))
      go_loopg [6] ((hi - lo).toNat) (fun kq v6 w' => ∃ (z1 : List Bool) (j : Int), v6 = .int .i64 j ∧ Aside0 ((hi - j).toNat = kq ∧ 0 ≤ j) ∧ Aside0 (z1.length = 48) ∧ Aside0 (fillR kq z1 j.toNat = fillR (hi - lo).toNat z lo.toNat) ∧ Aside0 (w'.heap[gb3]? = some (.cells (bv z1) 46 (0, 0))) ∧ Aside0 (w'.heap[gb2]? = some (.cells (bv (List.replicate 48 false)) 46 (0, 0))) ∧ Aside0 (w'.heap[gb5]? = some (.cells #[.int .i64 lo, .int .i64 hi] 29 (0, 0))) ∧ Aside0 (Below w.heap.size w w'))
      case atStart => exact ⟨z, lo, rfl, ⟨rfl, hso.1⟩, HZ, ⟨rfl⟩, BK3b, BK2b, BK5b, HBb⟩
      case round =>
        clear BK3b BK2b BK5b HBb
        obtain ⟨z1, j, rfl, HJ, HZ1, HE1, BK3, BK2, BK5, HB⟩ := hrel
        have hc5 : wr.cell? ⟨gb5, 1, none⟩ = some (.int .i64 hi) := (blk_cell BK5.out 1).trans rfl
        cases gk with
        | zero =>
          have hjx : (j < hi) = False := eq_false (by have := HJ.out.1; omega)
          go_wp2
          go_roundg k1
          case measure => have := HI.out; omega
          case rel =>
            refine ⟨z1, i + 1, by first | rw [hw1] | rfl | (simp; done), ⟨by have := HI.out; omega⟩, HZ1, ⟨?_⟩, BK3, BK2, HB⟩
            rw [← HE.out, hs, ← HE1.out]
            rfl
        | succ k2 =>
          have hjx : (j < hi) = True := eq_true (by have := HJ.out.1; omega)
          have hj0 : (0 ≤ j) = True := eq_true HJ.out.2
          have hj1 : (j < 48) = True := eq_true (by have := HJ.out.1; omega)
          have hwj : wrap64 (j + 1) = j + 1 := by have := HJ.out; unfold wrap64; omega
          go_wp2_with (first
            | ((with_reducible refine gate_store (t := 4) (p := 22) rfl ?_); refine arr_put ?hg (p := 22) (q := .const (.bool true)) (tv := 4) ?ho ?hd (g := gb3) (i := j.toNat) (b := true) ?hp ?hq BK3.out ?hix ?hi ?_; (case hg => rfl); (case ho => rfl); (case hd => rfl); (case hp => rfl); (case hq => rfl); (case hix => rw [HZ1.out]; have := HJ.out; omega); (case hi => kernel_rfl); intro w9 hblk hbel hoth; have n0_ := Aside0.mk (hbel _ _ HB.out GE3.out); have n1_ := Aside0.mk ((hoth _ NB23.out).trans BK2.out); have n2_ := Aside0.mk ((hoth _ (Ne.symm NB35.out)).trans BK5.out); clear HB BK3 BK2 BK5; have HB := n0_; have BK3 := Aside0.mk hblk; have BK2 := n1_; have BK5 := n2_; clear n0_ n1_ n2_ hblk hbel hoth))
          go_roundg k2
          case measure => have := HJ.out; omega
          case rel =>
            refine ⟨z1.set j.toNat true, j + 1, by first | rw [hwj] | rfl | (simp; done), ⟨by have := HJ.out; omega, by have := HJ.out; omega⟩, ⟨by rw [List.length_set]; exact HZ1.out⟩, ⟨?_⟩, BK3, BK2, BK5, HB⟩
            rw [← HE1.out, show (j + 1).toNat = j.toNat + 1 by have := HJ.out; omega]
            rfl
theorem ofR_len : ∀ (l : List S29) (z : List Bool), (ofR l z).length = z.length
  | [], _ => rfl
  | s :: l, z => by rw [ofR, ofR_len l, fillR_len]
def impl_of.f (l0 : List (S29)) : Option (Pl) := if l0.length ≤ 4611686018427387904 then (if ∀ s ∈ l0, 0 ≤ s.f0 ∧ s.f1 ≤ 48 then some ⟨ofR l0 (List.replicate 48 false), (ofR_len _ _).trans (by rw [List.length_replicate])⟩ else none) else none
theorem impl_of.calls (A0 : Option Addr) (c0 : Nat) (l0 : List (S29)) (r : Pl) (w : World) (hr0 : Kd.C k29 w A0 l0.length l0) (hc0 : l0.length ≤ c0) (h : impl_of.f l0 = some r) :
    Calls Try.prog 44 #[.slice A0 l0.length c0] w fun e w' => e = .returned (plw r) ∧ Below w.heap.size w w' := by
  unfold impl_of.f at h
  split at h
  · rename_i hl
    split at h
    · rename_i hok
      obtain rfl := Option.some.inj h
      simpa only [plw] using of_calls A0 c0 l0 w hr0 hc0 hl hok
    · cases h
  · cases h

/-! ### impl_places_meet: function 45 -/
def meetR (y : List Bool) : Nat → List Bool → Nat → List Bool
  | 0, z, _ => z
  | d + 1, z, i => meetR y d (z.set i (z.getD i false && y.getD i false)) (i + 1)
set_option maxHeartbeats 8000000 in
set_option maxRecDepth 100000 in
theorem meet_calls (x y : List Bool) (w : World) (hx : x.length = 48) (hy : y.length = 48) :
    Calls Try.prog 45 #[plv x, plv y] w fun e w' => e = .returned (plv (meetR y 48 x 0)) ∧ Below w.heap.size w w' := by
  have hu46 := Try.underlying46
  have HB := Aside0.mk (Below.refl w.heap.size w)
  go_enter Try.func45, Try.ntmps45
  go_wp2_with (first
    | ((with_reducible refine gate_dst (N := 2) rfl ?_); refine box_event ?hg (N := 2) ?hd (cs := bv x) (t := 46) ?hr ?_; (case hd => rfl); (case hg => rfl); (case hr => first | (go_simp; done) | (go_simp; rfl)); intro gb3 hg w3 hbox hb; have n0_ := Aside0.mk (below_step HB.out hb); have BK3 := Aside0.mk hbox; have GE3 := Aside0.mk (show w.heap.size ≤ gb3 by rw [hg]; exact below_size HB.out); clear HB; have HB := n0_; clear n0_ hb hbox hg)
    | ((with_reducible refine gate_dst (N := 3) rfl ?_); refine box_event ?hg (N := 3) ?hd (cs := bv y) (t := 46) ?hr ?_; (case hd => rfl); (case hg => rfl); (case hr => first | (go_simp; done) | (go_simp; rfl)); intro gb4 hg w4 hbox hb; have n0_ := Aside0.mk (below_step HB.out hb); have n1_ := Aside0.mk (blk_below BK3.out hb); have BK4 := Aside0.mk hbox; have GE4 := Aside0.mk (show w.heap.size ≤ gb4 by rw [hg]; exact below_size HB.out); have NB34 := Aside0.mk (show gb3 ≠ gb4 by rw [hg]; exact Nat.ne_of_lt (blk_lt BK3.out)); clear HB BK3; have HB := n0_; have BK3 := n1_; clear n0_ n1_ hb hbox hg)
    | ((with_reducible refine gate_dst (N := 4) rfl ?_); refine box_event ?hg (N := 4) ?hd (cs := bv (List.replicate 48 false)) (t := 46) ?hr ?_; (case hd => rfl); (case hg => rfl); (case hr => first | (go_simp; done) | (go_simp; rfl)); intro gb6 hg w6 hbox hb; have n0_ := Aside0.mk (below_step HB.out hb); have n1_ := Aside0.mk (blk_below BK3.out hb); have n2_ := Aside0.mk (blk_below BK4.out hb); have BK6 := Aside0.mk hbox; have GE6 := Aside0.mk (show w.heap.size ≤ gb6 by rw [hg]; exact below_size HB.out); have NB36 := Aside0.mk (show gb3 ≠ gb6 by rw [hg]; exact Nat.ne_of_lt (blk_lt BK3.out)); have NBq6 := Aside0.mk (show gb4 ≠ gb6 by rw [hg]; exact Nat.ne_of_lt (blk_lt BK4.out)); clear HB BK3 BK4; have HB := n0_; have BK3 := n1_; have BK4 := n2_; clear n0_ n1_ n2_ hb hbox hg)
    | ((with_reducible refine gate_dst (N := 7) rfl ?_); refine arr_load ?hg (N := 7) (p := 3) ?ho ?hd (x := y) ?hp BK4.out hu46 ?hi ?_; (case hg => rfl); (case ho => rfl); (case hd => rfl); (case hp => rfl); (case hi => rw [hy]; kernel_rfl)))
  go_loopg [8] 48 (fun kq v8 w' => ∃ (z : List Bool) (i : Nat), v8 = .int .i64 (i : Int) ∧ Aside0 (i + kq = 48) ∧ Aside0 (z.length = 48) ∧ Aside0 (meetR y kq z i = meetR y 48 x 0) ∧ Aside0 (w'.heap[gb3]? = some (.cells (bv z) 46 (0, 0))) ∧ Aside0 (w'.heap[gb6]? = some (.cells (bv (List.replicate 48 false)) 46 (0, 0))) ∧ Aside0 (Below w.heap.size w w'))
  case atStart => exact ⟨x, 0, rfl, ⟨rfl⟩, ⟨hx⟩, ⟨rfl⟩, BK3, BK6, HB⟩
  case round =>
    obtain ⟨z, i, rfl, HI, HZ, HE, BK3, BK6, HB⟩ := hrel
    cases gk with
    | zero =>
      obtain rfl : i = 48 := by have := HI.out; omega
      go_wp2_with (first
        | ((with_reducible refine gate_dst (N := 21) rfl ?_); refine arr_load ?hg (N := 21) (p := 2) ?ho ?hd (x := z) ?hp BK3.out hu46 ?hi ?_; (case hg => rfl); (case ho => rfl); (case hd => rfl); (case hp => rfl); (case hi => rw [HZ.out]; kernel_rfl))
        | ((with_reducible refine gate_store (t := 46) (p := 4) rfl ?_); refine arr_store ?hg (p := 4) (q := 21) ?ho ?hd (y := z) ?hp ?hq BK6.out ?hxy ?hi ?_; (case hg => rfl); (case ho => rfl); (case hd => rfl); (case hp => rfl); (case hq => rfl); (case hxy => rw [HZ.out]; rfl); (case hi => rw [HZ.out]; kernel_rfl); intro w9 hblk hbel hoth; have n0_ := Aside0.mk (hbel _ _ HB.out GE6.out); clear HB BK6; have HB := n0_; have BK6 := Aside0.mk hblk; clear n0_ hblk hbel hoth))
      refine bodyPost_ret (results_cell_row rfl _ _ gb6 46 (bv z) (0, 0) _ rfl BK6.out hu46 rfl (by rw [bv_size, HZ.out]; kernel_rfl)) rfl ?_
      exact ⟨by rw [← HE.out]; rfl, HB.out⟩
    | succ k1 =>
      have hp0 : (0 ≤ (i : Int)) = True := eq_true (by omega)
      have hp1 : ((i : Int) < 48) = True := eq_true (by have := HI.out; omega)
      have hw1 : wrap64 ((i : Int) + 1) = ((i + 1 : Nat) : Int) := by have := HI.out; unfold wrap64; omega
      have hix := arr_index (P := Try.prog) (k := .i64) (x := y) (i := i) hu46 Try.underlying4 rfl (by kernel_rfl) hy (by have := HI.out; omega) wr
      have hcz : wr.cell? ⟨gb3, i, none⟩ = some (.bool (z.getD i false)) := by rw [cell_of_row wr gb3 i (bv z) 46 (0, 0) BK3.out, bv_get z i (by rw [HZ.out]; have := HI.out; omega)]
      cases hb : z.getD i false with
      | true =>
        rw [hb] at hcz
        go_wp2_with (first
          | ((with_reducible refine gate_store (t := 4) (p := 19) rfl ?_); refine arr_put ?hg (p := 19) (q := .tmp 18) (tv := 4) ?ho ?hd (g := gb3) (i := i) (b := y.getD i false) ?hp ?hq BK3.out ?hix ?hi ?_; (case hg => rfl); (case ho => rfl); (case hd => rfl); (case hp => rfl); (case hq => rfl); (case hix => rw [HZ.out]; have := HI.out; omega); (case hi => kernel_rfl); intro w9 hblk hbel hoth; have n0_ := Aside0.mk (hbel _ _ HB.out GE3.out); have n1_ := Aside0.mk ((hoth _ (Ne.symm NB36.out)).trans BK6.out); clear HB BK3 BK6; have HB := n0_; have BK3 := Aside0.mk hblk; have BK6 := n1_; clear n0_ n1_ hblk hbel hoth))
        go_roundg k1
        case measure => have := HI.out; omega
        case rel =>
          exact ⟨z.set i (y.getD i false), i + 1, by first | rw [hw1] | rfl | (simp; done), ⟨by have := HI.out; omega⟩, ⟨by rw [List.length_set]; exact HZ.out⟩, ⟨by rw [← HE.out]; simp only [meetR, hb, Bool.true_and]⟩, BK3, BK6, HB⟩
      | false =>
        rw [hb] at hcz
        go_wp2_with (first
          | ((with_reducible refine gate_store (t := 4) (p := 19) rfl ?_); refine arr_put ?hg (p := 19) (q := .tmp 18) (tv := 4) ?ho ?hd (g := gb3) (i := i) (b := false) ?hp ?hq BK3.out ?hix ?hi ?_; (case hg => rfl); (case ho => rfl); (case hd => rfl); (case hp => rfl); (case hq => rfl); (case hix => rw [HZ.out]; have := HI.out; omega); (case hi => kernel_rfl); intro w9 hblk hbel hoth; have n0_ := Aside0.mk (hbel _ _ HB.out GE3.out); have n1_ := Aside0.mk ((hoth _ (Ne.symm NB36.out)).trans BK6.out); clear HB BK3 BK6; have HB := n0_; have BK3 := Aside0.mk hblk; have BK6 := n1_; clear n0_ n1_ hblk hbel hoth))
        go_roundg k1
        case measure => have := HI.out; omega
        case rel =>
          exact ⟨z.set i false, i + 1, by first | rw [hw1] | rfl | (simp; done), ⟨by have := HI.out; omega⟩, ⟨by rw [List.length_set]; exact HZ.out⟩, ⟨by rw [← HE.out]; simp only [meetR, hb, Bool.false_and]⟩, BK3, BK6, HB⟩
theorem meetR_len (y : List Bool) : ∀ (d : Nat) (z : List Bool) (i : Nat), (meetR y d z i).length = z.length
  | 0, _, _ => rfl
  | d + 1, z, i => by rw [meetR, meetR_len y d, List.length_set]
def impl_places_meet.f (a0 : Pl) (a1 : Pl) : Option (Pl) := some ⟨meetR a1.1 48 a0.1 0, (meetR_len _ _ _ _).trans a0.2⟩
theorem impl_places_meet.calls (a0 : Pl) (a1 : Pl) (r : Pl) (w : World) (h : impl_places_meet.f a0 a1 = some r) :
    Calls Try.prog 45 #[plw a0, plw a1] w fun e w' => e = .returned (plw r) ∧ Below w.heap.size w w' := by
  obtain rfl := Option.some.inj h
  simpa only [plw] using meet_calls a0.1 a1.1 w a0.2 a1.2

/-! ### impl_places_spans: function 60 -/
theorem infoSp : (Try.prog.info? 29).map (fun i => (i.zero, i.size, i.bytes)) = some (some (.agg #[(.int .i64 0), (.int .i64 0)]), 2, 16) := by kernel_rfl
def runR (x : List Bool) : Nat → Nat → Nat
  | 0, i => i
  | d + 1, i => if i < 48 then (if x.getD i false then runR x d (i + 1) else i) else i
def spansR (x : List Bool) : Nat → Nat → List S29 → List S29
  | 0, _, out => out
  | d + 1, i, out => if i < 48 then (if x.getD i false then spansR x d (runR x 49 i + 1) (out ++ [⟨(i : Int), (runR x 49 i : Int)⟩]) else spansR x d (i + 1) out) else out
theorem runR_ge (x : List Bool) : ∀ (d i : Nat), i ≤ runR x d i
  | 0, _ => Nat.le_refl _
  | d + 1, i => by
    unfold runR
    split
    · split
      · have := runR_ge x d (i + 1); omega
      · exact Nat.le_refl _
    · exact Nat.le_refl _
theorem runR_le (x : List Bool) : ∀ (d i : Nat), i ≤ 48 → runR x d i ≤ 48
  | 0, _, h => h
  | d + 1, i, h => by
    unfold runR
    split
    · split
      · exact runR_le x d (i + 1) (by omega)
      · exact h
    · exact h
set_option maxHeartbeats 8000000 in
set_option maxRecDepth 100000 in
theorem spans_calls (x : List Bool) (w : World) (hx : x.length = 48) :
    Calls Try.prog 60 #[plv x] w fun e w' => ∃ v0_ : Value, e = .returned v0_ ∧ Kd.R k29 29 w' w.heap.size (fun _ => True) v0_ (spansR x 49 0 []) ∧ Below w.heap.size w w' := by
  have hu46 := Try.underlying46
  have hu29 := Try.underlying29
  have HB := Aside0.mk (Below.refl w.heap.size w)
  go_enter Try.func60, Try.ntmps60
  go_wp2_with (first
    | ((with_reducible refine gate_dst (N := 1) rfl ?_); refine box_event ?hg (N := 1) ?hd (cs := bv x) (t := 46) ?hr ?_; (case hd => rfl); (case hg => rfl); (case hr => first | (go_simp; done) | (go_simp; rfl)); intro gb1 hg w1 hbox hb; have n0_ := Aside0.mk (below_step HB.out hb); have BK1 := Aside0.mk hbox; have GE1 := Aside0.mk (show w.heap.size ≤ gb1 by rw [hg]; exact below_size HB.out); clear HB; have HB := n0_; clear n0_ hb hbox hg)
    | ((with_reducible refine gate_dst (N := 6) rfl ?_); refine Kd.R_lit k29 _ 29 ?hg (N := 6) ?hd (xs := ([] : List (S29))) (inner := []) (ok := fun _ => True) (okp := fun _ => True) ?hr ?hp (fun _ hk => hk) trivial (Below.refl _ _) (Nat.le_refl _) (by simp) ?_; (case hd => rfl); (case hg => rfl); (case hr => first | (go_simp; done) | (go_simp; rfl)); (case hp => exact (Reps.none _ _)); intro v6 w2 ho3 hb hg_ hnew_; clear hg_ hnew_; have n0_ := Aside0.mk (Kd.R_lower ho3 (below_size HB.out)); have n1_ := Aside0.mk (below_step HB.out hb); have n2_ := Aside0.mk (blk_below BK1.out hb); clear HB BK1; have HO3 := n0_; have HB := n1_; have BK1 := n2_; clear n0_ n1_ n2_ ho3 hb))
  go_loopg [3, 4] 49 (fun kq v3 v4 w' => ∃ (out : List S29) (i : Nat), v4 = .int .i64 (i : Int) ∧ Aside0 (48 < i + kq ∧ out.length ≤ i ∧ i ≤ 49) ∧ Aside0 (spansR x kq i out = spansR x 49 0 []) ∧ Aside0 (Kd.R k29 29 w' w.heap.size (fun _ => True) v3 out) ∧ Aside0 (w'.heap[gb1]? = some (.cells (bv x) 46 (0, 0))) ∧ Aside0 (Below w.heap.size w w'))
  case atStart => exact ⟨[], 0, rfl, ⟨by omega, by simp, by omega⟩, ⟨rfl⟩, HO3, BK1, HB⟩
  case round =>
    clear HO3 BK1 HB
    obtain ⟨out, i, rfl, HI, HE, HO, BK1, HB⟩ := hrel
    have hi0 : (0 ≤ (i : Int)) = True := eq_true (by omega)
    have hw1 : wrap64 ((i : Int) + 1) = ((i + 1 : Nat) : Int) := by have := HI.out; unfold wrap64; omega
    by_cases hi : i < 48
    · have hi1 : ((i : Int) < 48) = True := eq_true (by omega)
      cases gk with
      | zero => exact absurd HI.out.1 (by omega)
      | succ k1 =>
        have hcz : wr.cell? ⟨gb1, i, none⟩ = some (.bool (x.getD i false)) := by rw [cell_of_row wr gb1 i (bv x) 46 (0, 0) BK1.out, bv_get x i (by rw [hx]; exact hi)]
        cases hb : x.getD i false with
        | false =>
          rw [hb] at hcz
          go_wp2
          go_roundg k1
          case measure => omega
          case rel =>
            refine ⟨out, i + 1, by first | rw [hw1] | rfl | (simp; done), ⟨by have := HI.out; omega, by have := HI.out; omega, by omega⟩, ⟨?_⟩, HO, BK1, HB⟩
            rw [← HE.out, spansR, if_pos hi, hb]
            rfl
        | true =>
          rw [hb] at hcz
          go_wp2
          go_loopg [4] 49 (fun kq v4 w' => ∃ (j : Nat), v4 = .int .i64 (j : Int) ∧ Aside0 (48 < j + kq ∧ j ≤ 48 ∧ i ≤ j) ∧ Aside0 (runR x kq j = runR x 49 i) ∧ Aside0 (Kd.R k29 29 w' w.heap.size (fun _ => True) u3 out) ∧ Aside0 (w'.heap[gb1]? = some (.cells (bv x) 46 (0, 0))) ∧ Aside0 (Below w.heap.size w w'))
          case atStart => exact ⟨i, rfl, ⟨by omega, by omega, by omega⟩, ⟨rfl⟩, HO, BK1, HB⟩
          case round =>
            clear HO BK1 HB hcz
            obtain ⟨j, rfl, HJ, HE1, HO, BK1, HB⟩ := hrel
            cases gk with
            | zero => exact absurd HJ.out.1 (by have := HJ.out; omega)
            | succ k2 =>
              have hj0 : (0 ≤ (j : Int)) = True := eq_true (by omega)
              have hwj : wrap64 ((j : Int) + 1) = ((j + 1 : Nat) : Int) := by have := HJ.out; unfold wrap64; omega
              by_cases hj : j < 48
              · have hj1 : ((j : Int) < 48) = True := eq_true (by omega)
                have hcj : wr.cell? ⟨gb1, j, none⟩ = some (.bool (x.getD j false)) := by rw [cell_of_row wr gb1 j (bv x) 46 (0, 0) BK1.out, bv_get x j (by rw [hx]; exact hj)]
                cases hbj : x.getD j false with
                | true =>
                  rw [hbj] at hcj
                  go_wp2
                  go_roundg k2
                  case measure => omega
                  case rel =>
                    refine ⟨j + 1, by first | rw [hwj] | rfl | (simp; done), ⟨by have := HJ.out; omega, by omega, by have := HJ.out; omega⟩, ⟨?_⟩, HO, BK1, HB⟩
                    rw [← HE1.out, runR, if_pos hj, hbj]
                    rfl
                | false =>
                  have he : runR x 49 i = j := by rw [← HE1.out, runR, if_pos hj, hbj]; rfl
                  rw [hbj] at hcj
                  go_wp2_with (first
    | ((with_reducible refine gate_dst (N := 30) rfl ?_); refine Kd.R_append k29 (w0 := w) w.heap.size rfl (.tmp 25) (.tmp 29) 27 29 (.agg #[(.int .i64 0), (.int .i64 0)]) 16 rfl Try.underlying27 infoSp rfl (by decide) (by omega) u3 out (⟨(i : Int), (j : Int)⟩ : S29) [.int .i64 (i : Int), .int .i64 (j : Int)] (fun _ => True) (fun _ => False) rfl rfl ?aP (fun _ hk => hk.elim) ?aF ?aO ?aB ?aS ?aL ?_; (case aP => exact k29_mkM _ _ _ (⟨(i : Int), (j : Int)⟩ : S29)); (case aB => exact (by repeat (first | (with_reducible first | exact HB.out | apply below_alloc) | exact HB.out))); (case aF => exact (fun _ _ => trivial)); (case aO => exact (by (with_reducible repeat (first | apply Kd.R_alloc | apply Kd.R_drewN | apply Kd.R_drew)); exact HO.out)); (case aS => exact (below_size (by repeat (first | (with_reducible first | exact HB.out | apply below_alloc) | exact HB.out)))); (case aL => have := HI.out; omega); intro v30 w30 ho hb30 hg hat; have n0_ := Aside0.mk (blk_grown (by (with_reducible repeat (first | refine blk_alloc ?_ _)); exact BK1.out) hg (Kd.R_ne HO.out BK1.out (by decide))); have n1_ := Aside0.mk hb30; have n2_ := Aside0.mk ho; clear BK1 HB HO; have BK1 := n0_; have HB := n1_; have HO := n2_; clear n0_ n1_ n2_ ho hb30 hg hat))
                  go_roundg k1
                  case measure => omega
                  case rel => 
                  refine ⟨out ++ [⟨(i : Int), (j : Int)⟩], j + 1, by first | rw [hwj] | rfl | (simp; done), ⟨by have := HI.out; have := HJ.out; omega, by have := HI.out; have := HJ.out; simp; omega, by have := HJ.out; omega⟩, ⟨?_⟩, HO, BK1, HB⟩
                  rw [← HE.out, spansR, if_pos hi, hb, he]
                  rfl
              · have hj1 : ((j : Int) < 48) = False := eq_false (by omega)
                have he : runR x 49 i = j := by rw [← HE1.out, runR, if_neg hj]
                go_wp2_with (first
    | ((with_reducible refine gate_dst (N := 30) rfl ?_); refine Kd.R_append k29 (w0 := w) w.heap.size rfl (.tmp 25) (.tmp 29) 27 29 (.agg #[(.int .i64 0), (.int .i64 0)]) 16 rfl Try.underlying27 infoSp rfl (by decide) (by omega) u3 out (⟨(i : Int), (j : Int)⟩ : S29) [.int .i64 (i : Int), .int .i64 (j : Int)] (fun _ => True) (fun _ => False) rfl rfl ?aP (fun _ hk => hk.elim) ?aF ?aO ?aB ?aS ?aL ?_; (case aP => exact k29_mkM _ _ _ (⟨(i : Int), (j : Int)⟩ : S29)); (case aB => exact (by repeat (first | (with_reducible first | exact HB.out | apply below_alloc) | exact HB.out))); (case aF => exact (fun _ _ => trivial)); (case aO => exact (by (with_reducible repeat (first | apply Kd.R_alloc | apply Kd.R_drewN | apply Kd.R_drew)); exact HO.out)); (case aS => exact (below_size (by repeat (first | (with_reducible first | exact HB.out | apply below_alloc) | exact HB.out)))); (case aL => have := HI.out; omega); intro v30 w30 ho hb30 hg hat; have n0_ := Aside0.mk (blk_grown (by (with_reducible repeat (first | refine blk_alloc ?_ _)); exact BK1.out) hg (Kd.R_ne HO.out BK1.out (by decide))); have n1_ := Aside0.mk hb30; have n2_ := Aside0.mk ho; clear BK1 HB HO; have BK1 := n0_; have HB := n1_; have HO := n2_; clear n0_ n1_ n2_ ho hb30 hg hat))
                go_roundg k1
                case measure => omega
                case rel => 
                  refine ⟨out ++ [⟨(i : Int), (j : Int)⟩], j + 1, by first | rw [hwj] | rfl | (simp; done), ⟨by have := HI.out; have := HJ.out; omega, by have := HI.out; have := HJ.out; simp; omega, by have := HJ.out; omega⟩, ⟨?_⟩, HO, BK1, HB⟩
                  rw [← HE.out, spansR, if_pos hi, hb, he]
                  rfl
    · have hi1 : ((i : Int) < 48) = False := eq_false (by omega)
      have he : spansR x 49 0 [] = out := by
        rw [← HE.out]
        cases gk with
        | zero => rfl
        | succ d => rw [spansR, if_neg hi]
      go_wp2
      go_ret
      exact ⟨_, rfl, by rw [he]; exact HO.out, HB.out⟩
def impl_places_spans.f (a0 : Pl) : Option ((List (S29))) := some (spansR a0.1 49 0 [])
theorem impl_places_spans.calls (a0 : Pl) (r : List (S29)) (w : World) (h : impl_places_spans.f a0 = some r) :
    Calls Try.prog 60 #[plw a0] w fun e w' => ∃ v0_ : Value, e = .returned (v0_) ∧ Kd.R k29 29 w' w.heap.size (fun _ => True) v0_ r ∧ Below w.heap.size w w' := by
  obtain rfl := Option.some.inj h
  simpa only [plw] using spans_calls a0.1 w a0.2

/-! ### impl_few: function 48 -/
set_option maxHeartbeats 8000000 in
set_option maxRecDepth 100000 in
theorem few_calls (x : List Bool) (w : World) (hx : x.length = 48) :
    Calls Try.prog 48 #[plv x] w fun e w' => ∃ v0_ : Value, e = .returned v0_ ∧ Kd.R k29 29 w' w.heap.size (fun _ => True) v0_ (if (spansR x 49 0 []).length ≤ 12 then spansR x 49 0 [] else []) ∧ Below w.heap.size w w' := by
  have hu46 := Try.underlying46
  have HB := Aside0.mk (Below.refl w.heap.size w)
  by_cases hc : (spansR x 49 0 []).length ≤ 12
  · have hc1 : (((spansR x 49 0 []).length : Int) ≤ 12) = True := eq_true (by omega)
    rw [if_pos hc]
    generalize hL : spansR x 49 0 [] = L at hc1
    go_enter Try.func48, Try.ntmps48
    go_wp2_with (first
    | ((with_reducible refine gate_dst (N := 1) rfl ?_); refine box_event ?hg (N := 1) ?hd (cs := bv x) (t := 46) ?hr ?_; (case hd => rfl); (case hg => rfl); (case hr => first | (go_simp; done) | (go_simp; rfl)); intro gb1 hg w1 hbox hb; have n0_ := Aside0.mk (below_step HB.out hb); have BK1 := Aside0.mk hbox; clear HB; have HB := n0_; clear n0_ hb hbox hg)
    | ((with_reducible refine gate_dst (N := 4) rfl ?_); refine arr_load ?hg (N := 4) (p := 1) ?ho ?hd (x := x) ?hp BK1.out hu46 ?hi ?_; (case hg => rfl); (case ho => rfl); (case hd => rfl); (case hp => rfl); (case hi => rw [hx]; kernel_rfl))
    | (go_at_call 60; (with_reducible refine (spans_calls x _ hx).mono ?_); rintro e w46 ⟨v46, rfl, ho, hb⟩; rw [hL] at ho; have n0_ := Aside0.mk (Kd.R_lower ho (below_size HB.out)); have n1_ := Aside0.mk (below_step HB.out hb); clear HB; have HO := n0_; have HB := n1_; clear n0_ n1_ ho hb; obtain ⟨Ao, co, eo⟩ := Kd.R_slice HO.out; subst eo))
    go_ret
    exact ⟨_, rfl, HO.out, HB.out⟩
  · have hc1 : (((spansR x 49 0 []).length : Int) ≤ 12) = False := eq_false (by omega)
    rw [if_neg hc]
    generalize hL : spansR x 49 0 [] = L at hc1
    go_enter Try.func48, Try.ntmps48
    go_wp2_with (first
    | ((with_reducible refine gate_dst (N := 1) rfl ?_); refine box_event ?hg (N := 1) ?hd (cs := bv x) (t := 46) ?hr ?_; (case hd => rfl); (case hg => rfl); (case hr => first | (go_simp; done) | (go_simp; rfl)); intro gb1 hg w1 hbox hb; have n0_ := Aside0.mk (below_step HB.out hb); have BK1 := Aside0.mk hbox; clear HB; have HB := n0_; clear n0_ hb hbox hg)
    | ((with_reducible refine gate_dst (N := 4) rfl ?_); refine arr_load ?hg (N := 4) (p := 1) ?ho ?hd (x := x) ?hp BK1.out hu46 ?hi ?_; (case hg => rfl); (case ho => rfl); (case hd => rfl); (case hp => rfl); (case hi => rw [hx]; kernel_rfl))
    | (go_at_call 60; (with_reducible refine (spans_calls x _ hx).mono ?_); rintro e w46 ⟨v46, rfl, ho, hb⟩; rw [hL] at ho; have n0_ := Aside0.mk (Kd.R_lower ho (below_size HB.out)); have n1_ := Aside0.mk (below_step HB.out hb); clear HB; have HO := n0_; have HB := n1_; clear n0_ n1_ ho hb; obtain ⟨Ao, co, eo⟩ := Kd.R_slice HO.out; subst eo))
    go_ret
    exact ⟨_, rfl, by first | exact Kd.R_nil _ _ _ _ _ | exact Kd.N_nil _ _ _ _ _, HB.out⟩
def impl_few.f (a0 : Pl) : Option ((List (S29))) := some (if (spansR a0.1 49 0 []).length ≤ 12 then spansR a0.1 49 0 [] else [])
theorem impl_few.calls (a0 : Pl) (r : List (S29)) (w : World) (h : impl_few.f a0 = some r) :
    Calls Try.prog 48 #[plw a0] w fun e w' => ∃ v0_ : Value, e = .returned (v0_) ∧ Kd.R k29 29 w' w.heap.size (fun _ => True) v0_ r ∧ Below w.heap.size w w' := by
  obtain rfl := Option.some.inj h
  simpa only [plw] using few_calls a0.1 w a0.2

end Go.Proofs.Ytmplfidfckkmhaa.QZ
