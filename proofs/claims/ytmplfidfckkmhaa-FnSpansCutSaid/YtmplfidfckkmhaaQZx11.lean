/- Functions of the program as functions over numbers and lists, each with the proof that the call comes to just its answer. Conditions: the function answers. Told by a program of this session that runs the kit's print with own parts. -/
import Derived.Test.YtmplfidfckkmhaaQZx0
namespace Go.Proofs.Ytmplfidfckkmhaa.QZ
open Go.RowKit Go.Proofs.YtmplfidfckkmhaaW.PrintWords Go.Proofs.YtmplfidfckkmhaaW.PrintLast Go.Proofs.YtmplfidfckkmhaaW.PrintMore Go.Proofs.Ytmplfidfckkmhaa.Arr
attribute [local go_sem] plw_guardT plw_eqlT max2_int min2_int max_two min_two max_three min_three max_four min_four   -- for this text's walks alone
set_option linter.unusedVariables false
set_option linter.unusedSimpArgs false

/-! ### impl_places_put: function 50 -/
def putR (y : List Bool) (b : Bool) : Nat → List Bool → Nat → List Bool
  | 0, z, _ => z
  | d + 1, z, i => putR y b d (if y.getD i false then z.set i b else z) (i + 1)
set_option maxHeartbeats 8000000 in
set_option maxRecDepth 100000 in
theorem put_calls (x y : List Bool) (b : Bool) (w : World) (hx : x.length = 48) (hy : y.length = 48) :
    Calls Try.prog 50 #[plv x, plv y, .bool b] w fun e w' => e = .returned (plv (putR y b 48 x 0)) ∧ Below w.heap.size w w' := by
  have hu46 := Try.underlying46
  have HB := Aside0.mk (Below.refl w.heap.size w)
  go_enter Try.func50, Try.ntmps50
  go_wp2_with (first
    | ((with_reducible refine gate_dst (N := 3) rfl ?_); refine box_event ?hg (N := 3) ?hd (cs := bv x) (t := 46) ?hr ?_; (case hd => rfl); (case hg => rfl); (case hr => first | (go_simp; done) | (go_simp; rfl)); intro gb3 hg w3 hbox hb; have n0_ := Aside0.mk (below_step HB.out hb); have BK3 := Aside0.mk hbox; have GE3 := Aside0.mk (show w.heap.size ≤ gb3 by rw [hg]; exact below_size HB.out); clear HB; have HB := n0_; clear n0_ hb hbox hg)
    | ((with_reducible refine gate_dst (N := 4) rfl ?_); refine box_event ?hg (N := 4) ?hd (cs := bv y) (t := 46) ?hr ?_; (case hd => rfl); (case hg => rfl); (case hr => first | (go_simp; done) | (go_simp; rfl)); intro gb4 hg w4 hbox hb; have n0_ := Aside0.mk (below_step HB.out hb); have n1_ := Aside0.mk (blk_below BK3.out hb); have BK4 := Aside0.mk hbox; have GE4 := Aside0.mk (show w.heap.size ≤ gb4 by rw [hg]; exact below_size HB.out); have NB34 := Aside0.mk (show gb3 ≠ gb4 by rw [hg]; exact Nat.ne_of_lt (blk_lt BK3.out)); clear HB BK3; have HB := n0_; have BK3 := n1_; clear n0_ n1_ hb hbox hg)
    | ((with_reducible refine gate_dst (N := 6) rfl ?_); refine box_event ?hg (N := 6) ?hd (cs := bv (List.replicate 48 false)) (t := 46) ?hr ?_; (case hd => rfl); (case hg => rfl); (case hr => first | (go_simp; done) | (go_simp; rfl)); intro gb6 hg w6 hbox hb; have n0_ := Aside0.mk (below_step HB.out hb); have n1_ := Aside0.mk (blk_below BK3.out hb); have n2_ := Aside0.mk (blk_below BK4.out hb); have BK6 := Aside0.mk hbox; have GE6 := Aside0.mk (show w.heap.size ≤ gb6 by rw [hg]; exact below_size HB.out); have NB36 := Aside0.mk (show gb3 ≠ gb6 by rw [hg]; exact Nat.ne_of_lt (blk_lt BK3.out)); have NBq6 := Aside0.mk (show gb4 ≠ gb6 by rw [hg]; exact Nat.ne_of_lt (blk_lt BK4.out)); clear HB BK3 BK4; have HB := n0_; have BK3 := n1_; have BK4 := n2_; clear n0_ n1_ n2_ hb hbox hg)
    | ((with_reducible refine gate_dst (N := 9) rfl ?_); refine arr_load ?hg (N := 9) (p := 4) ?ho ?hd (x := y) ?hp BK4.out hu46 ?hi ?_; (case hg => rfl); (case ho => rfl); (case hd => rfl); (case hp => rfl); (case hi => rw [hy]; kernel_rfl)))
  go_loopg [10] 48 (fun kq v10 w' => ∃ (z : List Bool) (i : Nat), v10 = .int .i64 (i : Int) ∧ Aside0 (i + kq = 48) ∧ Aside0 (z.length = 48) ∧ Aside0 (putR y b kq z i = putR y b 48 x 0) ∧ Aside0 (w'.heap[gb3]? = some (.cells (bv z) 46 (0, 0))) ∧ Aside0 (w'.heap[gb6]? = some (.cells (bv (List.replicate 48 false)) 46 (0, 0))) ∧ Aside0 (Below w.heap.size w w'))
  case atStart => exact ⟨x, 0, rfl, ⟨rfl⟩, ⟨hx⟩, ⟨rfl⟩, BK3, BK6, HB⟩
  case round =>
    obtain ⟨z, i, rfl, HI, HZ, HE, BK3, BK6, HB⟩ := hrel
    cases gk with
    | zero =>
      obtain rfl : i = 48 := by have := HI.out; omega
      go_wp2_with (first
        | ((with_reducible refine gate_dst (N := 19) rfl ?_); refine arr_load ?hg (N := 19) (p := 3) ?ho ?hd (x := z) ?hp BK3.out hu46 ?hi ?_; (case hg => rfl); (case ho => rfl); (case hd => rfl); (case hp => rfl); (case hi => rw [HZ.out]; kernel_rfl))
        | ((with_reducible refine gate_store (t := 46) (p := 6) rfl ?_); refine arr_store ?hg (p := 6) (q := 19) ?ho ?hd (y := z) ?hp ?hq BK6.out ?hxy ?hi ?_; (case hg => rfl); (case ho => rfl); (case hd => rfl); (case hp => rfl); (case hq => rfl); (case hxy => rw [HZ.out]; rfl); (case hi => rw [HZ.out]; kernel_rfl); intro w9 hblk hbel hoth; have n0_ := Aside0.mk (hbel _ _ HB.out GE6.out); clear HB BK6; have HB := n0_; have BK6 := Aside0.mk hblk; clear n0_ hblk hbel hoth))
      refine bodyPost_ret (results_cell_row rfl _ _ gb6 46 (bv z) (0, 0) _ rfl BK6.out hu46 rfl (by rw [bv_size, HZ.out]; kernel_rfl)) rfl ?_
      exact ⟨by rw [← HE.out]; rfl, HB.out⟩
    | succ k1 =>
      have hp0 : (0 ≤ (i : Int)) = True := eq_true (by omega)
      have hp1 : ((i : Int) < 48) = True := eq_true (by have := HI.out; omega)
      have hw1 : wrap64 ((i : Int) + 1) = ((i + 1 : Nat) : Int) := by have := HI.out; unfold wrap64; omega
      have hix := arr_index (P := Try.prog) (k := .i64) (x := y) (i := i) hu46 Try.underlying4 rfl (by kernel_rfl) hy (by have := HI.out; omega) wr
      cases hb : y.getD i false with
      | true =>
        rw [hb] at hix
        go_wp2_with (first
          | ((with_reducible refine gate_store (t := 4) (p := 17) rfl ?_); refine arr_put ?hg (p := 17) (q := .tmp 16) (tv := 4) ?ho ?hd (g := gb3) (i := i) (b := b) ?hp ?hq BK3.out ?hix ?hi ?_; (case hg => rfl); (case ho => rfl); (case hd => rfl); (case hp => rfl); (case hq => rfl); (case hix => rw [HZ.out]; have := HI.out; omega); (case hi => kernel_rfl); intro w9 hblk hbel hoth; have n0_ := Aside0.mk (hbel _ _ HB.out GE3.out); have n1_ := Aside0.mk ((hoth _ (Ne.symm NB36.out)).trans BK6.out); clear HB BK3 BK6; have HB := n0_; have BK3 := Aside0.mk hblk; have BK6 := n1_; clear n0_ n1_ hblk hbel hoth))
        go_roundg k1
        case measure => have := HI.out; omega
        case rel =>
          exact ⟨z.set i b, i + 1, by first | rw [hw1] | rfl | (simp; done), ⟨by have := HI.out; omega⟩, ⟨by rw [List.length_set]; exact HZ.out⟩, ⟨by rw [← HE.out]; simp only [putR, hb, if_true]⟩, BK3, BK6, HB⟩
      | false => 
        rw [hb] at hix
        go_wp2
        go_roundg k1
        case measure => have := HI.out; omega
        case rel =>
          exact ⟨z, i + 1, by first | rw [hw1] | rfl | (simp; done), ⟨by have := HI.out; omega⟩, HZ, ⟨by rw [← HE.out]; simp only [putR, hb, Bool.false_eq_true, if_false]⟩, BK3, BK6, HB⟩
theorem putR_len (y : List Bool) (b : Bool) : ∀ (d : Nat) (z : List Bool) (i : Nat), (putR y b d z i).length = z.length
  | 0, _, _ => rfl
  | d + 1, z, i => by
    rw [putR, putR_len y b d]
    split
    · rw [List.length_set]
    · rfl
def impl_places_put.f (a0 : Pl) (a1 : Pl) (a2 : Bool) : Option (Pl) := some ⟨putR a1.1 a2 48 a0.1 0, (putR_len _ _ _ _ _).trans a0.2⟩
theorem impl_places_put.calls (a0 : Pl) (a1 : Pl) (a2 : Bool) (r : Pl) (w : World) (h : impl_places_put.f a0 a1 a2 = some r) :
    Calls Try.prog 50 #[plw a0, plw a1, .bool a2] w fun e w' => e = .returned (plw r) ∧ Below w.heap.size w w' := by
  obtain rfl := Option.some.inj h
  simpa only [plw] using put_calls a0.1 a1.1 a2 w a0.2 a1.2

end Go.Proofs.Ytmplfidfckkmhaa.QZ
