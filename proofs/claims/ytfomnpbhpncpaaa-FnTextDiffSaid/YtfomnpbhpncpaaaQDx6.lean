/- Functions of the program as functions over numbers and lists, each with the proof that the call comes to just its answer. Conditions: the function answers. Told by a program of this session that runs the kit's print with own parts. -/
import Derived.Test.YtfomnpbhpncpaaaQDx0
namespace Go.Proofs.Ytfomnpbhpncpaaa.QD
open Go.RowKit Go.Proofs.YtfomnpbhpncpaaaW.PrintWords Go.Proofs.YtfomnpbhpncpaaaW.PrintLast Go.Proofs.YtfomnpbhpncpaaaW.PrintMore Go.Proofs.Ytfomnpbhpncpaaa.Arr
attribute [local go_sem] plw_guardT plw_eqlT max2_int min2_int max_two min_two max_three min_three max_four min_four   -- for this text's walks alone
set_option linter.unusedVariables false
set_option linter.unusedSimpArgs false

/-! ### impl_places_spans: function 59 -/
theorem infoSp : (Try.prog.info? 40).map (fun i => (i.zero, i.size, i.bytes)) = some (some (.agg #[(.int .i64 0), (.int .i64 0)]), 2, 16) := by kernel_rfl
def runR (x : List Bool) : Nat → Nat → Nat
  | 0, i => i
  | d + 1, i => if i < 48 then (if x.getD i false then runR x d (i + 1) else i) else i
def spansR (x : List Bool) : Nat → Nat → List S40 → List S40
  | 0, _, out => out
  | d + 1, i, out => if i < 48 then (if x.getD i false then spansR x d (runR x 49 i + 1) (out ++ [⟨(i : Int), (runR x 49 i : Int)⟩]) else spansR x d (i + 1) out) else out
theorem runR_ge (x : List Bool) : ∀ (d i : Nat), i ≤ runR x d i
  | 0, _ => Nat.le_refl _
  | d + 1, i => by
    unfold runR
    split
    · split
      · have := runR_ge x d (i + 1); omega
      · exact Nat.le_refl _
    · exact Nat.le_refl _
theorem runR_le (x : List Bool) : ∀ (d i : Nat), i ≤ 48 → runR x d i ≤ 48
  | 0, _, h => h
  | d + 1, i, h => by
    unfold runR
    split
    · split
      · exact runR_le x d (i + 1) (by omega)
      · exact h
    · exact h
set_option maxHeartbeats 8000000 in
set_option maxRecDepth 100000 in
theorem spans_calls (x : List Bool) (w : World) (hx : x.length = 48) :
    Calls Try.prog 59 #[plv x] w fun e w' => ∃ v0_ : Value, e = .returned v0_ ∧ Kd.R k40 40 w' w.heap.size (fun _ => True) v0_ (spansR x 49 0 []) ∧ Below w.heap.size w w' := by
  have hu89 := Try.underlying89
  have hu40 := Try.underlying40
  have HB := Aside0.mk (Below.refl w.heap.size w)
  go_enter Try.func59, Try.ntmps59
  go_wp2_with (first
    | ((with_reducible refine gate_dst (N := 1) rfl ?_); refine box_event ?hg (N := 1) ?hd (cs := bv x) (t := 89) ?hr ?_; (case hd => rfl); (case hg => rfl); (case hr => first | (go_simp; done) | (go_simp; rfl)); intro gb1 hg w1 hbox hb; have n0_ := Aside0.mk (below_step HB.out hb); have BK1 := Aside0.mk hbox; have GE1 := Aside0.mk (show w.heap.size ≤ gb1 by rw [hg]; exact below_size HB.out); clear HB; have HB := n0_; clear n0_ hb hbox hg)
    | ((with_reducible refine gate_dst (N := 6) rfl ?_); refine Kd.R_lit k40 _ 40 ?hg (N := 6) ?hd (xs := ([] : List (S40))) (inner := []) (ok := fun _ => True) (okp := fun _ => True) ?hr ?hp (fun _ hk => hk) trivial (Below.refl _ _) (Nat.le_refl _) (by simp) ?_; (case hd => rfl); (case hg => rfl); (case hr => first | (go_simp; done) | (go_simp; rfl)); (case hp => exact (Reps.none _ _)); intro v6 w2 ho3 hb hg_ hnew_; clear hg_ hnew_; have n0_ := Aside0.mk (Kd.R_lower ho3 (below_size HB.out)); have n1_ := Aside0.mk (below_step HB.out hb); have n2_ := Aside0.mk (blk_below BK1.out hb); clear HB BK1; have HO3 := n0_; have HB := n1_; have BK1 := n2_; clear n0_ n1_ n2_ ho3 hb))
  go_loopg [3, 4] 49 (fun kq v3 v4 w' => ∃ (out : List S40) (i : Nat), v4 = .int .i64 (i : Int) ∧ Aside0 (48 < i + kq ∧ out.length ≤ i ∧ i ≤ 49) ∧ Aside0 (spansR x kq i out = spansR x 49 0 []) ∧ Aside0 (Kd.R k40 40 w' w.heap.size (fun _ => True) v3 out) ∧ Aside0 (w'.heap[gb1]? = some (.cells (bv x) 89 (0, 0))) ∧ Aside0 (Below w.heap.size w w'))
  case atStart => exact ⟨[], 0, rfl, ⟨by omega, by simp, by omega⟩, ⟨rfl⟩, HO3, BK1, HB⟩
  case round =>
    clear HO3 BK1 HB
    obtain ⟨out, i, rfl, HI, HE, HO, BK1, HB⟩ := hrel
    have hi0 : (0 ≤ (i : Int)) = True := eq_true (by omega)
    have hw1 : wrap64 ((i : Int) + 1) = ((i + 1 : Nat) : Int) := by have := HI.out; unfold wrap64; omega
    by_cases hi : i < 48
    · have hi1 : ((i : Int) < 48) = True := eq_true (by omega)
      cases gk with
      | zero => exact absurd HI.out.1 (by omega)
      | succ k1 =>
        have hcz : wr.cell? ⟨gb1, i, none⟩ = some (.bool (x.getD i false)) := by rw [cell_of_row wr gb1 i (bv x) 89 (0, 0) BK1.out, bv_get x i (by rw [hx]; exact hi)]
        cases hb : x.getD i false with
        | false =>
          rw [hb] at hcz
          go_wp2
          go_roundg k1
          case measure => omega
          case rel =>
            refine ⟨out, i + 1, by first | rw [hw1] | rfl | (simp; done), ⟨by have := HI.out; omega, by have := HI.out; omega, by omega⟩, ⟨?_⟩, HO, BK1, HB⟩
            rw [← HE.out, spansR, if_pos hi, hb]
            rfl
        | true =>
          rw [hb] at hcz
          go_wp2
          go_loopg [4] 49 (fun kq v4 w' => ∃ (j : Nat), v4 = .int .i64 (j : Int) ∧ Aside0 (48 < j + kq ∧ j ≤ 48 ∧ i ≤ j) ∧ Aside0 (runR x kq j = runR x 49 i) ∧ Aside0 (Kd.R k40 40 w' w.heap.size (fun _ => True) u3 out) ∧ Aside0 (w'.heap[gb1]? = some (.cells (bv x) 89 (0, 0))) ∧ Aside0 (Below w.heap.size w w'))
          case atStart => exact ⟨i, rfl, ⟨by omega, by omega, by omega⟩, ⟨rfl⟩, HO, BK1, HB⟩
          case round =>
            clear HO BK1 HB hcz
            obtain ⟨j, rfl, HJ, HE1, HO, BK1, HB⟩ := hrel
            cases gk with
            | zero => exact absurd HJ.out.1 (by have := HJ.out; omega)
            | succ k2 =>
              have hj0 : (0 ≤ (j : Int)) = True := eq_true (by omega)
              have hwj : wrap64 ((j : Int) + 1) = ((j + 1 : Nat) : Int) := by have := HJ.out; unfold wrap64; omega
              by_cases hj : j < 48
              · have hj1 : ((j : Int) < 48) = True := eq_true (by omega)
                have hcj : wr.cell? ⟨gb1, j, none⟩ = some (.bool (x.getD j false)) := by rw [cell_of_row wr gb1 j (bv x) 89 (0, 0) BK1.out, bv_get x j (by rw [hx]; exact hj)]
                cases hbj : x.getD j false with
                | true =>
                  rw [hbj] at hcj
                  go_wp2
                  go_roundg k2
                  case measure => omega
                  case rel =>
                    refine ⟨j + 1, by first | rw [hwj] | rfl | (simp; done), ⟨by have := HJ.out; omega, by omega, by have := HJ.out; omega⟩, ⟨?_⟩, HO, BK1, HB⟩
                    rw [← HE1.out, runR, if_pos hj, hbj]
                    rfl
                | false =>
                  have he : runR x 49 i = j := by rw [← HE1.out, runR, if_pos hj, hbj]; rfl
                  rw [hbj] at hcj
                  go_wp2_with (first
    | ((with_reducible refine gate_dst (N := 30) rfl ?_); refine Kd.R_append k40 (w0 := w) w.heap.size rfl (.tmp 25) (.tmp 29) 51 40 (.agg #[(.int .i64 0), (.int .i64 0)]) 16 rfl Try.underlying51 infoSp rfl (by decide) (by omega) u3 out (⟨(i : Int), (j : Int)⟩ : S40) [.int .i64 (i : Int), .int .i64 (j : Int)] (fun _ => True) (fun _ => False) rfl rfl ?aP (fun _ hk => hk.elim) ?aF ?aO ?aB ?aS ?aL ?_; (case aP => exact k40_mkM _ _ _ (⟨(i : Int), (j : Int)⟩ : S40)); (case aB => exact (by repeat (first | (with_reducible first | exact HB.out | apply below_alloc) | exact HB.out))); (case aF => exact (fun _ _ => trivial)); (case aO => exact (by (with_reducible repeat (first | apply Kd.R_alloc | apply Kd.R_drewN | apply Kd.R_drew)); exact HO.out)); (case aS => exact (below_size (by repeat (first | (with_reducible first | exact HB.out | apply below_alloc) | exact HB.out)))); (case aL => have := HI.out; omega); intro v30 w30 ho hb30 hg hat; have n0_ := Aside0.mk (blk_grown (by (with_reducible repeat (first | refine blk_alloc ?_ _)); exact BK1.out) hg (Kd.R_ne HO.out BK1.out (by decide))); have n1_ := Aside0.mk hb30; have n2_ := Aside0.mk ho; clear BK1 HB HO; have BK1 := n0_; have HB := n1_; have HO := n2_; clear n0_ n1_ n2_ ho hb30 hg hat))
                  go_roundg k1
                  case measure => omega
                  case rel => 
                  refine ⟨out ++ [⟨(i : Int), (j : Int)⟩], j + 1, by first | rw [hwj] | rfl | (simp; done), ⟨by have := HI.out; have := HJ.out; omega, by have := HI.out; have := HJ.out; simp; omega, by have := HJ.out; omega⟩, ⟨?_⟩, HO, BK1, HB⟩
                  rw [← HE.out, spansR, if_pos hi, hb, he]
                  rfl
              · have hj1 : ((j : Int) < 48) = False := eq_false (by omega)
                have he : runR x 49 i = j := by rw [← HE1.out, runR, if_neg hj]
                go_wp2_with (first
    | ((with_reducible refine gate_dst (N := 30) rfl ?_); refine Kd.R_append k40 (w0 := w) w.heap.size rfl (.tmp 25) (.tmp 29) 51 40 (.agg #[(.int .i64 0), (.int .i64 0)]) 16 rfl Try.underlying51 infoSp rfl (by decide) (by omega) u3 out (⟨(i : Int), (j : Int)⟩ : S40) [.int .i64 (i : Int), .int .i64 (j : Int)] (fun _ => True) (fun _ => False) rfl rfl ?aP (fun _ hk => hk.elim) ?aF ?aO ?aB ?aS ?aL ?_; (case aP => exact k40_mkM _ _ _ (⟨(i : Int), (j : Int)⟩ : S40)); (case aB => exact (by repeat (first | (with_reducible first | exact HB.out | apply below_alloc) | exact HB.out))); (case aF => exact (fun _ _ => trivial)); (case aO => exact (by (with_reducible repeat (first | apply Kd.R_alloc | apply Kd.R_drewN | apply Kd.R_drew)); exact HO.out)); (case aS => exact (below_size (by repeat (first | (with_reducible first | exact HB.out | apply below_alloc) | exact HB.out)))); (case aL => have := HI.out; omega); intro v30 w30 ho hb30 hg hat; have n0_ := Aside0.mk (blk_grown (by (with_reducible repeat (first | refine blk_alloc ?_ _)); exact BK1.out) hg (Kd.R_ne HO.out BK1.out (by decide))); have n1_ := Aside0.mk hb30; have n2_ := Aside0.mk ho; clear BK1 HB HO; have BK1 := n0_; have HB := n1_; have HO := n2_; clear n0_ n1_ n2_ ho hb30 hg hat))
                go_roundg k1
                case measure => omega
                case rel => 
                  refine ⟨out ++ [⟨(i : Int), (j : Int)⟩], j + 1, by first | rw [hwj] | rfl | (simp; done), ⟨by have := HI.out; have := HJ.out; omega, by have := HI.out; have := HJ.out; simp; omega, by have := HJ.out; omega⟩, ⟨?_⟩, HO, BK1, HB⟩
                  rw [← HE.out, spansR, if_pos hi, hb, he]
                  rfl
    · have hi1 : ((i : Int) < 48) = False := eq_false (by omega)
      have he : spansR x 49 0 [] = out := by
        rw [← HE.out]
        cases gk with
        | zero => rfl
        | succ d => rw [spansR, if_neg hi]
      go_wp2
      go_ret
      exact ⟨_, rfl, by rw [he]; exact HO.out, HB.out⟩
def impl_places_spans.f (a0 : Pl) : Option ((List (S40))) := some (spansR a0.1 49 0 [])
theorem impl_places_spans.calls (a0 : Pl) (r : List (S40)) (w : World) (h : impl_places_spans.f a0 = some r) :
    Calls Try.prog 59 #[plw a0] w fun e w' => ∃ v0_ : Value, e = .returned (v0_) ∧ Kd.R k40 40 w' w.heap.size (fun _ => True) v0_ r ∧ Below w.heap.size w w' := by
  obtain rfl := Option.some.inj h
  simpa only [plw] using spans_calls a0.1 w a0.2

end Go.Proofs.Ytfomnpbhpncpaaa.QD
