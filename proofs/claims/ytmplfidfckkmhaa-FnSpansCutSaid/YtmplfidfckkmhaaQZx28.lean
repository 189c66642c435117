/- Functions of the program as functions over numbers and lists, each with the proof that the call comes to just its answer. Conditions: the function answers. Told by a program of this session that runs the kit's print with own parts. -/
import Derived.Test.YtmplfidfckkmhaaQZx0
import Derived.Test.YtmplfidfckkmhaaQZx2
import Derived.Test.YtmplfidfckkmhaaQZx3
import Derived.Test.YtmplfidfckkmhaaQZx8
import Derived.Test.YtmplfidfckkmhaaQZx10
import Derived.Test.YtmplfidfckkmhaaQZx12
import Derived.Test.YtmplfidfckkmhaaQZx13
import Derived.Test.YtmplfidfckkmhaaQZx14
import Derived.Test.YtmplfidfckkmhaaQZx27
namespace Go.Proofs.Ytmplfidfckkmhaa.QZ
open Go.RowKit Go.Proofs.YtmplfidfckkmhaaW.PrintWords Go.Proofs.YtmplfidfckkmhaaW.PrintLast Go.Proofs.YtmplfidfckkmhaaW.PrintMore Go.Proofs.Ytmplfidfckkmhaa.Arr
attribute [local go_sem] plw_guardT plw_eqlT max2_int min2_int max_two min_two max_three min_three max_four min_four   -- for this text's walks alone
set_option linter.unusedVariables false
set_option linter.unusedSimpArgs false

/-! ### laws_FnSpansCut: function 13 -/
mutual
def laws_FnSpansCut.j0 : Nat → List (S29) → List (S29) → Bool → Int → Int → Option (Bool)
  | 0, _, _, _, _, _ => none
  | k + 1, x3, x5, x28, x405000, x405001 => if x28 = true then (some false) else ((spec_SpansOk.f k x3).bind fun t413 => (if t413 = true then ((spec_SpanOk.f x405000 x405001).bind fun t414 => (laws_FnSpansCut.j1 k x3 x5 (!t414) x405000 x405001)) else (laws_FnSpansCut.j1 k x3 x5 true x405000 x405001)))
def laws_FnSpansCut.j1 : Nat → List (S29) → List (S29) → Bool → Int → Int → Option (Bool)
  | 0, _, _, _, _, _ => none
  | k + 1, x3, x5, x36, x405000, x405001 => if x36 = true then (some ((x5.length : Int) == 0)) else (laws_FnSpansCut.l0 k x3 x5 0 x405000 x405001)
def laws_FnSpansCut.l0 : Nat → List (S29) → List (S29) → Int → Int → Int → Option (Bool)
  | 0, _, _, _, _, _ => none
  | k + 1, x3, x5, x6, x405000, x405001 => if x6 < 48 then (if (x5.length : Int) > 0 then ((laws_wpIn.f k x5 x6).bind fun t420 => ((laws_wpIn.f k x3 x6).bind fun t421 => (if t421 = true then (if x6 < x405000 then (if (t420 != true) = true then (some false) else (laws_FnSpansCut.l0 k x3 x5 (wrap64 (x6 + 1)) x405000 x405001)) else (if (t420 != (decide (x6 ≥ x405001))) = true then (some false) else (laws_FnSpansCut.l0 k x3 x5 (wrap64 (x6 + 1)) x405000 x405001))) else (if (t420 != false) = true then (some false) else (laws_FnSpansCut.l0 k x3 x5 (wrap64 (x6 + 1)) x405000 x405001))))) else (laws_FnSpansCut.l0 k x3 x5 (wrap64 (x6 + 1)) x405000 x405001)) else ((impl_SpansMeet.f k x5 x405000 x405001).bind fun t415 => (if (t415.length : Int) = 0 then ((impl_SpansMany.f k x5).bind fun t418 => ((impl_SpansMany.f k x3).bind fun t419 => (some (decide (t418 ≤ t419))))) else (some false)))
end
def laws_FnSpansCut.f (k : Nat) (l0 : List Int) : Option (Bool) := if (l0.length : Int) > 1048576 then (some true) else ((spec_DrawSpansCut.f k l0).bind fun bt399 => ((impl_SpansCut.f k bt399.1 bt399.2.1 bt399.2.2).bind fun t405 => ((spec_SpansCut.f k bt399.1 bt399.2.1 bt399.2.2).bind fun t408 => ((laws_wpSpans.f k t405 t408).bind fun t411 => (if t411 = true then ((impl_SpansOk.f k t405).bind fun t412 => (laws_FnSpansCut.j0 k bt399.1 t405 (!t412) bt399.2.1 bt399.2.2)) else (laws_FnSpansCut.j0 k bt399.1 t405 true bt399.2.1 bt399.2.2))))))
theorem laws_FnSpansCut.mono_l : ∀ k, (∀ y0 y1 y2 y3 y4, LeO (laws_FnSpansCut.j0 k y0 y1 y2 y3 y4) (laws_FnSpansCut.j0 (k + 1) y0 y1 y2 y3 y4)) ∧ (∀ y0 y1 y2 y3 y4, LeO (laws_FnSpansCut.j1 k y0 y1 y2 y3 y4) (laws_FnSpansCut.j1 (k + 1) y0 y1 y2 y3 y4)) ∧ (∀ y0 y1 y2 y3 y4, LeO (laws_FnSpansCut.l0 k y0 y1 y2 y3 y4) (laws_FnSpansCut.l0 (k + 1) y0 y1 y2 y3 y4))
  | 0 => ⟨fun _ _ _ _ _ r h => by simp [laws_FnSpansCut.j0] at h, fun _ _ _ _ _ r h => by simp [laws_FnSpansCut.j1] at h, fun _ _ _ _ _ r h => by simp [laws_FnSpansCut.l0] at h⟩
  | k + 1 => by
    obtain ⟨ih0, ih1, ih2⟩ := laws_FnSpansCut.mono_l k
    refine ⟨?_, ?_, ?_⟩
    · intro y0 y1 y2 y3 y4
      unfold laws_FnSpansCut.j0
      repeat' first
      | (with_reducible exact ih0 _ _ _ _ _)
      | (with_reducible exact ih1 _ _ _ _ _)
      | (with_reducible exact ih2 _ _ _ _ _)
      | (with_reducible exact impl_SpansCut.mono _ _ _ _)
      | (with_reducible exact impl_SpansMany.mono _ _)
      | (with_reducible exact impl_SpansMeet.mono _ _ _ _)
      | (with_reducible exact impl_SpansOk.mono _ _)
      | (with_reducible exact laws_wpIn.mono _ _ _)
      | (with_reducible exact laws_wpSpans.mono _ _ _)
      | (with_reducible exact spec_DrawSpansCut.mono _ _)
      | (with_reducible exact spec_SpansCut.mono _ _ _ _)
      | (with_reducible exact spec_SpansOk.mono _ _)
      | (with_reducible exact LeO.refl _)
      | (with_reducible exact LeO.none _)
      | (with_reducible refine LeO.ite ?_ ?_)
      | (with_reducible refine LeO.bind ?_ (fun _ => ?_))
      | exact ih0 _ _ _ _ _
      | exact ih1 _ _ _ _ _
      | exact ih2 _ _ _ _ _
      | exact impl_SpansCut.mono _ _ _ _
      | exact impl_SpansMany.mono _ _
      | exact impl_SpansMeet.mono _ _ _ _
      | exact impl_SpansOk.mono _ _
      | exact laws_wpIn.mono _ _ _
      | exact laws_wpSpans.mono _ _ _
      | exact spec_DrawSpansCut.mono _ _
      | exact spec_SpansCut.mono _ _ _ _
      | exact spec_SpansOk.mono _ _
      | exact LeO.none _
      | refine LeO.ite ?_ ?_
      | refine LeO.bind ?_ (fun _ => ?_)
    · intro y0 y1 y2 y3 y4
      unfold laws_FnSpansCut.j1
      repeat' first
      | (with_reducible exact ih0 _ _ _ _ _)
      | (with_reducible exact ih1 _ _ _ _ _)
      | (with_reducible exact ih2 _ _ _ _ _)
      | (with_reducible exact impl_SpansCut.mono _ _ _ _)
      | (with_reducible exact impl_SpansMany.mono _ _)
      | (with_reducible exact impl_SpansMeet.mono _ _ _ _)
      | (with_reducible exact impl_SpansOk.mono _ _)
      | (with_reducible exact laws_wpIn.mono _ _ _)
      | (with_reducible exact laws_wpSpans.mono _ _ _)
      | (with_reducible exact spec_DrawSpansCut.mono _ _)
      | (with_reducible exact spec_SpansCut.mono _ _ _ _)
      | (with_reducible exact spec_SpansOk.mono _ _)
      | (with_reducible exact LeO.refl _)
      | (with_reducible exact LeO.none _)
      | (with_reducible refine LeO.ite ?_ ?_)
      | (with_reducible refine LeO.bind ?_ (fun _ => ?_))
      | exact ih0 _ _ _ _ _
      | exact ih1 _ _ _ _ _
      | exact ih2 _ _ _ _ _
      | exact impl_SpansCut.mono _ _ _ _
      | exact impl_SpansMany.mono _ _
      | exact impl_SpansMeet.mono _ _ _ _
      | exact impl_SpansOk.mono _ _
      | exact laws_wpIn.mono _ _ _
      | exact laws_wpSpans.mono _ _ _
      | exact spec_DrawSpansCut.mono _ _
      | exact spec_SpansCut.mono _ _ _ _
      | exact spec_SpansOk.mono _ _
      | exact LeO.none _
      | refine LeO.ite ?_ ?_
      | refine LeO.bind ?_ (fun _ => ?_)
    · intro y0 y1 y2 y3 y4
      unfold laws_FnSpansCut.l0
      repeat' first
      | (with_reducible exact ih0 _ _ _ _ _)
      | (with_reducible exact ih1 _ _ _ _ _)
      | (with_reducible exact ih2 _ _ _ _ _)
      | (with_reducible exact impl_SpansCut.mono _ _ _ _)
      | (with_reducible exact impl_SpansMany.mono _ _)
      | (with_reducible exact impl_SpansMeet.mono _ _ _ _)
      | (with_reducible exact impl_SpansOk.mono _ _)
      | (with_reducible exact laws_wpIn.mono _ _ _)
      | (with_reducible exact laws_wpSpans.mono _ _ _)
      | (with_reducible exact spec_DrawSpansCut.mono _ _)
      | (with_reducible exact spec_SpansCut.mono _ _ _ _)
      | (with_reducible exact spec_SpansOk.mono _ _)
      | (with_reducible exact LeO.refl _)
      | (with_reducible exact LeO.none _)
      | (with_reducible refine LeO.ite ?_ ?_)
      | (with_reducible refine LeO.bind ?_ (fun _ => ?_))
      | exact ih0 _ _ _ _ _
      | exact ih1 _ _ _ _ _
      | exact ih2 _ _ _ _ _
      | exact impl_SpansCut.mono _ _ _ _
      | exact impl_SpansMany.mono _ _
      | exact impl_SpansMeet.mono _ _ _ _
      | exact impl_SpansOk.mono _ _
      | exact laws_wpIn.mono _ _ _
      | exact laws_wpSpans.mono _ _ _
      | exact spec_DrawSpansCut.mono _ _
      | exact spec_SpansCut.mono _ _ _ _
      | exact spec_SpansOk.mono _ _
      | exact LeO.none _
      | refine LeO.ite ?_ ?_
      | refine LeO.bind ?_ (fun _ => ?_)
theorem laws_FnSpansCut.mono : ∀ a0 k, LeO (laws_FnSpansCut.f k a0) (laws_FnSpansCut.f (k + 1) a0) := by
  intro a0 k
  obtain ⟨ih0, ih1, ih2⟩ := laws_FnSpansCut.mono_l k
  unfold laws_FnSpansCut.f
  repeat' first
      | (with_reducible exact ih0 _ _ _ _ _)
      | (with_reducible exact ih1 _ _ _ _ _)
      | (with_reducible exact ih2 _ _ _ _ _)
      | (with_reducible exact impl_SpansCut.mono _ _ _ _)
      | (with_reducible exact impl_SpansMany.mono _ _)
      | (with_reducible exact impl_SpansMeet.mono _ _ _ _)
      | (with_reducible exact impl_SpansOk.mono _ _)
      | (with_reducible exact laws_wpIn.mono _ _ _)
      | (with_reducible exact laws_wpSpans.mono _ _ _)
      | (with_reducible exact spec_DrawSpansCut.mono _ _)
      | (with_reducible exact spec_SpansCut.mono _ _ _ _)
      | (with_reducible exact spec_SpansOk.mono _ _)
      | (with_reducible exact LeO.refl _)
      | (with_reducible exact LeO.none _)
      | (with_reducible refine LeO.ite ?_ ?_)
      | (with_reducible refine LeO.bind ?_ (fun _ => ?_))
      | exact ih0 _ _ _ _ _
      | exact ih1 _ _ _ _ _
      | exact ih2 _ _ _ _ _
      | exact impl_SpansCut.mono _ _ _ _
      | exact impl_SpansMany.mono _ _
      | exact impl_SpansMeet.mono _ _ _ _
      | exact impl_SpansOk.mono _ _
      | exact laws_wpIn.mono _ _ _
      | exact laws_wpSpans.mono _ _ _
      | exact spec_DrawSpansCut.mono _ _
      | exact spec_SpansCut.mono _ _ _ _
      | exact spec_SpansOk.mono _ _
      | exact LeO.none _
      | refine LeO.ite ?_ ?_
      | refine LeO.bind ?_ (fun _ => ?_)
set_option maxHeartbeats 8000000 in
set_option maxRecDepth 100000 in
theorem laws_FnSpansCut.calls (k : Nat) (A0 : Option Addr) (c0 : Nat) (l0 : List Int) (r : Bool) (w : World) (hr0 : Kd.C (Kd.int .u8) w A0 l0.length l0) (hc0 : l0.length ≤ c0) (h : laws_FnSpansCut.f k l0 = some r) :
    Calls Try.prog 13 #[.slice A0 l0.length c0] w fun e w' => e = .returned (.bool r) ∧ Below w.heap.size w w' := by
  have hu29 := Try.underlying29
  have HR0 := Aside0.mk hr0
  have HC0 := Aside0.mk hc0
  clear hr0 hc0
  have HB := Aside0.mk (Below.refl w.heap.size w)
  have H : (if (l0.length : Int) > 1048576 then (some true) else ((spec_DrawSpansCut.f k l0).bind fun bt399 => ((impl_SpansCut.f k bt399.1 bt399.2.1 bt399.2.2).bind fun t405 => ((spec_SpansCut.f k bt399.1 bt399.2.1 bt399.2.2).bind fun t408 => ((laws_wpSpans.f k t405 t408).bind fun t411 => (if t411 = true then ((impl_SpansOk.f k t405).bind fun t412 => (laws_FnSpansCut.j0 k bt399.1 t405 (!t412) bt399.2.1 bt399.2.2)) else (laws_FnSpansCut.j0 k bt399.1 t405 true bt399.2.1 bt399.2.2))))))) = some r := h
  clear h
  by_cases c2 : (l0.length : Int) > 1048576
  · rw [if_pos c2] at H
    have c2b0 : decide (1048576 < (l0.length : Int)) = true := decide_eq_true c2
    have c2b1 : decide (1048576 < l0.length) = true := decide_eq_true (by omega)
    clear c2
    obtain rfl := Option.some.inj H
    go_enter Try.func13, Try.ntmps13
    go_wp2
    go_ret
    exact ⟨by first | rfl | (simp [errW_none, errW_some] <;> rfl) | (simp [*, errW_none, errW_some] <;> rfl), by repeat (first | (with_reducible first | exact HB.out | apply below_alloc | apply pw_below_drewN | apply below_drew1) | exact HB.out)⟩
  · rw [if_neg c2] at H
    have c2b0 : decide (1048576 < (l0.length : Int)) = false := decide_eq_false c2
    have c2b1 : decide (1048576 < l0.length) = false := decide_eq_false (by omega)
    clear c2
    replace H := Option.bind_eq_some_iff.mp H
    obtain ⟨⟨t399, t402, t403⟩, A30, H⟩ := H
    replace H : ((impl_SpansCut.f k t399 t402 t403).bind fun t405 => ((spec_SpansCut.f k t399 t402 t403).bind fun t408 => ((laws_wpSpans.f k t405 t408).bind fun t411 => (if t411 = true then ((impl_SpansOk.f k t405).bind fun t412 => (laws_FnSpansCut.j0 k t399 t405 (!t412) t402 t403)) else (laws_FnSpansCut.j0 k t399 t405 true t402 t403))))) = some r := H
    have A3 := Aside0.mk A30
    clear A30
    replace H := Option.bind_eq_some_iff.mp H
    obtain ⟨t405, A40, H⟩ := H
    replace H : ((spec_SpansCut.f k t399 t402 t403).bind fun t408 => ((laws_wpSpans.f k t405 t408).bind fun t411 => (if t411 = true then ((impl_SpansOk.f k t405).bind fun t412 => (laws_FnSpansCut.j0 k t399 t405 (!t412) t402 t403)) else (laws_FnSpansCut.j0 k t399 t405 true t402 t403)))) = some r := H
    have A4 := Aside0.mk A40
    clear A40
    have HC5 := Aside0.mk H
    clear H
    go_enter Try.func13, Try.ntmps13
    go_upto_region 5 with (first | ((with_reducible refine gate_callee (f := 34) rfl ?_); refine goesL_ (some 12) rfl rfl Try.func34 (by kernel_rfl) rfl #[.slice A0 l0.length c0] rfl (by (try simp only [List.map_toArray, List.map_cons, List.map_nil]); first | done | rfl | (simp only [List.length_drop, List.length_take]; rfl)) ?_; (with_reducible refine (spec_DrawSpansCut.calls k _ _ l0 t399 t402 t403 _ ?side1 ?side2 A3.out).mono ?_); (case side1 => repeat (first | exact HR0.out | (with_reducible refine Kd.C_alloc ?_ _) | (with_reducible refine Kd.C_drewN ?_ _) | (with_reducible refine Kd.C_drew ?_))); (case side2 => exact HC0.out); rintro e w6 ⟨v400, rfl, ho0, hb⟩; refine ⟨_, rfl, ?_⟩; have n0_ := Aside0.mk (Kd.R_lower ho0 (below_size (by repeat (first | (with_reducible first | exact HB.out | apply below_alloc | apply pw_below_drewN | apply below_drew1) | exact HB.out)))); have n1_ := Aside0.mk (below_step (by repeat (first | (with_reducible first | exact HB.out | apply below_alloc | apply pw_below_drewN | apply below_drew1) | exact HB.out)) hb); clear HB; have HO401 := n0_; have HB := n1_; clear n0_ n1_; (try clear hb); (try clear hb2); (try clear hk); (try clear hi); (try clear ho0)) | ((with_reducible refine gate_dst (N := 4) rfl ?_); refine box_event ?hg (N := 4) ?hd (cs := #[.int .i64 0, .int .i64 0]) (t := 29) ?hr ?_; (case hd => rfl); (case hg => rfl); (case hr => first | (go_simp; done) | (go_simp; rfl)); intro gb404 hg w7 hbox hb; have n0_ := Aside0.mk (Kd.R_below (Kd.R_elderB (by (with_reducible repeat (first | apply Kd.R_alloc | apply Kd.R_drewN | apply Kd.R_drew)); exact HO401.out) gb404 (Nat.le_of_eq hg.symm)) hb); have n1_ := Aside0.mk (below_step (by repeat (first | (with_reducible first | exact HB.out | apply below_alloc | apply pw_below_drewN | apply below_drew1) | exact HB.out)) hb); have n2_ := Aside0.mk (hbox); have n3_ := Aside0.mk ((by rw [hg]; exact (below_size (by repeat (first | (with_reducible first | exact HB.out | apply below_alloc | apply pw_below_drewN | apply below_drew1) | exact HB.out))) : w.heap.size ≤ gb404)); have n4_ := Aside0.mk ((by rw [hg]; exact (below_size (by repeat (first | (with_reducible first | exact HB.out | apply below_alloc | apply pw_below_drewN | apply below_drew1) | exact HB.out))) : w.heap.size ≤ gb404)); clear HO401; clear HB; have HO401 := n0_; have HB := n1_; have BK404 := n2_; have GW404 := n3_; have GE404 := n4_; clear n0_ n1_ n2_ n3_ n4_; clear hb hbox hg; have hcz8_0 : w7.cell? ⟨gb404, 0, none⟩ = some (.int .i64 0) := (blk_cell BK404.out 0).trans rfl; have hcz8_1 : w7.cell? ⟨gb404, 1, none⟩ = some (.int .i64 0) := (blk_cell BK404.out 1).trans rfl; have hfz8_0 := blk_frozen BK404.out 0; have hfz8_1 := blk_frozen BK404.out 1; obtain ⟨Ao9, co9, eo9⟩ := Kd.R_slice HO401.out; subst eo9) | ((with_reducible refine gate_callee (f := 28) rfl ?_); refine goesL_ (some 17) rfl rfl Try.func28 (by kernel_rfl) rfl #[.slice Ao9 t399.length co9, .agg #[.int .i64 t402, .int .i64 t403]] rfl (by (try simp only [List.map_toArray, List.map_cons, List.map_nil]); first | done | rfl | (simp only [List.length_drop, List.length_take]; rfl)) ?_; (with_reducible refine (impl_SpansCut.calls k _ _ t399 t402 t403 t405 _ ?side1 ?side2 A4.out).mono ?_); (case side1 => refine (Kd.R_reads' (e := 29) (base := w.heap.size) (ok := fun k_ => (True ∧ k_ ≠ gb404)) (n := t399.length) (c := co9) ?_).2.2; exact (by (with_reducible repeat (first | apply Kd.R_alloc | apply Kd.R_drewN | apply Kd.R_drew)); exact (Kd.R_mono (Kd.R_far (p := ⟨gb404, 1, none⟩) (Kd.R_far (p := ⟨gb404, 0, none⟩) (Kd.R_mono HO401.out (fun k_ hk => (⟨hk, hk.2⟩ : _ ∧ k_ ≠ gb404))) (fun _ hk => hk.2) (.int .i64 t402)) (fun _ hk => hk.2) (.int .i64 t403)) (fun _ h_ => h_.1)))); (case side2 => exact (Kd.R_reads' HO401.out).2.1); rintro e w10 ⟨v406, rfl, ho0, hb⟩; refine ⟨_, rfl, ?_⟩; have n0_ := Aside0.mk (Kd.R_elder' (by (with_reducible repeat (first | apply Kd.R_alloc | apply Kd.R_drewN | apply Kd.R_drew)); exact (Kd.R_mono (Kd.R_far (p := ⟨gb404, 1, none⟩) (Kd.R_far (p := ⟨gb404, 0, none⟩) (Kd.R_mono HO401.out (fun k_ hk => (⟨hk, hk.2⟩ : _ ∧ k_ ≠ gb404))) (fun _ hk => hk.2) (.int .i64 t402)) (fun _ hk => hk.2) (.int .i64 t403)) (fun _ h_ => h_.1))) (Kd.R_base ho0) hb); have n1_ := Aside0.mk (Kd.R_lower (Kd.R_newB (Kd.R_new' ho0 (Kd.R_lt (by (with_reducible repeat (first | apply Kd.R_alloc | apply Kd.R_drewN | apply Kd.R_drew)); exact (Kd.R_mono (Kd.R_far (p := ⟨gb404, 1, none⟩) (Kd.R_far (p := ⟨gb404, 0, none⟩) (Kd.R_mono HO401.out (fun k_ hk => (⟨hk, hk.2⟩ : _ ∧ k_ ≠ gb404))) (fun _ hk => hk.2) (.int .i64 t402)) (fun _ hk => hk.2) (.int .i64 t403)) (fun _ h_ => h_.1))))) (g := gb404) (o := .cells #[.int .i64 t402, .int .i64 t403] 29 (0, 0)) (by (with_reducible repeat (first | refine blk_drewN ?_ _ | refine blk_drew ?_ | refine blk_alloc ?_ _)); refine blk_put (cs := #[.int .i64 t402, .int .i64 0]) ?_ 1 _ rfl; (with_reducible repeat (first | refine blk_drewN ?_ _ | refine blk_drew ?_ | refine blk_alloc ?_ _)); refine blk_put (cs := #[.int .i64 0, .int .i64 0]) ?_ 0 _ rfl; (with_reducible repeat (first | refine blk_drewN ?_ _ | refine blk_drew ?_ | refine blk_alloc ?_ _)); exact BK404.out)) (below_size (by repeat (first | (with_reducible first | exact HB.out | apply below_alloc | apply pw_below_drewN | apply below_drew1 | refine below_set ?_ GE404.out) | exact HB.out)))); have n2_ := Aside0.mk (blk_below (g := gb404) (o := .cells #[.int .i64 t402, .int .i64 t403] 29 (0, 0)) (by (with_reducible repeat (first | refine blk_drewN ?_ _ | refine blk_drew ?_ | refine blk_alloc ?_ _)); refine blk_put (cs := #[.int .i64 t402, .int .i64 0]) ?_ 1 _ rfl; (with_reducible repeat (first | refine blk_drewN ?_ _ | refine blk_drew ?_ | refine blk_alloc ?_ _)); refine blk_put (cs := #[.int .i64 0, .int .i64 0]) ?_ 0 _ rfl; (with_reducible repeat (first | refine blk_drewN ?_ _ | refine blk_drew ?_ | refine blk_alloc ?_ _)); exact BK404.out) hb); have n3_ := Aside0.mk (below_step (by repeat (first | (with_reducible first | exact HB.out | apply below_alloc | apply pw_below_drewN | apply below_drew1 | refine below_set ?_ GE404.out) | exact HB.out)) hb); clear HO401; clear BK404; clear HB; have HO401 := n0_; have HO407 := n1_; have BK404 := n2_; have HB := n3_; clear n0_ n1_ n2_ n3_; (try clear hb); (try clear hb2); (try clear hk); (try clear hi); (try clear ho0)))
    (try simp only [Act.put, List.setIfInBounds_toArray, List.set_cons_zero, List.set_cons_succ])
    go_cut [28] (fun v28 wc => ∃ (kq : Nat) (x28_4 : Bool), v28 = .bool x28_4 ∧ Aside0 (laws_FnSpansCut.j0 kq t399 t405 x28_4 t402 t403 = some r) ∧ Aside0 (kq ≤ k) ∧ Aside0 (Kd.R k29 29 wc w.heap.size (fun k_ => some k_ ≠ (v406 : Value).ownBlock ∧ k_ ≠ gb404) (.slice Ao9 t399.length co9) t399) ∧ Aside0 (Kd.R k29 29 wc w.heap.size (fun k_ => some k_ ≠ ((.slice Ao9 t399.length co9) : Value).ownBlock ∧ k_ ≠ gb404) v406 t405) ∧ Aside0 (wc.heap[gb404]? = some (.cells #[.int .i64 t402, .int .i64 t403] 29 (0, 0))) ∧ Aside0 (Below w.heap.size w wc))
    case first =>
      have H := HC5.out
      clear HC5
      replace H := Option.bind_eq_some_iff.mp H
      obtain ⟨t408, A110, H⟩ := H
      replace H : ((laws_wpSpans.f k t405 t408).bind fun t411 => (if t411 = true then ((impl_SpansOk.f k t405).bind fun t412 => (laws_FnSpansCut.j0 k t399 t405 (!t412) t402 t403)) else (laws_FnSpansCut.j0 k t399 t405 true t402 t403))) = some r := H
      have A11 := Aside0.mk A110
      clear A110
      replace H := Option.bind_eq_some_iff.mp H
      obtain ⟨t411, A120, H⟩ := H
      replace H : (if t411 = true then ((impl_SpansOk.f k t405).bind fun t412 => (laws_FnSpansCut.j0 k t399 t405 (!t412) t402 t403)) else (laws_FnSpansCut.j0 k t399 t405 true t402 t403)) = some r := H
      have A12 := Aside0.mk A120
      clear A120
      by_cases c13 : t411 = true
      · subst c13
        have H1 : ((impl_SpansOk.f k t405).bind fun t412 => (laws_FnSpansCut.j0 k t399 t405 (!t412) t402 t403)) = some r := by rw [if_pos rfl] at H; exact H
        clear H
        have H := H1
        clear H1
        replace H := Option.bind_eq_some_iff.mp H
        obtain ⟨t412, A140, H⟩ := H
        replace H : (laws_FnSpansCut.j0 k t399 t405 (!t412) t402 t403) = some r := H
        have A14 := Aside0.mk A140
        clear A140
        have H' := Aside0.mk H
        clear H
        have hcz15_0 : w10.cell? ⟨gb404, 0, none⟩ = some (.int .i64 t402) := (blk_cell BK404.out 0).trans rfl
        have hcz15_1 : w10.cell? ⟨gb404, 1, none⟩ = some (.int .i64 t403) := (blk_cell BK404.out 1).trans rfl
        have hfz15_0 := blk_frozen BK404.out 0
        have hfz15_1 := blk_frozen BK404.out 1
        go_wp2_with (first | ((with_reducible refine gate_callee (f := 27) rfl ?_); refine goesL_ (some 21) rfl rfl Try.func27 (by kernel_rfl) rfl #[.slice Ao9 t399.length co9, .agg #[.int .i64 t402, .int .i64 t403]] rfl (by (try simp only [List.map_toArray, List.map_cons, List.map_nil]); first | done | rfl | (simp only [List.length_drop, List.length_take]; rfl)) ?_; (with_reducible refine (spec_SpansCut.calls k _ _ t399 t402 t403 t408 _ ?side1 ?side2 A11.out).mono ?_); (case side1 => repeat (first | exact (Kd.R_reads' HO401.out).2.2 | (with_reducible refine Kd.C_alloc ?_ _) | (with_reducible refine Kd.C_drewN ?_ _) | (with_reducible refine Kd.C_drew ?_))); (case side2 => exact (Kd.R_reads' HO401.out).2.1); rintro e w16 ⟨v409, rfl, ho0, hb⟩; refine ⟨_, rfl, ?_⟩; have n0_ := Aside0.mk (Kd.R_elder' (by (with_reducible repeat (first | apply Kd.R_alloc | apply Kd.R_drewN | apply Kd.R_drew)); exact HO401.out) (Kd.R_base ho0) hb); have n1_ := Aside0.mk (Kd.R_elder' (by (with_reducible repeat (first | apply Kd.R_alloc | apply Kd.R_drewN | apply Kd.R_drew)); exact HO407.out) (Kd.R_base ho0) hb); have n2_ := Aside0.mk (Kd.R_lower (Kd.R_newB (Kd.R_new' (Kd.R_new' ho0 (Kd.R_lt (by (with_reducible repeat (first | apply Kd.R_alloc | apply Kd.R_drewN | apply Kd.R_drew)); exact HO401.out))) (Kd.R_lt (by (with_reducible repeat (first | apply Kd.R_alloc | apply Kd.R_drewN | apply Kd.R_drew)); exact HO407.out))) (g := gb404) (o := .cells #[.int .i64 t402, .int .i64 t403] 29 (0, 0)) (by (with_reducible repeat (first | refine blk_drewN ?_ _ | refine blk_drew ?_ | refine blk_alloc ?_ _)); exact BK404.out)) (below_size (by repeat (first | (with_reducible first | exact HB.out | apply below_alloc | apply pw_below_drewN | apply below_drew1 | refine below_set ?_ GE404.out) | exact HB.out)))); have n3_ := Aside0.mk (blk_below (g := gb404) (o := .cells #[.int .i64 t402, .int .i64 t403] 29 (0, 0)) (by (with_reducible repeat (first | refine blk_drewN ?_ _ | refine blk_drew ?_ | refine blk_alloc ?_ _)); exact BK404.out) hb); have n4_ := Aside0.mk (below_step (by repeat (first | (with_reducible first | exact HB.out | apply below_alloc | apply pw_below_drewN | apply below_drew1 | refine below_set ?_ GE404.out) | exact HB.out)) hb); clear HO401; clear HO407; clear BK404; clear HB; have HO401 := n0_; have HO407 := n1_; have HO410 := n2_; have BK404 := n3_; have HB := n4_; clear n0_ n1_ n2_ n3_ n4_; (try clear hb); (try clear hb2); (try clear hk); (try clear hi); (try clear ho0); obtain ⟨Ao17, co17, eo17⟩ := Kd.R_slice HO407.out; subst eo17; obtain ⟨Ao18, co18, eo18⟩ := Kd.R_slice HO410.out; subst eo18) | ((with_reducible refine gate_callee (f := 32) rfl ?_); refine goesL_ (some 22) rfl rfl Try.func32 (by kernel_rfl) rfl #[.slice Ao17 t405.length co17, .slice Ao18 t408.length co18] rfl (by (try simp only [List.map_toArray, List.map_cons, List.map_nil]); first | done | rfl | (simp only [List.length_drop, List.length_take]; rfl)) ?_; (with_reducible refine (laws_wpSpans.calls k _ _ t405 _ _ t408 true _ ?side1 ?side2 ?side3 ?side4 A12.out).mono ?_); (case side1 => repeat (first | exact (Kd.R_reads' HO407.out).2.2 | (with_reducible refine Kd.C_alloc ?_ _) | (with_reducible refine Kd.C_drewN ?_ _) | (with_reducible refine Kd.C_drew ?_))); (case side2 => exact (Kd.R_reads' HO407.out).2.1); (case side3 => repeat (first | exact (Kd.R_reads' HO410.out).2.2 | (with_reducible refine Kd.C_alloc ?_ _) | (with_reducible refine Kd.C_drewN ?_ _) | (with_reducible refine Kd.C_drew ?_))); (case side4 => exact (Kd.R_reads' HO410.out).2.1); rintro e w' ⟨rfl, ⟨nd, rfl⟩⟩; refine ⟨_, rfl, ?_⟩) | (go_at_call 30; (with_reducible refine (impl_SpansOk.calls k _ _ t405 t412 _ ?side1 ?side2 A14.out).mono ?_); (case side1 => repeat (first | exact (Kd.R_reads' HO407.out).2.2 | (with_reducible refine Kd.C_alloc ?_ _) | (with_reducible refine Kd.C_drewN ?_ _) | (with_reducible refine Kd.C_drew ?_))); (case side2 => exact (Kd.R_reads' HO407.out).2.1); rintro e w19 ⟨rfl, hb⟩; have n0_ := Aside0.mk (Kd.R_below (by (with_reducible repeat (first | apply Kd.R_alloc | apply Kd.R_drewN | apply Kd.R_drew)); exact HO401.out) hb); have n1_ := Aside0.mk (Kd.R_below (by (with_reducible repeat (first | apply Kd.R_alloc | apply Kd.R_drewN | apply Kd.R_drew)); exact HO407.out) hb); have n2_ := Aside0.mk (Kd.R_below (by (with_reducible repeat (first | apply Kd.R_alloc | apply Kd.R_drewN | apply Kd.R_drew)); exact HO410.out) hb); have n3_ := Aside0.mk (blk_below (g := gb404) (o := .cells #[.int .i64 t402, .int .i64 t403] 29 (0, 0)) (by (with_reducible repeat (first | refine blk_drewN ?_ _ | refine blk_drew ?_ | refine blk_alloc ?_ _)); exact BK404.out) hb); have n4_ := Aside0.mk (below_step (by repeat (first | (with_reducible first | exact HB.out | apply below_alloc | apply pw_below_drewN | apply below_drew1 | refine below_set ?_ GE404.out) | exact HB.out)) hb); clear HO401; clear HO407; clear HO410; clear BK404; clear HB; have HO401 := n0_; have HO407 := n1_; have HO410 := n2_; have BK404 := n3_; have HB := n4_; clear n0_ n1_ n2_ n3_ n4_; (try clear hb); (try clear hb2); (try clear hk); (try clear hi)))
        go_meet
        case rel => exact ⟨_, (!t412), (by first | rfl | (simp; done) | (simp [*]; done)), H', ⟨by first | omega | exact Nat.le_refl _⟩, ⟨by (with_reducible repeat (first | apply Kd.R_alloc | apply Kd.R_drewN | apply Kd.R_drew)); exact Kd.R_mono HO401.out (fun _ hk => by first | exact ⟨hk.1.2, hk.1.1.2⟩ | exact hk.2 | exact hk.1 | exact hk | exact hk.1.2 | exact hk.2.2 | exact hk.2.1 | exact hk.1.1 | simp [hk])⟩, ⟨by (with_reducible repeat (first | apply Kd.R_alloc | apply Kd.R_drewN | apply Kd.R_drew)); exact Kd.R_mono HO407.out (fun _ hk => by first | exact ⟨hk.1.1.2, hk.1.2⟩ | exact hk.2 | exact hk.1 | exact hk | exact hk.1.2 | exact hk.2.2 | exact hk.2.1 | exact hk.1.1 | simp [hk])⟩, ⟨by (with_reducible repeat (first | refine blk_drewN ?_ _ | refine blk_drew ?_ | refine blk_alloc ?_ _)); exact BK404.out⟩, ⟨by repeat (first | (with_reducible first | exact HB.out | apply below_alloc | apply pw_below_drewN | apply below_drew1 | refine below_set ?_ GE404.out) | exact HB.out)⟩⟩
      · replace c13 := Bool.eq_false_iff.mpr c13
        subst c13
        have H1 : (laws_FnSpansCut.j0 k t399 t405 true t402 t403) = some r := by rw [if_neg (show ¬ (false = true) by decide)] at H; exact H
        clear H
        have H := H1
        clear H1
        have H' := Aside0.mk H
        clear H
        have hcz20_0 : w10.cell? ⟨gb404, 0, none⟩ = some (.int .i64 t402) := (blk_cell BK404.out 0).trans rfl
        have hcz20_1 : w10.cell? ⟨gb404, 1, none⟩ = some (.int .i64 t403) := (blk_cell BK404.out 1).trans rfl
        have hfz20_0 := blk_frozen BK404.out 0
        have hfz20_1 := blk_frozen BK404.out 1
        go_wp2_with (first | ((with_reducible refine gate_callee (f := 27) rfl ?_); refine goesL_ (some 21) rfl rfl Try.func27 (by kernel_rfl) rfl #[.slice Ao9 t399.length co9, .agg #[.int .i64 t402, .int .i64 t403]] rfl (by (try simp only [List.map_toArray, List.map_cons, List.map_nil]); first | done | rfl | (simp only [List.length_drop, List.length_take]; rfl)) ?_; (with_reducible refine (spec_SpansCut.calls k _ _ t399 t402 t403 t408 _ ?side1 ?side2 A11.out).mono ?_); (case side1 => repeat (first | exact (Kd.R_reads' HO401.out).2.2 | (with_reducible refine Kd.C_alloc ?_ _) | (with_reducible refine Kd.C_drewN ?_ _) | (with_reducible refine Kd.C_drew ?_))); (case side2 => exact (Kd.R_reads' HO401.out).2.1); rintro e w21 ⟨v409, rfl, ho0, hb⟩; refine ⟨_, rfl, ?_⟩; have n0_ := Aside0.mk (Kd.R_elder' (by (with_reducible repeat (first | apply Kd.R_alloc | apply Kd.R_drewN | apply Kd.R_drew)); exact HO401.out) (Kd.R_base ho0) hb); have n1_ := Aside0.mk (Kd.R_elder' (by (with_reducible repeat (first | apply Kd.R_alloc | apply Kd.R_drewN | apply Kd.R_drew)); exact HO407.out) (Kd.R_base ho0) hb); have n2_ := Aside0.mk (Kd.R_lower (Kd.R_newB (Kd.R_new' (Kd.R_new' ho0 (Kd.R_lt (by (with_reducible repeat (first | apply Kd.R_alloc | apply Kd.R_drewN | apply Kd.R_drew)); exact HO401.out))) (Kd.R_lt (by (with_reducible repeat (first | apply Kd.R_alloc | apply Kd.R_drewN | apply Kd.R_drew)); exact HO407.out))) (g := gb404) (o := .cells #[.int .i64 t402, .int .i64 t403] 29 (0, 0)) (by (with_reducible repeat (first | refine blk_drewN ?_ _ | refine blk_drew ?_ | refine blk_alloc ?_ _)); exact BK404.out)) (below_size (by repeat (first | (with_reducible first | exact HB.out | apply below_alloc | apply pw_below_drewN | apply below_drew1 | refine below_set ?_ GE404.out) | exact HB.out)))); have n3_ := Aside0.mk (blk_below (g := gb404) (o := .cells #[.int .i64 t402, .int .i64 t403] 29 (0, 0)) (by (with_reducible repeat (first | refine blk_drewN ?_ _ | refine blk_drew ?_ | refine blk_alloc ?_ _)); exact BK404.out) hb); have n4_ := Aside0.mk (below_step (by repeat (first | (with_reducible first | exact HB.out | apply below_alloc | apply pw_below_drewN | apply below_drew1 | refine below_set ?_ GE404.out) | exact HB.out)) hb); clear HO401; clear HO407; clear BK404; clear HB; have HO401 := n0_; have HO407 := n1_; have HO410 := n2_; have BK404 := n3_; have HB := n4_; clear n0_ n1_ n2_ n3_ n4_; (try clear hb); (try clear hb2); (try clear hk); (try clear hi); (try clear ho0); obtain ⟨Ao22, co22, eo22⟩ := Kd.R_slice HO407.out; subst eo22; obtain ⟨Ao23, co23, eo23⟩ := Kd.R_slice HO410.out; subst eo23) | ((with_reducible refine gate_callee (f := 32) rfl ?_); refine goesL_ (some 22) rfl rfl Try.func32 (by kernel_rfl) rfl #[.slice Ao22 t405.length co22, .slice Ao23 t408.length co23] rfl (by (try simp only [List.map_toArray, List.map_cons, List.map_nil]); first | done | rfl | (simp only [List.length_drop, List.length_take]; rfl)) ?_; (with_reducible refine (laws_wpSpans.calls k _ _ t405 _ _ t408 false _ ?side1 ?side2 ?side3 ?side4 A12.out).mono ?_); (case side1 => repeat (first | exact (Kd.R_reads' HO407.out).2.2 | (with_reducible refine Kd.C_alloc ?_ _) | (with_reducible refine Kd.C_drewN ?_ _) | (with_reducible refine Kd.C_drew ?_))); (case side2 => exact (Kd.R_reads' HO407.out).2.1); (case side3 => repeat (first | exact (Kd.R_reads' HO410.out).2.2 | (with_reducible refine Kd.C_alloc ?_ _) | (with_reducible refine Kd.C_drewN ?_ _) | (with_reducible refine Kd.C_drew ?_))); (case side4 => exact (Kd.R_reads' HO410.out).2.1); rintro e w' ⟨rfl, ⟨nd, rfl⟩⟩; refine ⟨_, rfl, ?_⟩))
        go_meet
        case rel => exact ⟨_, (true), (by first | rfl | (simp; done) | (simp [*]; done)), H', ⟨by first | omega | exact Nat.le_refl _⟩, ⟨by (with_reducible repeat (first | apply Kd.R_alloc | apply Kd.R_drewN | apply Kd.R_drew)); exact Kd.R_mono HO401.out (fun _ hk => by first | exact ⟨hk.1.2, hk.1.1.2⟩ | exact hk.2 | exact hk.1 | exact hk | exact hk.1.2 | exact hk.2.2 | exact hk.2.1 | exact hk.1.1 | simp [hk])⟩, ⟨by (with_reducible repeat (first | apply Kd.R_alloc | apply Kd.R_drewN | apply Kd.R_drew)); exact Kd.R_mono HO407.out (fun _ hk => by first | exact ⟨hk.1.1.2, hk.1.2⟩ | exact hk.2 | exact hk.1 | exact hk | exact hk.1.2 | exact hk.2.2 | exact hk.2.1 | exact hk.1.1 | simp [hk])⟩, ⟨by (with_reducible repeat (first | refine blk_drewN ?_ _ | refine blk_drew ?_ | refine blk_alloc ?_ _)); exact BK404.out⟩, ⟨by repeat (first | (with_reducible first | exact HB.out | apply below_alloc | apply pw_below_drewN | apply below_drew1 | refine below_set ?_ GE404.out) | exact HB.out)⟩⟩
    case rest =>
      clear HC5
      try clear c1
      try clear c2
      try clear c2b0
      try clear c2b1
      try clear p2
      try clear c3
      try clear c13
      try clear hcz15_0
      try clear hcz15_1
      try clear hcz20_0
      try clear hcz20_1
      try clear hcz8_0
      try clear hcz8_1
      try clear hfz15_0
      try clear hfz15_1
      try clear hfz20_0
      try clear hfz20_1
      try clear hfz8_0
      try clear hfz8_1
      obtain ⟨kq, x28_4, rfl, HA, HJ4, HO_3, HO_5, BK404, HB⟩ := hcut
      cases kq with
      | zero => exact absurd HA.out (by simp [laws_FnSpansCut.j0])
      | succ kj4 =>
        have H := HA.out
        clear HA
        simp only [laws_FnSpansCut.j0] at H
        by_cases c24 : x28_4 = true
        · subst c24
          have H1 : (some false) = some r := by rw [if_pos rfl] at H; exact H
          clear H
          have H := H1
          clear H1
          obtain rfl := Option.some.inj H
          go_wp2
          go_ret
          exact ⟨by first | rfl | (simp [errW_none, errW_some] <;> rfl) | (simp [*, errW_none, errW_some] <;> rfl), by repeat (first | (with_reducible first | exact HB.out | apply below_alloc | apply pw_below_drewN | apply below_drew1 | refine below_set ?_ GE404.out) | exact HB.out)⟩
        · replace c24 := Bool.eq_false_iff.mpr c24
          subst c24
          have H1 : ((spec_SpansOk.f kj4 t399).bind fun t413 => (if t413 = true then ((spec_SpanOk.f t402 t403).bind fun t414 => (laws_FnSpansCut.j1 kj4 t399 t405 (!t414) t402 t403)) else (laws_FnSpansCut.j1 kj4 t399 t405 true t402 t403))) = some r := by rw [if_neg (show ¬ (false = true) by decide)] at H; exact H
          clear H
          have H := H1
          clear H1
          have HC25 := Aside0.mk H
          clear H
          go_upto_region 7 with (fail)
          go_cut [36] (fun v36 wc => ∃ (kq : Nat) (x36_24 : Bool), v36 = .bool x36_24 ∧ Aside0 (laws_FnSpansCut.j1 kq t399 t405 x36_24 t402 t403 = some r) ∧ Aside0 (kq ≤ kj4) ∧ Aside0 (Kd.R k29 29 wc w.heap.size (fun k_ => some k_ ≠ (v406 : Value).ownBlock ∧ k_ ≠ gb404) (.slice Ao9 t399.length co9) t399) ∧ Aside0 (Kd.R k29 29 wc w.heap.size (fun k_ => some k_ ≠ ((.slice Ao9 t399.length co9) : Value).ownBlock ∧ k_ ≠ gb404) v406 t405) ∧ Aside0 (wc.heap[gb404]? = some (.cells #[.int .i64 t402, .int .i64 t403] 29 (0, 0))) ∧ Aside0 (Below w.heap.size w wc))
          case first =>
            have H := HC25.out
            clear HC25
            replace H := Option.bind_eq_some_iff.mp H
            obtain ⟨t413, A260, H⟩ := H
            replace H : (if t413 = true then ((spec_SpanOk.f t402 t403).bind fun t414 => (laws_FnSpansCut.j1 kj4 t399 t405 (!t414) t402 t403)) else (laws_FnSpansCut.j1 kj4 t399 t405 true t402 t403)) = some r := H
            have A26 := Aside0.mk A260
            clear A260
            by_cases c27 : t413 = true
            · subst c27
              have H1 : ((spec_SpanOk.f t402 t403).bind fun t414 => (laws_FnSpansCut.j1 kj4 t399 t405 (!t414) t402 t403)) = some r := by rw [if_pos rfl] at H; exact H
              clear H
              have H := H1
              clear H1
              replace H := Option.bind_eq_some_iff.mp H
              obtain ⟨t414, A280, H⟩ := H
              replace H : (laws_FnSpansCut.j1 kj4 t399 t405 (!t414) t402 t403) = some r := H
              have A28 := Aside0.mk A280
              clear A280
              have H' := Aside0.mk H
              clear H
              go_wp2_with (first | ((with_reducible refine gate_callee (f := 31) rfl ?_); refine goesL_ (some 30) rfl rfl Try.func31 (by kernel_rfl) rfl #[.slice Ao9 t399.length co9] rfl (by (try simp only [List.map_toArray, List.map_cons, List.map_nil]); first | done | rfl | (simp only [List.length_drop, List.length_take]; rfl)) ?_; (with_reducible refine (spec_SpansOk.calls kj4 _ _ t399 true _ ?side1 ?side2 A26.out).mono ?_); (case side1 => repeat (first | exact (Kd.R_reads' HO_3.out).2.2 | (with_reducible refine Kd.C_alloc ?_ _) | (with_reducible refine Kd.C_drewN ?_ _) | (with_reducible refine Kd.C_drew ?_))); (case side2 => exact (Kd.R_reads' HO_3.out).2.1); rintro e w29 ⟨rfl, hb⟩; refine ⟨_, rfl, ?_⟩; have n0_ := Aside0.mk (Kd.R_below (by (with_reducible repeat (first | apply Kd.R_alloc | apply Kd.R_drewN | apply Kd.R_drew)); exact HO_3.out) hb); have n1_ := Aside0.mk (Kd.R_below (by (with_reducible repeat (first | apply Kd.R_alloc | apply Kd.R_drewN | apply Kd.R_drew)); exact HO_5.out) hb); have n2_ := Aside0.mk (blk_below (g := gb404) (o := .cells #[.int .i64 t402, .int .i64 t403] 29 (0, 0)) (by (with_reducible repeat (first | refine blk_drewN ?_ _ | refine blk_drew ?_ | refine blk_alloc ?_ _)); exact BK404.out) hb); have n3_ := Aside0.mk (below_step (by repeat (first | (with_reducible first | exact HB.out | apply below_alloc | apply pw_below_drewN | apply below_drew1 | refine below_set ?_ GE404.out) | exact HB.out)) hb); clear HO_3; clear HO_5; clear BK404; clear HB; have HO_3 := n0_; have HO_5 := n1_; have BK404 := n2_; have HB := n3_; clear n0_ n1_ n2_ n3_; (try clear hb); (try clear hb2); (try clear hk); (try clear hi); have hcz30_0 : w29.cell? ⟨gb404, 0, none⟩ = some (.int .i64 t402) := (blk_cell BK404.out 0).trans rfl; have hcz30_1 : w29.cell? ⟨gb404, 1, none⟩ = some (.int .i64 t403) := (blk_cell BK404.out 1).trans rfl; have hfz30_0 := blk_frozen BK404.out 0; have hfz30_1 := blk_frozen BK404.out 1) | (go_at_call 35; (with_reducible refine (spec_SpanOk.calls t402 t403 t414 _ A28.out).mono ?_); rintro e w31 ⟨rfl, hb⟩; have n0_ := Aside0.mk (Kd.R_below (by (with_reducible repeat (first | apply Kd.R_alloc | apply Kd.R_drewN | apply Kd.R_drew)); exact HO_3.out) hb); have n1_ := Aside0.mk (Kd.R_below (by (with_reducible repeat (first | apply Kd.R_alloc | apply Kd.R_drewN | apply Kd.R_drew)); exact HO_5.out) hb); have n2_ := Aside0.mk (blk_below (g := gb404) (o := .cells #[.int .i64 t402, .int .i64 t403] 29 (0, 0)) (by (with_reducible repeat (first | refine blk_drewN ?_ _ | refine blk_drew ?_ | refine blk_alloc ?_ _)); exact BK404.out) hb); have n3_ := Aside0.mk (below_step (by repeat (first | (with_reducible first | exact HB.out | apply below_alloc | apply pw_below_drewN | apply below_drew1 | refine below_set ?_ GE404.out) | exact HB.out)) hb); clear HO_3; clear HO_5; clear BK404; clear HB; have HO_3 := n0_; have HO_5 := n1_; have BK404 := n2_; have HB := n3_; clear n0_ n1_ n2_ n3_; (try clear hb); (try clear hb2); (try clear hk); (try clear hi)))
              go_meet
              case rel => exact ⟨_, (!t414), (by first | rfl | (simp; done) | (simp [*]; done)), H', ⟨by have := HJ4.out; first | omega | exact Nat.le_refl _⟩, ⟨by (with_reducible repeat (first | apply Kd.R_alloc | apply Kd.R_drewN | apply Kd.R_drew)); exact HO_3.out⟩, ⟨by (with_reducible repeat (first | apply Kd.R_alloc | apply Kd.R_drewN | apply Kd.R_drew)); exact HO_5.out⟩, ⟨by (with_reducible repeat (first | refine blk_drewN ?_ _ | refine blk_drew ?_ | refine blk_alloc ?_ _)); exact BK404.out⟩, ⟨by repeat (first | (with_reducible first | exact HB.out | apply below_alloc | apply pw_below_drewN | apply below_drew1 | refine below_set ?_ GE404.out) | exact HB.out)⟩⟩
            · replace c27 := Bool.eq_false_iff.mpr c27
              subst c27
              have H1 : (laws_FnSpansCut.j1 kj4 t399 t405 true t402 t403) = some r := by rw [if_neg (show ¬ (false = true) by decide)] at H; exact H
              clear H
              have H := H1
              clear H1
              have H' := Aside0.mk H
              clear H
              go_wp2_with (first | ((with_reducible refine gate_callee (f := 31) rfl ?_); refine goesL_ (some 30) rfl rfl Try.func31 (by kernel_rfl) rfl #[.slice Ao9 t399.length co9] rfl (by (try simp only [List.map_toArray, List.map_cons, List.map_nil]); first | done | rfl | (simp only [List.length_drop, List.length_take]; rfl)) ?_; (with_reducible refine (spec_SpansOk.calls kj4 _ _ t399 false _ ?side1 ?side2 A26.out).mono ?_); (case side1 => repeat (first | exact (Kd.R_reads' HO_3.out).2.2 | (with_reducible refine Kd.C_alloc ?_ _) | (with_reducible refine Kd.C_drewN ?_ _) | (with_reducible refine Kd.C_drew ?_))); (case side2 => exact (Kd.R_reads' HO_3.out).2.1); rintro e w32 ⟨rfl, hb⟩; refine ⟨_, rfl, ?_⟩; have n0_ := Aside0.mk (Kd.R_below (by (with_reducible repeat (first | apply Kd.R_alloc | apply Kd.R_drewN | apply Kd.R_drew)); exact HO_3.out) hb); have n1_ := Aside0.mk (Kd.R_below (by (with_reducible repeat (first | apply Kd.R_alloc | apply Kd.R_drewN | apply Kd.R_drew)); exact HO_5.out) hb); have n2_ := Aside0.mk (blk_below (g := gb404) (o := .cells #[.int .i64 t402, .int .i64 t403] 29 (0, 0)) (by (with_reducible repeat (first | refine blk_drewN ?_ _ | refine blk_drew ?_ | refine blk_alloc ?_ _)); exact BK404.out) hb); have n3_ := Aside0.mk (below_step (by repeat (first | (with_reducible first | exact HB.out | apply below_alloc | apply pw_below_drewN | apply below_drew1 | refine below_set ?_ GE404.out) | exact HB.out)) hb); clear HO_3; clear HO_5; clear BK404; clear HB; have HO_3 := n0_; have HO_5 := n1_; have BK404 := n2_; have HB := n3_; clear n0_ n1_ n2_ n3_; (try clear hb); (try clear hb2); (try clear hk); (try clear hi)))
              go_meet
              case rel => exact ⟨_, (true), (by first | rfl | (simp; done) | (simp [*]; done)), H', ⟨by have := HJ4.out; first | omega | exact Nat.le_refl _⟩, ⟨by (with_reducible repeat (first | apply Kd.R_alloc | apply Kd.R_drewN | apply Kd.R_drew)); exact HO_3.out⟩, ⟨by (with_reducible repeat (first | apply Kd.R_alloc | apply Kd.R_drewN | apply Kd.R_drew)); exact HO_5.out⟩, ⟨by (with_reducible repeat (first | refine blk_drewN ?_ _ | refine blk_drew ?_ | refine blk_alloc ?_ _)); exact BK404.out⟩, ⟨by repeat (first | (with_reducible first | exact HB.out | apply below_alloc | apply pw_below_drewN | apply below_drew1 | refine below_set ?_ GE404.out) | exact HB.out)⟩⟩
          case rest =>
            clear HC25
            try clear c1
            try clear c2
            try clear c2b0
            try clear c2b1
            try clear p2
            try clear c3
            try clear c13
            try clear c24
            try clear c27
            try clear c28
            try clear c31
            try clear c32
            try clear hcz15_0
            try clear hcz15_1
            try clear hcz20_0
            try clear hcz20_1
            try clear hcz30_0
            try clear hcz30_1
            try clear hcz8_0
            try clear hcz8_1
            try clear hfz15_0
            try clear hfz15_1
            try clear hfz20_0
            try clear hfz20_1
            try clear hfz30_0
            try clear hfz30_1
            try clear hfz8_0
            try clear hfz8_1
            try clear p2
            obtain ⟨kq, x36_24, rfl, HA, HJ24, HO_3, HO_5, BK404, HB⟩ := hcut
            cases kq with
            | zero => exact absurd HA.out (by simp [laws_FnSpansCut.j1])
            | succ kj24 =>
              have H := HA.out
              clear HA
              simp only [laws_FnSpansCut.j1] at H
              by_cases c33 : x36_24 = true
              · subst c33
                have H1 : (some ((t405.length : Int) == 0)) = some r := by rw [if_pos rfl] at H; exact H
                clear H
                have H := H1
                clear H1
                obtain rfl := Option.some.inj H
                obtain ⟨Ao34, co34, eo34⟩ := Kd.R_slice HO_5.out
                subst eo34
                go_wp2
                go_ret
                exact ⟨by first | rfl | (simp [errW_none, errW_some] <;> rfl) | (simp [*, errW_none, errW_some] <;> rfl), by repeat (first | (with_reducible first | exact HB.out | apply below_alloc | apply pw_below_drewN | apply below_drew1 | refine below_set ?_ GE404.out) | exact HB.out)⟩
              · replace c33 := Bool.eq_false_iff.mpr c33
                subst c33
                have H1 : (laws_FnSpansCut.l0 kj24 t399 t405 0 t402 t403) = some r := by rw [if_neg (show ¬ (false = true) by decide)] at H; exact H
                clear H
                have H := H1
                clear H1
                have H' := Aside0.mk H
                clear H
                go_wp2
                go_loopg [6] kj24 (fun kq v6 w' => ∃ (x6_3 : Int), v6 = .int .i64 x6_3 ∧ Aside0 (laws_FnSpansCut.l0 kq t399 t405 x6_3 t402 t403 = some r) ∧ Aside0 (kq ≤ kj24) ∧ Aside0 (Kd.R k29 29 w' w.heap.size (fun k_ => some k_ ≠ (v406 : Value).ownBlock ∧ k_ ≠ gb404) (.slice Ao9 t399.length co9) t399) ∧ Aside0 (Kd.R k29 29 w' w.heap.size (fun k_ => some k_ ≠ ((.slice Ao9 t399.length co9) : Value).ownBlock ∧ k_ ≠ gb404) v406 t405) ∧ Aside0 (w'.heap[gb404]? = some (.cells #[.int .i64 t402, .int .i64 t403] 29 (0, 0))) ∧ Aside0 (Below w.heap.size w w'))
                case atStart => exact ⟨(0), (by first | rfl | (simp; done) | (simp [*]; done)), H', ⟨Nat.le_refl _⟩, ⟨by (with_reducible repeat (first | apply Kd.R_alloc | apply Kd.R_drewN | apply Kd.R_drew)); exact HO_3.out⟩, ⟨by (with_reducible repeat (first | apply Kd.R_alloc | apply Kd.R_drewN | apply Kd.R_drew)); exact HO_5.out⟩, ⟨by (with_reducible repeat (first | refine blk_drewN ?_ _ | refine blk_drew ?_ | refine blk_alloc ?_ _)); exact BK404.out⟩, ⟨by repeat (first | (with_reducible first | exact HB.out | apply below_alloc | apply pw_below_drewN | apply below_drew1 | refine below_set ?_ GE404.out) | exact HB.out)⟩⟩
                case round =>
                  clear H'
                  try clear c1
                  try clear c2
                  try clear c2b0
                  try clear c2b1
                  try clear p2
                  try clear c3
                  try clear c13
                  try clear c24
                  try clear c27
                  try clear c28
                  try clear c31
                  try clear c32
                  try clear c33
                  try clear c34
                  try clear hcz15_0
                  try clear hcz15_1
                  try clear hcz20_0
                  try clear hcz20_1
                  try clear hcz30_0
                  try clear hcz30_1
                  try clear hcz8_0
                  try clear hcz8_1
                  try clear hfz15_0
                  try clear hfz15_1
                  try clear hfz20_0
                  try clear hfz20_1
                  try clear hfz30_0
                  try clear hfz30_1
                  try clear hfz8_0
                  try clear hfz8_1
                  try clear p2
                  obtain ⟨x6_3, rfl, HA, HK3, HO_3, HO_5, BK404, HB⟩ := hrel
                  cases gk with
                  | zero => exact absurd HA.out (by simp [laws_FnSpansCut.l0])
                  | succ k3 =>
                    have H := HA.out
                    clear HA
                    simp only [laws_FnSpansCut.l0] at H
                    by_cases c35 : x6_3 < 48
                    · rw [if_pos c35] at H
                      have c35b0 : decide (x6_3 < 48) = true := decide_eq_true c35
                      clear c35
                      by_cases c36 : (t405.length : Int) > 0
                      · rw [if_pos c36] at H
                        have c36b0 : decide (0 < (t405.length : Int)) = true := decide_eq_true c36
                        have c36b1 : decide (0 < t405.length) = true := decide_eq_true (by omega)
                        clear c36
                        replace H := Option.bind_eq_some_iff.mp H
                        obtain ⟨t420, A370, H⟩ := H
                        replace H : ((laws_wpIn.f k3 t399 x6_3).bind fun t421 => (if t421 = true then (if x6_3 < t402 then (if (t420 != true) = true then (some false) else (laws_FnSpansCut.l0 k3 t399 t405 (wrap64 (x6_3 + 1)) t402 t403)) else (if (t420 != (decide (x6_3 ≥ t403))) = true then (some false) else (laws_FnSpansCut.l0 k3 t399 t405 (wrap64 (x6_3 + 1)) t402 t403))) else (if (t420 != false) = true then (some false) else (laws_FnSpansCut.l0 k3 t399 t405 (wrap64 (x6_3 + 1)) t402 t403)))) = some r := H
                        have A37 := Aside0.mk A370
                        clear A370
                        replace H := Option.bind_eq_some_iff.mp H
                        obtain ⟨t421, A380, H⟩ := H
                        replace H : (if t421 = true then (if x6_3 < t402 then (if (t420 != true) = true then (some false) else (laws_FnSpansCut.l0 k3 t399 t405 (wrap64 (x6_3 + 1)) t402 t403)) else (if (t420 != (decide (x6_3 ≥ t403))) = true then (some false) else (laws_FnSpansCut.l0 k3 t399 t405 (wrap64 (x6_3 + 1)) t402 t403))) else (if (t420 != false) = true then (some false) else (laws_FnSpansCut.l0 k3 t399 t405 (wrap64 (x6_3 + 1)) t402 t403))) = some r := H
                        have A38 := Aside0.mk A380
                        clear A380
                        by_cases c39 : t421 = true
                        · subst c39
                          have H1 : (if x6_3 < t402 then (if (t420 != true) = true then (some false) else (laws_FnSpansCut.l0 k3 t399 t405 (wrap64 (x6_3 + 1)) t402 t403)) else (if (t420 != (decide (x6_3 ≥ t403))) = true then (some false) else (laws_FnSpansCut.l0 k3 t399 t405 (wrap64 (x6_3 + 1)) t402 t403))) = some r := by rw [if_pos rfl] at H; exact H
                          clear H
                          have H := H1
                          clear H1
                          by_cases c40 : x6_3 < t402
                          · rw [if_pos c40] at H
                            have c40b0 : decide (x6_3 < t402) = true := decide_eq_true c40
                            clear c40
                            by_cases c41 : (t420 != true) = true
                            · rw [if_pos c41] at H
                              have c41b0 : (t420 != true) = true := c41
                              (try (have c41b1 : decide (t420 = true) = false := by simpa using c41))
                              (try (have c41b2 : (t420 == true) = false := by simpa using c41))
                              (try (have c41b3 : ¬ (t420 = true) := by simpa using c41))
                              clear c41
                              obtain rfl := Option.some.inj H
                              obtain ⟨Ao42, co42, eo42⟩ := Kd.R_slice HO_5.out
                              subst eo42
                              go_wp2_with (first | (go_at_call 36; (with_reducible refine (laws_wpIn.calls k3 _ _ t405 x6_3 t420 _ ?side1 ?side2 A37.out).mono ?_); (case side1 => repeat (first | exact (Kd.R_reads' HO_5.out).2.2 | (with_reducible refine Kd.C_alloc ?_ _) | (with_reducible refine Kd.C_drewN ?_ _) | (with_reducible refine Kd.C_drew ?_))); (case side2 => exact (Kd.R_reads' HO_5.out).2.1); rintro e w' ⟨rfl, ⟨nd, rfl⟩⟩) | (go_at_call 36; (with_reducible refine (laws_wpIn.calls k3 _ _ t399 x6_3 true _ ?side1 ?side2 A38.out).mono ?_); (case side1 => repeat (first | exact (Kd.R_reads' HO_3.out).2.2 | (with_reducible refine Kd.C_alloc ?_ _) | (with_reducible refine Kd.C_drewN ?_ _) | (with_reducible refine Kd.C_drew ?_))); (case side2 => exact (Kd.R_reads' HO_3.out).2.1); rintro e w' ⟨rfl, ⟨nd, rfl⟩⟩; have hcz43_0 : wr.cell? ⟨gb404, 0, none⟩ = some (.int .i64 t402) := (blk_cell BK404.out 0).trans rfl; have hcz43_1 : wr.cell? ⟨gb404, 1, none⟩ = some (.int .i64 t403) := (blk_cell BK404.out 1).trans rfl; have hfz43_0 := blk_frozen BK404.out 0; have hfz43_1 := blk_frozen BK404.out 1))
                              go_ret
                              exact ⟨by first | rfl | (simp [errW_none, errW_some] <;> rfl) | (simp [*, errW_none, errW_some] <;> rfl), by repeat (first | (with_reducible first | exact HB.out | apply below_alloc | apply pw_below_drewN | apply below_drew1 | refine below_set ?_ GE404.out) | exact HB.out)⟩
                            · rw [if_neg c41] at H
                              have c41b0 : (t420 != true) = false := by simpa using c41
                              (try (have c41b1 : decide (t420 = true) = true := by simpa using c41))
                              (try (have c41b2 : (t420 == true) = true := by simpa using c41))
                              clear c41
                              have H' := Aside0.mk H
                              clear H
                              obtain ⟨Ao44, co44, eo44⟩ := Kd.R_slice HO_5.out
                              subst eo44
                              go_wp2_with (first | (go_at_call 36; (with_reducible refine (laws_wpIn.calls k3 _ _ t405 x6_3 t420 _ ?side1 ?side2 A37.out).mono ?_); (case side1 => repeat (first | exact (Kd.R_reads' HO_5.out).2.2 | (with_reducible refine Kd.C_alloc ?_ _) | (with_reducible refine Kd.C_drewN ?_ _) | (with_reducible refine Kd.C_drew ?_))); (case side2 => exact (Kd.R_reads' HO_5.out).2.1); rintro e w' ⟨rfl, ⟨nd, rfl⟩⟩) | (go_at_call 36; (with_reducible refine (laws_wpIn.calls k3 _ _ t399 x6_3 true _ ?side1 ?side2 A38.out).mono ?_); (case side1 => repeat (first | exact (Kd.R_reads' HO_3.out).2.2 | (with_reducible refine Kd.C_alloc ?_ _) | (with_reducible refine Kd.C_drewN ?_ _) | (with_reducible refine Kd.C_drew ?_))); (case side2 => exact (Kd.R_reads' HO_3.out).2.1); rintro e w' ⟨rfl, ⟨nd, rfl⟩⟩; have hcz45_0 : wr.cell? ⟨gb404, 0, none⟩ = some (.int .i64 t402) := (blk_cell BK404.out 0).trans rfl; have hcz45_1 : wr.cell? ⟨gb404, 1, none⟩ = some (.int .i64 t403) := (blk_cell BK404.out 1).trans rfl; have hfz45_0 := blk_frozen BK404.out 0; have hfz45_1 := blk_frozen BK404.out 1))
                              go_roundg k3
                              case measure => have := HJ4.out; have := HJ24.out; have := HK3.out; omega
                              case rel => exact ⟨(wrap64 (x6_3 + 1)), (by first | rfl | (simp; done) | (simp [*]; done)), H', ⟨by have := HJ4.out; have := HJ24.out; have := HK3.out; omega⟩, ⟨by (with_reducible repeat (first | apply Kd.R_alloc | apply Kd.R_drewN | apply Kd.R_drew)); exact HO_3.out⟩, ⟨by (with_reducible repeat (first | apply Kd.R_alloc | apply Kd.R_drewN | apply Kd.R_drew)); exact HO_5.out⟩, ⟨by (with_reducible repeat (first | refine blk_drewN ?_ _ | refine blk_drew ?_ | refine blk_alloc ?_ _)); exact BK404.out⟩, ⟨by repeat (first | (with_reducible first | exact HB.out | apply below_alloc | apply pw_below_drewN | apply below_drew1 | refine below_set ?_ GE404.out) | exact HB.out)⟩⟩
                          · rw [if_neg c40] at H
                            have c40b0 : decide (x6_3 < t402) = false := decide_eq_false c40
                            clear c40
                            by_cases c46 : (t420 != (decide (x6_3 ≥ t403))) = true
                            · rw [if_pos c46] at H
                              have c46b0 : (t420 != (decide (x6_3 ≥ t403))) = true := c46
                              (try (have c46b1 : decide (t420 = (decide (x6_3 ≥ t403))) = false := by simpa using c46))
                              (try (have c46b2 : (t420 == (decide (x6_3 ≥ t403))) = false := by simpa using c46))
                              (try (have c46b3 : ¬ (t420 = (decide (x6_3 ≥ t403))) := by simpa using c46))
                              clear c46
                              obtain rfl := Option.some.inj H
                              obtain ⟨Ao47, co47, eo47⟩ := Kd.R_slice HO_5.out
                              subst eo47
                              go_wp2_with (first | (go_at_call 36; (with_reducible refine (laws_wpIn.calls k3 _ _ t405 x6_3 t420 _ ?side1 ?side2 A37.out).mono ?_); (case side1 => repeat (first | exact (Kd.R_reads' HO_5.out).2.2 | (with_reducible refine Kd.C_alloc ?_ _) | (with_reducible refine Kd.C_drewN ?_ _) | (with_reducible refine Kd.C_drew ?_))); (case side2 => exact (Kd.R_reads' HO_5.out).2.1); rintro e w' ⟨rfl, ⟨nd, rfl⟩⟩) | (go_at_call 36; (with_reducible refine (laws_wpIn.calls k3 _ _ t399 x6_3 true _ ?side1 ?side2 A38.out).mono ?_); (case side1 => repeat (first | exact (Kd.R_reads' HO_3.out).2.2 | (with_reducible refine Kd.C_alloc ?_ _) | (with_reducible refine Kd.C_drewN ?_ _) | (with_reducible refine Kd.C_drew ?_))); (case side2 => exact (Kd.R_reads' HO_3.out).2.1); rintro e w' ⟨rfl, ⟨nd, rfl⟩⟩; have hcz48_0 : wr.cell? ⟨gb404, 0, none⟩ = some (.int .i64 t402) := (blk_cell BK404.out 0).trans rfl; have hcz48_1 : wr.cell? ⟨gb404, 1, none⟩ = some (.int .i64 t403) := (blk_cell BK404.out 1).trans rfl; have hfz48_0 := blk_frozen BK404.out 0; have hfz48_1 := blk_frozen BK404.out 1))
                              go_ret
                              exact ⟨by first | rfl | (simp [errW_none, errW_some] <;> rfl) | (simp [*, errW_none, errW_some] <;> rfl), by repeat (first | (with_reducible first | exact HB.out | apply below_alloc | apply pw_below_drewN | apply below_drew1 | refine below_set ?_ GE404.out) | exact HB.out)⟩
                            · rw [if_neg c46] at H
                              have c46b0 : (t420 != (decide (x6_3 ≥ t403))) = false := by simpa using c46
                              (try (have c46b1 : decide (t420 = (decide (x6_3 ≥ t403))) = true := by simpa using c46))
                              (try (have c46b2 : (t420 == (decide (x6_3 ≥ t403))) = true := by simpa using c46))
                              clear c46
                              have H' := Aside0.mk H
                              clear H
                              obtain ⟨Ao49, co49, eo49⟩ := Kd.R_slice HO_5.out
                              subst eo49
                              go_wp2_with (first | (go_at_call 36; (with_reducible refine (laws_wpIn.calls k3 _ _ t405 x6_3 t420 _ ?side1 ?side2 A37.out).mono ?_); (case side1 => repeat (first | exact (Kd.R_reads' HO_5.out).2.2 | (with_reducible refine Kd.C_alloc ?_ _) | (with_reducible refine Kd.C_drewN ?_ _) | (with_reducible refine Kd.C_drew ?_))); (case side2 => exact (Kd.R_reads' HO_5.out).2.1); rintro e w' ⟨rfl, ⟨nd, rfl⟩⟩) | (go_at_call 36; (with_reducible refine (laws_wpIn.calls k3 _ _ t399 x6_3 true _ ?side1 ?side2 A38.out).mono ?_); (case side1 => repeat (first | exact (Kd.R_reads' HO_3.out).2.2 | (with_reducible refine Kd.C_alloc ?_ _) | (with_reducible refine Kd.C_drewN ?_ _) | (with_reducible refine Kd.C_drew ?_))); (case side2 => exact (Kd.R_reads' HO_3.out).2.1); rintro e w' ⟨rfl, ⟨nd, rfl⟩⟩; have hcz50_0 : wr.cell? ⟨gb404, 0, none⟩ = some (.int .i64 t402) := (blk_cell BK404.out 0).trans rfl; have hcz50_1 : wr.cell? ⟨gb404, 1, none⟩ = some (.int .i64 t403) := (blk_cell BK404.out 1).trans rfl; have hfz50_0 := blk_frozen BK404.out 0; have hfz50_1 := blk_frozen BK404.out 1))
                              go_roundg k3
                              case measure => have := HJ4.out; have := HJ24.out; have := HK3.out; omega
                              case rel => exact ⟨(wrap64 (x6_3 + 1)), (by first | rfl | (simp; done) | (simp [*]; done)), H', ⟨by have := HJ4.out; have := HJ24.out; have := HK3.out; omega⟩, ⟨by (with_reducible repeat (first | apply Kd.R_alloc | apply Kd.R_drewN | apply Kd.R_drew)); exact HO_3.out⟩, ⟨by (with_reducible repeat (first | apply Kd.R_alloc | apply Kd.R_drewN | apply Kd.R_drew)); exact HO_5.out⟩, ⟨by (with_reducible repeat (first | refine blk_drewN ?_ _ | refine blk_drew ?_ | refine blk_alloc ?_ _)); exact BK404.out⟩, ⟨by repeat (first | (with_reducible first | exact HB.out | apply below_alloc | apply pw_below_drewN | apply below_drew1 | refine below_set ?_ GE404.out) | exact HB.out)⟩⟩
                        · replace c39 := Bool.eq_false_iff.mpr c39
                          subst c39
                          have H1 : (if (t420 != false) = true then (some false) else (laws_FnSpansCut.l0 k3 t399 t405 (wrap64 (x6_3 + 1)) t402 t403)) = some r := by rw [if_neg (show ¬ (false = true) by decide)] at H; exact H
                          clear H
                          have H := H1
                          clear H1
                          by_cases c51 : (t420 != false) = true
                          · rw [if_pos c51] at H
                            have c51b0 : (t420 != false) = true := c51
                            (try (have c51b1 : decide (t420 = false) = false := by simpa using c51))
                            (try (have c51b2 : (t420 == false) = false := by simpa using c51))
                            (try (have c51b3 : ¬ (t420 = false) := by simpa using c51))
                            clear c51
                            obtain rfl := Option.some.inj H
                            obtain ⟨Ao52, co52, eo52⟩ := Kd.R_slice HO_5.out
                            subst eo52
                            go_wp2_with (first | (go_at_call 36; (with_reducible refine (laws_wpIn.calls k3 _ _ t405 x6_3 t420 _ ?side1 ?side2 A37.out).mono ?_); (case side1 => repeat (first | exact (Kd.R_reads' HO_5.out).2.2 | (with_reducible refine Kd.C_alloc ?_ _) | (with_reducible refine Kd.C_drewN ?_ _) | (with_reducible refine Kd.C_drew ?_))); (case side2 => exact (Kd.R_reads' HO_5.out).2.1); rintro e w' ⟨rfl, ⟨nd, rfl⟩⟩) | (go_at_call 36; (with_reducible refine (laws_wpIn.calls k3 _ _ t399 x6_3 false _ ?side1 ?side2 A38.out).mono ?_); (case side1 => repeat (first | exact (Kd.R_reads' HO_3.out).2.2 | (with_reducible refine Kd.C_alloc ?_ _) | (with_reducible refine Kd.C_drewN ?_ _) | (with_reducible refine Kd.C_drew ?_))); (case side2 => exact (Kd.R_reads' HO_3.out).2.1); rintro e w' ⟨rfl, ⟨nd, rfl⟩⟩))
                            go_ret
                            exact ⟨by first | rfl | (simp [errW_none, errW_some] <;> rfl) | (simp [*, errW_none, errW_some] <;> rfl), by repeat (first | (with_reducible first | exact HB.out | apply below_alloc | apply pw_below_drewN | apply below_drew1 | refine below_set ?_ GE404.out) | exact HB.out)⟩
                          · rw [if_neg c51] at H
                            have c51b0 : (t420 != false) = false := by simpa using c51
                            (try (have c51b1 : decide (t420 = false) = true := by simpa using c51))
                            (try (have c51b2 : (t420 == false) = true := by simpa using c51))
                            clear c51
                            have H' := Aside0.mk H
                            clear H
                            obtain ⟨Ao53, co53, eo53⟩ := Kd.R_slice HO_5.out
                            subst eo53
                            go_wp2_with (first | (go_at_call 36; (with_reducible refine (laws_wpIn.calls k3 _ _ t405 x6_3 t420 _ ?side1 ?side2 A37.out).mono ?_); (case side1 => repeat (first | exact (Kd.R_reads' HO_5.out).2.2 | (with_reducible refine Kd.C_alloc ?_ _) | (with_reducible refine Kd.C_drewN ?_ _) | (with_reducible refine Kd.C_drew ?_))); (case side2 => exact (Kd.R_reads' HO_5.out).2.1); rintro e w' ⟨rfl, ⟨nd, rfl⟩⟩) | (go_at_call 36; (with_reducible refine (laws_wpIn.calls k3 _ _ t399 x6_3 false _ ?side1 ?side2 A38.out).mono ?_); (case side1 => repeat (first | exact (Kd.R_reads' HO_3.out).2.2 | (with_reducible refine Kd.C_alloc ?_ _) | (with_reducible refine Kd.C_drewN ?_ _) | (with_reducible refine Kd.C_drew ?_))); (case side2 => exact (Kd.R_reads' HO_3.out).2.1); rintro e w' ⟨rfl, ⟨nd, rfl⟩⟩))
                            go_roundg k3
                            case measure => have := HJ4.out; have := HJ24.out; have := HK3.out; omega
                            case rel => exact ⟨(wrap64 (x6_3 + 1)), (by first | rfl | (simp; done) | (simp [*]; done)), H', ⟨by have := HJ4.out; have := HJ24.out; have := HK3.out; omega⟩, ⟨by (with_reducible repeat (first | apply Kd.R_alloc | apply Kd.R_drewN | apply Kd.R_drew)); exact HO_3.out⟩, ⟨by (with_reducible repeat (first | apply Kd.R_alloc | apply Kd.R_drewN | apply Kd.R_drew)); exact HO_5.out⟩, ⟨by (with_reducible repeat (first | refine blk_drewN ?_ _ | refine blk_drew ?_ | refine blk_alloc ?_ _)); exact BK404.out⟩, ⟨by repeat (first | (with_reducible first | exact HB.out | apply below_alloc | apply pw_below_drewN | apply below_drew1 | refine below_set ?_ GE404.out) | exact HB.out)⟩⟩
                      · rw [if_neg c36] at H
                        have c36b0 : decide (0 < (t405.length : Int)) = false := decide_eq_false c36
                        have c36b1 : decide (0 < t405.length) = false := decide_eq_false (by omega)
                        clear c36
                        have H' := Aside0.mk H
                        clear H
                        obtain ⟨Ao54, co54, eo54⟩ := Kd.R_slice HO_5.out
                        subst eo54
                        go_wp2
                        go_roundg k3
                        case measure => have := HJ4.out; have := HJ24.out; have := HK3.out; omega
                        case rel => exact ⟨(wrap64 (x6_3 + 1)), (by first | rfl | (simp; done) | (simp [*]; done)), H', ⟨by have := HJ4.out; have := HJ24.out; have := HK3.out; omega⟩, ⟨by (with_reducible repeat (first | apply Kd.R_alloc | apply Kd.R_drewN | apply Kd.R_drew)); exact HO_3.out⟩, ⟨by (with_reducible repeat (first | apply Kd.R_alloc | apply Kd.R_drewN | apply Kd.R_drew)); exact HO_5.out⟩, ⟨by (with_reducible repeat (first | refine blk_drewN ?_ _ | refine blk_drew ?_ | refine blk_alloc ?_ _)); exact BK404.out⟩, ⟨by repeat (first | (with_reducible first | exact HB.out | apply below_alloc | apply pw_below_drewN | apply below_drew1 | refine below_set ?_ GE404.out) | exact HB.out)⟩⟩
                    · rw [if_neg c35] at H
                      have c35b0 : decide (x6_3 < 48) = false := decide_eq_false c35
                      clear c35
                      replace H := Option.bind_eq_some_iff.mp H
                      obtain ⟨t415, A550, H⟩ := H
                      replace H : (if (t415.length : Int) = 0 then ((impl_SpansMany.f k3 t405).bind fun t418 => ((impl_SpansMany.f k3 t399).bind fun t419 => (some (decide (t418 ≤ t419))))) else (some false)) = some r := H
                      have A55 := Aside0.mk A550
                      clear A550
                      by_cases c56 : (t415.length : Int) = 0
                      · rw [if_pos c56] at H
                        have c56b0 : ((t415.length : Int) == 0) = true := beq_iff_eq.mpr c56
                        have c56b1 : ((t415.length : Int) != 0) = false := bne_eq_false_iff_eq.mpr c56
                        clear c56
                        replace H := Option.bind_eq_some_iff.mp H
                        obtain ⟨t418, A570, H⟩ := H
                        replace H : ((impl_SpansMany.f k3 t399).bind fun t419 => (some (decide (t418 ≤ t419)))) = some r := H
                        have A57 := Aside0.mk A570
                        clear A570
                        replace H := Option.bind_eq_some_iff.mp H
                        obtain ⟨t419, A580, H⟩ := H
                        replace H : (some (decide (t418 ≤ t419))) = some r := H
                        have A58 := Aside0.mk A580
                        clear A580
                        obtain rfl := Option.some.inj H
                        have hcz59_0 : wr.cell? ⟨gb404, 0, none⟩ = some (.int .i64 t402) := (blk_cell BK404.out 0).trans rfl
                        have hcz59_1 : wr.cell? ⟨gb404, 1, none⟩ = some (.int .i64 t403) := (blk_cell BK404.out 1).trans rfl
                        have hfz59_0 := blk_frozen BK404.out 0
                        have hfz59_1 := blk_frozen BK404.out 1
                        obtain ⟨Ao60, co60, eo60⟩ := Kd.R_slice HO_5.out
                        subst eo60
                        go_wp2_with (first | ((with_reducible refine gate_callee (f := 22) rfl ?_); refine goesL_ (some 70) rfl rfl Try.func22 (by kernel_rfl) rfl #[.slice Ao60 t405.length co60, .agg #[.int .i64 t402, .int .i64 t403]] rfl (by (try simp only [List.map_toArray, List.map_cons, List.map_nil]); first | done | rfl | (simp only [List.length_drop, List.length_take]; rfl)) ?_; (with_reducible refine (impl_SpansMeet.calls k3 _ _ t405 t402 t403 t415 _ ?side1 ?side2 A55.out).mono ?_); (case side1 => repeat (first | exact (Kd.R_reads' HO_5.out).2.2 | (with_reducible refine Kd.C_alloc ?_ _) | (with_reducible refine Kd.C_drewN ?_ _) | (with_reducible refine Kd.C_drew ?_))); (case side2 => exact (Kd.R_reads' HO_5.out).2.1); rintro e w61 ⟨v416, rfl, ho0, hb⟩; refine ⟨_, rfl, ?_⟩; have n0_ := Aside0.mk (Kd.R_elder' (by (with_reducible repeat (first | apply Kd.R_alloc | apply Kd.R_drewN | apply Kd.R_drew)); exact HO_3.out) (Kd.R_base ho0) hb); have n1_ := Aside0.mk (Kd.R_elder' (by (with_reducible repeat (first | apply Kd.R_alloc | apply Kd.R_drewN | apply Kd.R_drew)); exact HO_5.out) (Kd.R_base ho0) hb); have n2_ := Aside0.mk (Kd.R_lower (Kd.R_newB (Kd.R_new' (Kd.R_new' ho0 (Kd.R_lt (by (with_reducible repeat (first | apply Kd.R_alloc | apply Kd.R_drewN | apply Kd.R_drew)); exact HO_3.out))) (Kd.R_lt (by (with_reducible repeat (first | apply Kd.R_alloc | apply Kd.R_drewN | apply Kd.R_drew)); exact HO_5.out))) (g := gb404) (o := .cells #[.int .i64 t402, .int .i64 t403] 29 (0, 0)) (by (with_reducible repeat (first | refine blk_drewN ?_ _ | refine blk_drew ?_ | refine blk_alloc ?_ _)); exact BK404.out)) (below_size (by repeat (first | (with_reducible first | exact HB.out | apply below_alloc | apply pw_below_drewN | apply below_drew1 | refine below_set ?_ GE404.out) | exact HB.out)))); have n3_ := Aside0.mk (blk_below (g := gb404) (o := .cells #[.int .i64 t402, .int .i64 t403] 29 (0, 0)) (by (with_reducible repeat (first | refine blk_drewN ?_ _ | refine blk_drew ?_ | refine blk_alloc ?_ _)); exact BK404.out) hb); have n4_ := Aside0.mk (below_step (by repeat (first | (with_reducible first | exact HB.out | apply below_alloc | apply pw_below_drewN | apply below_drew1 | refine below_set ?_ GE404.out) | exact HB.out)) hb); clear HO_3; clear HO_5; clear BK404; clear HB; have HO_3 := n0_; have HO_5 := n1_; have HO417 := n2_; have BK404 := n3_; have HB := n4_; clear n0_ n1_ n2_ n3_ n4_; (try clear hb); (try clear hb2); (try clear hk); (try clear hi); (try clear ho0); obtain ⟨Ao62, co62, eo62⟩ := Kd.R_slice HO417.out; subst eo62) | (go_at_call 38; (with_reducible refine (impl_SpansMany.calls k3 _ _ t405 t418 _ ?side1 ?side2 A57.out).mono ?_); (case side1 => repeat (first | exact (Kd.R_reads' HO_5.out).2.2 | (with_reducible refine Kd.C_alloc ?_ _) | (with_reducible refine Kd.C_drewN ?_ _) | (with_reducible refine Kd.C_drew ?_))); (case side2 => exact (Kd.R_reads' HO_5.out).2.1); rintro e w63 ⟨rfl, hb⟩; have n0_ := Aside0.mk (Kd.R_below (by (with_reducible repeat (first | apply Kd.R_alloc | apply Kd.R_drewN | apply Kd.R_drew)); exact HO_3.out) hb); have n1_ := Aside0.mk (Kd.R_below (by (with_reducible repeat (first | apply Kd.R_alloc | apply Kd.R_drewN | apply Kd.R_drew)); exact HO_5.out) hb); have n2_ := Aside0.mk (Kd.R_below (by (with_reducible repeat (first | apply Kd.R_alloc | apply Kd.R_drewN | apply Kd.R_drew)); exact HO417.out) hb); have n3_ := Aside0.mk (blk_below (g := gb404) (o := .cells #[.int .i64 t402, .int .i64 t403] 29 (0, 0)) (by (with_reducible repeat (first | refine blk_drewN ?_ _ | refine blk_drew ?_ | refine blk_alloc ?_ _)); exact BK404.out) hb); have n4_ := Aside0.mk (below_step (by repeat (first | (with_reducible first | exact HB.out | apply below_alloc | apply pw_below_drewN | apply below_drew1 | refine below_set ?_ GE404.out) | exact HB.out)) hb); clear HO_3; clear HO_5; clear HO417; clear BK404; clear HB; have HO_3 := n0_; have HO_5 := n1_; have HO417 := n2_; have BK404 := n3_; have HB := n4_; clear n0_ n1_ n2_ n3_ n4_; (try clear hb); (try clear hb2); (try clear hk); (try clear hi)) | (go_at_call 38; (with_reducible refine (impl_SpansMany.calls k3 _ _ t399 t419 _ ?side1 ?side2 A58.out).mono ?_); (case side1 => repeat (first | exact (Kd.R_reads' HO_3.out).2.2 | (with_reducible refine Kd.C_alloc ?_ _) | (with_reducible refine Kd.C_drewN ?_ _) | (with_reducible refine Kd.C_drew ?_))); (case side2 => exact (Kd.R_reads' HO_3.out).2.1); rintro e w64 ⟨rfl, hb⟩; have n0_ := Aside0.mk (Kd.R_below (by (with_reducible repeat (first | apply Kd.R_alloc | apply Kd.R_drewN | apply Kd.R_drew)); exact HO_3.out) hb); have n1_ := Aside0.mk (Kd.R_below (by (with_reducible repeat (first | apply Kd.R_alloc | apply Kd.R_drewN | apply Kd.R_drew)); exact HO_5.out) hb); have n2_ := Aside0.mk (Kd.R_below (by (with_reducible repeat (first | apply Kd.R_alloc | apply Kd.R_drewN | apply Kd.R_drew)); exact HO417.out) hb); have n3_ := Aside0.mk (blk_below (g := gb404) (o := .cells #[.int .i64 t402, .int .i64 t403] 29 (0, 0)) (by (with_reducible repeat (first | refine blk_drewN ?_ _ | refine blk_drew ?_ | refine blk_alloc ?_ _)); exact BK404.out) hb); have n4_ := Aside0.mk (below_step (by repeat (first | (with_reducible first | exact HB.out | apply below_alloc | apply pw_below_drewN | apply below_drew1 | refine below_set ?_ GE404.out) | exact HB.out)) hb); clear HO_3; clear HO_5; clear HO417; clear BK404; clear HB; have HO_3 := n0_; have HO_5 := n1_; have HO417 := n2_; have BK404 := n3_; have HB := n4_; clear n0_ n1_ n2_ n3_ n4_; (try clear hb); (try clear hb2); (try clear hk); (try clear hi)))
                        go_ret
                        exact ⟨by first | rfl | (simp [errW_none, errW_some] <;> rfl) | (simp [*, errW_none, errW_some] <;> rfl), by repeat (first | (with_reducible first | exact HB.out | apply below_alloc | apply pw_below_drewN | apply below_drew1 | refine below_set ?_ GE404.out) | exact HB.out)⟩
                      · rw [if_neg c56] at H
                        have c56b0 : ((t415.length : Int) == 0) = false := beq_eq_false_iff_ne.mpr c56
                        have c56b1 : ((t415.length : Int) != 0) = true := bne_iff_ne.mpr c56
                        have c56b2 : ¬ (t415 = []) := fun h_ => c56 (by rw [h_]; rfl)
                        obtain rfl := Option.some.inj H
                        have hcz65_0 : wr.cell? ⟨gb404, 0, none⟩ = some (.int .i64 t402) := (blk_cell BK404.out 0).trans rfl
                        have hcz65_1 : wr.cell? ⟨gb404, 1, none⟩ = some (.int .i64 t403) := (blk_cell BK404.out 1).trans rfl
                        have hfz65_0 := blk_frozen BK404.out 0
                        have hfz65_1 := blk_frozen BK404.out 1
                        obtain ⟨Ao66, co66, eo66⟩ := Kd.R_slice HO_5.out
                        subst eo66
                        go_wp2_with (first | ((with_reducible refine gate_callee (f := 22) rfl ?_); refine goesL_ (some 70) rfl rfl Try.func22 (by kernel_rfl) rfl #[.slice Ao66 t405.length co66, .agg #[.int .i64 t402, .int .i64 t403]] rfl (by (try simp only [List.map_toArray, List.map_cons, List.map_nil]); first | done | rfl | (simp only [List.length_drop, List.length_take]; rfl)) ?_; (with_reducible refine (impl_SpansMeet.calls k3 _ _ t405 t402 t403 t415 _ ?side1 ?side2 A55.out).mono ?_); (case side1 => repeat (first | exact (Kd.R_reads' HO_5.out).2.2 | (with_reducible refine Kd.C_alloc ?_ _) | (with_reducible refine Kd.C_drewN ?_ _) | (with_reducible refine Kd.C_drew ?_))); (case side2 => exact (Kd.R_reads' HO_5.out).2.1); rintro e w67 ⟨v416, rfl, ho0, hb⟩; refine ⟨_, rfl, ?_⟩; have n0_ := Aside0.mk (Kd.R_elder' (by (with_reducible repeat (first | apply Kd.R_alloc | apply Kd.R_drewN | apply Kd.R_drew)); exact HO_3.out) (Kd.R_base ho0) hb); have n1_ := Aside0.mk (Kd.R_elder' (by (with_reducible repeat (first | apply Kd.R_alloc | apply Kd.R_drewN | apply Kd.R_drew)); exact HO_5.out) (Kd.R_base ho0) hb); have n2_ := Aside0.mk (Kd.R_lower (Kd.R_newB (Kd.R_new' (Kd.R_new' ho0 (Kd.R_lt (by (with_reducible repeat (first | apply Kd.R_alloc | apply Kd.R_drewN | apply Kd.R_drew)); exact HO_3.out))) (Kd.R_lt (by (with_reducible repeat (first | apply Kd.R_alloc | apply Kd.R_drewN | apply Kd.R_drew)); exact HO_5.out))) (g := gb404) (o := .cells #[.int .i64 t402, .int .i64 t403] 29 (0, 0)) (by (with_reducible repeat (first | refine blk_drewN ?_ _ | refine blk_drew ?_ | refine blk_alloc ?_ _)); exact BK404.out)) (below_size (by repeat (first | (with_reducible first | exact HB.out | apply below_alloc | apply pw_below_drewN | apply below_drew1 | refine below_set ?_ GE404.out) | exact HB.out)))); have n3_ := Aside0.mk (blk_below (g := gb404) (o := .cells #[.int .i64 t402, .int .i64 t403] 29 (0, 0)) (by (with_reducible repeat (first | refine blk_drewN ?_ _ | refine blk_drew ?_ | refine blk_alloc ?_ _)); exact BK404.out) hb); have n4_ := Aside0.mk (below_step (by repeat (first | (with_reducible first | exact HB.out | apply below_alloc | apply pw_below_drewN | apply below_drew1 | refine below_set ?_ GE404.out) | exact HB.out)) hb); clear HO_3; clear HO_5; clear BK404; clear HB; have HO_3 := n0_; have HO_5 := n1_; have HO417 := n2_; have BK404 := n3_; have HB := n4_; clear n0_ n1_ n2_ n3_ n4_; (try clear hb); (try clear hb2); (try clear hk); (try clear hi); (try clear ho0); obtain ⟨Ao68, co68, eo68⟩ := Kd.R_slice HO417.out; subst eo68))
                        go_ret
                        exact ⟨by first | rfl | (simp [errW_none, errW_some] <;> rfl) | (simp [*, errW_none, errW_some] <;> rfl), by repeat (first | (with_reducible first | exact HB.out | apply below_alloc | apply pw_below_drewN | apply below_drew1 | refine below_set ?_ GE404.out) | exact HB.out)⟩

/-- THE ONE PURE STATEMENT of laws_FnSpansCut: yours. -/
def laws_FnSpansCut.Pure : Prop := ∀ (l0 : List Int), l0.length ≤ maxLen → l0.length * 1 ≤ 140737488351232 → (∀ x ∈ l0, (Lit.int .u8 x).wf = true) → ∃ k, laws_FnSpansCut.f k l0 = some true
theorem laws_FnSpansCut.walk (P : laws_FnSpansCut.Pure) (a0 : Option Addr) (len0 cap0 : Nat) (z0 : List Int) (w : World) (w0 : (a0 = none ∧ len0 = 0 ∧ cap0 = 0 ∧ z0 = []) ∨ ∃ x, a0 = some x ∧ len0 ≤ cap0 ∧ cap0 ≤ maxLen ∧ z0.length = cap0 ∧ (∀ i, i < z0.length → w.cell? (x.add i) = some (.int .u8 (z0.getD i 0))) ∧ ∀ n ∈ z0, (Lit.int .u8 n).wf = true) (y0 : len0 * 1 ≤ 140737488351232) :
    Calls Try.prog 13 #[.slice a0 len0 cap0] w fun e w' => e = .returned (.bool true) ∧ Below w.heap.size w w' := by
  obtain ⟨l0, rfl, hr0, hm0, hw0, hc0⟩ := ReadsInt.ofRowC w0
  obtain ⟨k, h⟩ := P l0 hm0 y0 hw0
  refine (laws_FnSpansCut.calls k _ _ l0 true w (Kd.C_of_reads (d := (0 : Int)) (h1 := fun _ => rfl) hr0) hc0 h).mono ?_
  rintro e w' ⟨rfl, hd⟩
  exact ⟨rfl, hd⟩

end Go.Proofs.Ytmplfidfckkmhaa.QZ
