/- Functions of the program as functions over numbers and lists, each with the proof that the call comes to just its answer. Conditions: the function answers. Told by a program of this session that runs the kit's print with own parts. -/
import Derived.Test.YtfomnpbhpncpaaaQx0
import Derived.Test.YtfomnpbhpncpaaaQx5
import Derived.Test.YtfomnpbhpncpaaaQx6
import Derived.Test.YtfomnpbhpncpaaaQx7
import Derived.Test.YtfomnpbhpncpaaaQx25
import Derived.Test.YtfomnpbhpncpaaaQx32
import Derived.Test.YtfomnpbhpncpaaaQx34
import Derived.Test.YtfomnpbhpncpaaaQx35
import Derived.Test.YtfomnpbhpncpaaaQx38
namespace Go.Proofs.Ytfomnpbhpncpaaa.Q
open Go.RowKit Go.Proofs.YtfomnpbhpncpaaaW.PrintWords Go.Proofs.YtfomnpbhpncpaaaW.PrintLast Go.Proofs.YtfomnpbhpncpaaaW.PrintMore
attribute [local go_sem] max2_int min2_int max_two min_two max_three min_three max_four min_four   -- for this text's walks alone
set_option linter.unusedVariables false
set_option linter.unusedSimpArgs false

/-! ### laws_FnLayWrite: function 14 -/
mutual
def laws_FnLayWrite.j0 : Nat → ByteArray → Int → ByteArray → ByteArray → Bool → ByteArray → Bool → Bool → Int → Int → Option (Bool)
  | 0, _, _, _, _, _, _, _, _, _, _ => none
  | k + 1, x3, x4, x5, x8, x9, x10, x11, x64, x471000, x471001 => if x64 = true then (if x8.toList = x10.toList then (some (x9 == x11)) else (some false)) else (if (x3.size : Int) < x4 then ((impl_TextCut.f k x3 x4).bind fun bt476 => (laws_FnLayWrite.j1 k x4 x5 x8 bt476.1 x471000 x471001)) else (laws_FnLayWrite.j1 k x4 x5 x8 x3 x471000 x471001))
def laws_FnLayWrite.j1 : Nat → Int → ByteArray → ByteArray → ByteArray → Int → Int → Option (Bool)
  | 0, _, _, _, _, _, _ => none
  | k + 1, x4, x5, x8, x12, x471000, x471001 => (impl_LayOf.f k x471000 x471001 x12).bind fun t478 => ((impl_LayParts.f k x471000 x471001 x4 (wrap64 (x4 + (x5.size : Int)))).bind fun t481 => (laws_FnLayWrite.l0 k x4 x5 x8 t478 t481 0 x471000 x471001))
def laws_FnLayWrite.l0 : Nat → Int → ByteArray → ByteArray → List ByteArray → List (S68) → Int → Int → Int → Option (Bool)
  | 0, _, _, _, _, _, _, _, _ => none
  | k + 1, x4, x5, x8, x13, x14, x15, x471000, x471001 => if x15 < (x14.length : Int) then (if 0 ≤ x15 then (if 0 ≤ ((rd_T68 x14 x15).f0) then (if ((rd_T68 x14 x15).f0) < (x13.length : Int) then (if 0 ≤ (wrap64 (((rd_T68 x14 x15).f2) - x4)) then (if (wrap64 (((rd_T68 x14 x15).f2) - x4)) ≤ (wrap64 ((wrap64 ((wrap64 (((rd_T68 x14 x15).f2) - x4)) + ((rd_T68 x14 x15).f1.f1))) - ((rd_T68 x14 x15).f1.f0))) then (if (wrap64 ((wrap64 ((wrap64 (((rd_T68 x14 x15).f2) - x4)) + ((rd_T68 x14 x15).f1.f1))) - ((rd_T68 x14 x15).f1.f0))) ≤ (x5.size : Int) then ((impl_TextWrite.f k (rdOf ByteArray.empty x13 ((rd_T68 x14 x15).f0)) ((rd_T68 x14 x15).f1.f0) (x5.extract ((wrap64 (((rd_T68 x14 x15).f2) - x4)) : Int).toNat ((wrap64 ((wrap64 ((wrap64 (((rd_T68 x14 x15).f2) - x4)) + ((rd_T68 x14 x15).f1.f1))) - ((rd_T68 x14 x15).f1.f0))) : Int).toNat)).bind fun bt487 => (laws_FnLayWrite.l0 k x4 x5 x8 (x13.set (((rd_T68 x14 x15).f0) : Int).toNat bt487.1) x14 (wrap64 (x15 + 1)) x471000 x471001)) else (none)) else (none)) else (none)) else (none)) else (none)) else (none)) else ((impl_LayText.f k x471000 x471001 x13).bind fun bt490 => (if bt490.2 = true then (some (bt490.1.toList == x8.toList)) else (some false)))
end
def laws_FnLayWrite.f (k : Nat) (l0 : List Int) : Option (Bool) := if (l0.length : Int) > 1048576 then (some true) else ((spec_DrawTextWrite.f k l0).bind fun bt464 => ((spec_DrawLayOf.f k l0).bind fun bt467 => ((impl_TextWrite.f k bt464.1 bt464.2.1 bt464.2.2).bind fun bt471 => ((spec_TextWrite.f k bt464.1 bt464.2.1 bt464.2.2).bind fun bt473 => (if bt471.1.toList = bt473.1.toList then (if (bt471.2 != bt473.2) = true then (laws_FnLayWrite.j0 k bt464.1 bt464.2.1 bt464.2.2 bt471.1 bt471.2 bt473.1 bt473.2 true bt467.1 bt467.2.1) else (if bt471.2 = true then ((spec_LayOk.f bt467.1 bt467.2.1).bind fun t475 => (laws_FnLayWrite.j0 k bt464.1 bt464.2.1 bt464.2.2 bt471.1 bt471.2 bt473.1 bt473.2 (!t475) bt467.1 bt467.2.1)) else (laws_FnLayWrite.j0 k bt464.1 bt464.2.1 bt464.2.2 bt471.1 bt471.2 bt473.1 bt473.2 true bt467.1 bt467.2.1))) else (laws_FnLayWrite.j0 k bt464.1 bt464.2.1 bt464.2.2 bt471.1 bt471.2 bt473.1 bt473.2 true bt467.1 bt467.2.1))))))
theorem laws_FnLayWrite.mono_l : ∀ k, (∀ y0 y1 y2 y3 y4 y5 y6 y7 y8 y9, LeO (laws_FnLayWrite.j0 k y0 y1 y2 y3 y4 y5 y6 y7 y8 y9) (laws_FnLayWrite.j0 (k + 1) y0 y1 y2 y3 y4 y5 y6 y7 y8 y9)) ∧ (∀ y0 y1 y2 y3 y4 y5, LeO (laws_FnLayWrite.j1 k y0 y1 y2 y3 y4 y5) (laws_FnLayWrite.j1 (k + 1) y0 y1 y2 y3 y4 y5)) ∧ (∀ y0 y1 y2 y3 y4 y5 y6 y7, LeO (laws_FnLayWrite.l0 k y0 y1 y2 y3 y4 y5 y6 y7) (laws_FnLayWrite.l0 (k + 1) y0 y1 y2 y3 y4 y5 y6 y7))
  | 0 => ⟨fun _ _ _ _ _ _ _ _ _ _ r h => by simp [laws_FnLayWrite.j0] at h, fun _ _ _ _ _ _ r h => by simp [laws_FnLayWrite.j1] at h, fun _ _ _ _ _ _ _ _ r h => by simp [laws_FnLayWrite.l0] at h⟩
  | k + 1 => by
    obtain ⟨ih0, ih1, ih2⟩ := laws_FnLayWrite.mono_l k
    refine ⟨?_, ?_, ?_⟩
    · intro y0 y1 y2 y3 y4 y5 y6 y7 y8 y9
      unfold laws_FnLayWrite.j0
      repeat' first
      | (with_reducible exact ih0 _ _ _ _ _ _ _ _ _ _)
      | (with_reducible exact ih1 _ _ _ _ _ _)
      | (with_reducible exact ih2 _ _ _ _ _ _ _ _)
      | (with_reducible exact impl_LayOf.mono _ _ _ _)
      | (with_reducible exact impl_LayParts.mono _ _ _ _ _)
      | (with_reducible exact impl_LayText.mono _ _ _ _)
      | (with_reducible exact impl_TextCut.mono _ _ _)
      | (with_reducible exact impl_TextWrite.mono _ _ _ _)
      | (with_reducible exact spec_DrawLayOf.mono _ _)
      | (with_reducible exact spec_DrawTextWrite.mono _ _)
      | (with_reducible exact spec_TextWrite.mono _ _ _ _)
      | (with_reducible exact LeO.refl _)
      | (with_reducible exact LeO.none _)
      | (with_reducible refine LeO.ite ?_ ?_)
      | (with_reducible refine LeO.bind ?_ (fun _ => ?_))
      | exact ih0 _ _ _ _ _ _ _ _ _ _
      | exact ih1 _ _ _ _ _ _
      | exact ih2 _ _ _ _ _ _ _ _
      | exact impl_LayOf.mono _ _ _ _
      | exact impl_LayParts.mono _ _ _ _ _
      | exact impl_LayText.mono _ _ _ _
      | exact impl_TextCut.mono _ _ _
      | exact impl_TextWrite.mono _ _ _ _
      | exact spec_DrawLayOf.mono _ _
      | exact spec_DrawTextWrite.mono _ _
      | exact spec_TextWrite.mono _ _ _ _
      | exact LeO.none _
      | refine LeO.ite ?_ ?_
      | refine LeO.bind ?_ (fun _ => ?_)
    · intro y0 y1 y2 y3 y4 y5
      unfold laws_FnLayWrite.j1
      repeat' first
      | (with_reducible exact ih0 _ _ _ _ _ _ _ _ _ _)
      | (with_reducible exact ih1 _ _ _ _ _ _)
      | (with_reducible exact ih2 _ _ _ _ _ _ _ _)
      | (with_reducible exact impl_LayOf.mono _ _ _ _)
      | (with_reducible exact impl_LayParts.mono _ _ _ _ _)
      | (with_reducible exact impl_LayText.mono _ _ _ _)
      | (with_reducible exact impl_TextCut.mono _ _ _)
      | (with_reducible exact impl_TextWrite.mono _ _ _ _)
      | (with_reducible exact spec_DrawLayOf.mono _ _)
      | (with_reducible exact spec_DrawTextWrite.mono _ _)
      | (with_reducible exact spec_TextWrite.mono _ _ _ _)
      | (with_reducible exact LeO.refl _)
      | (with_reducible exact LeO.none _)
      | (with_reducible refine LeO.ite ?_ ?_)
      | (with_reducible refine LeO.bind ?_ (fun _ => ?_))
      | exact ih0 _ _ _ _ _ _ _ _ _ _
      | exact ih1 _ _ _ _ _ _
      | exact ih2 _ _ _ _ _ _ _ _
      | exact impl_LayOf.mono _ _ _ _
      | exact impl_LayParts.mono _ _ _ _ _
      | exact impl_LayText.mono _ _ _ _
      | exact impl_TextCut.mono _ _ _
      | exact impl_TextWrite.mono _ _ _ _
      | exact spec_DrawLayOf.mono _ _
      | exact spec_DrawTextWrite.mono _ _
      | exact spec_TextWrite.mono _ _ _ _
      | exact LeO.none _
      | refine LeO.ite ?_ ?_
      | refine LeO.bind ?_ (fun _ => ?_)
    · intro y0 y1 y2 y3 y4 y5 y6 y7
      unfold laws_FnLayWrite.l0
      repeat' first
      | (with_reducible exact ih0 _ _ _ _ _ _ _ _ _ _)
      | (with_reducible exact ih1 _ _ _ _ _ _)
      | (with_reducible exact ih2 _ _ _ _ _ _ _ _)
      | (with_reducible exact impl_LayOf.mono _ _ _ _)
      | (with_reducible exact impl_LayParts.mono _ _ _ _ _)
      | (with_reducible exact impl_LayText.mono _ _ _ _)
      | (with_reducible exact impl_TextCut.mono _ _ _)
      | (with_reducible exact impl_TextWrite.mono _ _ _ _)
      | (with_reducible exact spec_DrawLayOf.mono _ _)
      | (with_reducible exact spec_DrawTextWrite.mono _ _)
      | (with_reducible exact spec_TextWrite.mono _ _ _ _)
      | (with_reducible exact LeO.refl _)
      | (with_reducible exact LeO.none _)
      | (with_reducible refine LeO.ite ?_ ?_)
      | (with_reducible refine LeO.bind ?_ (fun _ => ?_))
      | exact ih0 _ _ _ _ _ _ _ _ _ _
      | exact ih1 _ _ _ _ _ _
      | exact ih2 _ _ _ _ _ _ _ _
      | exact impl_LayOf.mono _ _ _ _
      | exact impl_LayParts.mono _ _ _ _ _
      | exact impl_LayText.mono _ _ _ _
      | exact impl_TextCut.mono _ _ _
      | exact impl_TextWrite.mono _ _ _ _
      | exact spec_DrawLayOf.mono _ _
      | exact spec_DrawTextWrite.mono _ _
      | exact spec_TextWrite.mono _ _ _ _
      | exact LeO.none _
      | refine LeO.ite ?_ ?_
      | refine LeO.bind ?_ (fun _ => ?_)
theorem laws_FnLayWrite.mono : ∀ a0 k, LeO (laws_FnLayWrite.f k a0) (laws_FnLayWrite.f (k + 1) a0) := by
  intro a0 k
  obtain ⟨ih0, ih1, ih2⟩ := laws_FnLayWrite.mono_l k
  unfold laws_FnLayWrite.f
  repeat' first
      | (with_reducible exact ih0 _ _ _ _ _ _ _ _ _ _)
      | (with_reducible exact ih1 _ _ _ _ _ _)
      | (with_reducible exact ih2 _ _ _ _ _ _ _ _)
      | (with_reducible exact impl_LayOf.mono _ _ _ _)
      | (with_reducible exact impl_LayParts.mono _ _ _ _ _)
      | (with_reducible exact impl_LayText.mono _ _ _ _)
      | (with_reducible exact impl_TextCut.mono _ _ _)
      | (with_reducible exact impl_TextWrite.mono _ _ _ _)
      | (with_reducible exact spec_DrawLayOf.mono _ _)
      | (with_reducible exact spec_DrawTextWrite.mono _ _)
      | (with_reducible exact spec_TextWrite.mono _ _ _ _)
      | (with_reducible exact LeO.refl _)
      | (with_reducible exact LeO.none _)
      | (with_reducible refine LeO.ite ?_ ?_)
      | (with_reducible refine LeO.bind ?_ (fun _ => ?_))
      | exact ih0 _ _ _ _ _ _ _ _ _ _
      | exact ih1 _ _ _ _ _ _
      | exact ih2 _ _ _ _ _ _ _ _
      | exact impl_LayOf.mono _ _ _ _
      | exact impl_LayParts.mono _ _ _ _ _
      | exact impl_LayText.mono _ _ _ _
      | exact impl_TextCut.mono _ _ _
      | exact impl_TextWrite.mono _ _ _ _
      | exact spec_DrawLayOf.mono _ _
      | exact spec_DrawTextWrite.mono _ _
      | exact spec_TextWrite.mono _ _ _ _
      | exact LeO.none _
      | refine LeO.ite ?_ ?_
      | refine LeO.bind ?_ (fun _ => ?_)
def laws_FnLayWrite.T19 : Bool × List (List Nat × List Nat) := (true, [([], []), ([], []), ([1], [1]), ([], []), ([], []), ([4], [4]), ([3, 5], [3, 5]), ([6], [6]), ([], []), ([8], [8]), ([9], [9]), ([], []), ([], []), ([], []), ([], []), ([14], [14]), ([15], [15]), ([13, 16], [13, 16]), ([], []), ([18], [18]), ([19], [19]), ([17, 20], [17, 20]), ([11, 12, 21], [11, 12, 21]), ([7, 10, 22], [7, 10, 22]), ([23], [23]), ([24], [24]), ([24], [24]), ([0, 2, 0, 1, 2, 3, 4, 5, 6, 7, 8, 9, 10, 11, 12, 13, 14, 15, 16, 17, 18, 19, 20, 21, 22, 23, 24, 25], [0, 2]), ([27, 25, 23, 0, 1, 2, 3, 4, 5, 6, 7, 8, 9, 10, 11, 12, 13, 14, 15, 16, 17, 18, 19, 20, 21, 22, 23, 24, 25], [25, 27])])
def laws_FnLayWrite.B19 : List Nat := [0, 0, 2, 0, 0, 16, 56, 120, 0, 256, 768, 0, 0, 0, 0, 16384, 49152, 122880, 0, 262144, 786432, 2088960, 4192256, 8388600, 16777208, 33554424, 33554424, 67108863, 201326591]
theorem laws_FnLayWrite.tab19 : rtab .any (opsOf Try.f14 19) = laws_FnLayWrite.T19 := by kernel_rfl
theorem laws_FnLayWrite.bits19 : waitsOk laws_FnLayWrite.T19.2 laws_FnLayWrite.B19 = true := by kernel_rfl
set_option maxHeartbeats 8000000 in
set_option maxRecDepth 100000 in
theorem laws_FnLayWrite.calls (k : Nat) (A0 : Option Addr) (c0 : Nat) (l0 : List Int) (r : Bool) (w : World) (hr0 : Kd.C (Kd.int .u8) w A0 l0.length l0) (hc0 : l0.length ≤ c0) (h : laws_FnLayWrite.f k l0 = some r) :
    Calls Try.prog 14 #[.slice A0 l0.length c0] w fun e w' => e = .returned (.bool r) ∧ Below w.heap.size w w' := by
  have hu59 := Try.underlying59
  have hu40 := Try.underlying40
  have hu68 := Try.underlying68
  have HR0 := Aside0.mk hr0
  have HC0 := Aside0.mk hc0
  clear hr0 hc0
  have HB := Aside0.mk (Below.refl w.heap.size w)
  have H : (if (l0.length : Int) > 1048576 then (some true) else ((spec_DrawTextWrite.f k l0).bind fun bt464 => ((spec_DrawLayOf.f k l0).bind fun bt467 => ((impl_TextWrite.f k bt464.1 bt464.2.1 bt464.2.2).bind fun bt471 => ((spec_TextWrite.f k bt464.1 bt464.2.1 bt464.2.2).bind fun bt473 => (if bt471.1.toList = bt473.1.toList then (if (bt471.2 != bt473.2) = true then (laws_FnLayWrite.j0 k bt464.1 bt464.2.1 bt464.2.2 bt471.1 bt471.2 bt473.1 bt473.2 true bt467.1 bt467.2.1) else (if bt471.2 = true then ((spec_LayOk.f bt467.1 bt467.2.1).bind fun t475 => (laws_FnLayWrite.j0 k bt464.1 bt464.2.1 bt464.2.2 bt471.1 bt471.2 bt473.1 bt473.2 (!t475) bt467.1 bt467.2.1)) else (laws_FnLayWrite.j0 k bt464.1 bt464.2.1 bt464.2.2 bt471.1 bt471.2 bt473.1 bt473.2 true bt467.1 bt467.2.1))) else (laws_FnLayWrite.j0 k bt464.1 bt464.2.1 bt464.2.2 bt471.1 bt471.2 bt473.1 bt473.2 true bt467.1 bt467.2.1))))))) = some r := h
  clear h
  by_cases c2 : (l0.length : Int) > 1048576
  · rw [if_pos c2] at H
    have c2b0 : decide (1048576 < (l0.length : Int)) = true := decide_eq_true c2
    have c2b1 : decide (1048576 < l0.length) = true := decide_eq_true (by omega)
    clear c2
    obtain rfl := Option.some.inj H
    go_enter Try.func14, Try.ntmps14
    go_wp2
    go_ret
    exact ⟨by first | rfl | (simp [errW_none, errW_some] <;> rfl) | (simp [*, errW_none, errW_some] <;> rfl), by repeat (first | (with_reducible first | exact HB.out | apply below_alloc | apply pw_below_drewN | apply below_drew1) | exact HB.out)⟩
  · rw [if_neg c2] at H
    have c2b0 : decide (1048576 < (l0.length : Int)) = false := decide_eq_false c2
    have c2b1 : decide (1048576 < l0.length) = false := decide_eq_false (by omega)
    clear c2
    replace H := Option.bind_eq_some_iff.mp H
    obtain ⟨⟨t464, t465, t466⟩, A30, H⟩ := H
    replace H : ((spec_DrawLayOf.f k l0).bind fun bt467 => ((impl_TextWrite.f k t464 t465 t466).bind fun bt471 => ((spec_TextWrite.f k t464 t465 t466).bind fun bt473 => (if bt471.1.toList = bt473.1.toList then (if (bt471.2 != bt473.2) = true then (laws_FnLayWrite.j0 k t464 t465 t466 bt471.1 bt471.2 bt473.1 bt473.2 true bt467.1 bt467.2.1) else (if bt471.2 = true then ((spec_LayOk.f bt467.1 bt467.2.1).bind fun t475 => (laws_FnLayWrite.j0 k t464 t465 t466 bt471.1 bt471.2 bt473.1 bt473.2 (!t475) bt467.1 bt467.2.1)) else (laws_FnLayWrite.j0 k t464 t465 t466 bt471.1 bt471.2 bt473.1 bt473.2 true bt467.1 bt467.2.1))) else (laws_FnLayWrite.j0 k t464 t465 t466 bt471.1 bt471.2 bt473.1 bt473.2 true bt467.1 bt467.2.1))))) = some r := H
    have A3 := Aside0.mk A30
    clear A30
    replace H := Option.bind_eq_some_iff.mp H
    obtain ⟨⟨t467, t468, t469⟩, A40, H⟩ := H
    replace H : ((impl_TextWrite.f k t464 t465 t466).bind fun bt471 => ((spec_TextWrite.f k t464 t465 t466).bind fun bt473 => (if bt471.1.toList = bt473.1.toList then (if (bt471.2 != bt473.2) = true then (laws_FnLayWrite.j0 k t464 t465 t466 bt471.1 bt471.2 bt473.1 bt473.2 true t467 t468) else (if bt471.2 = true then ((spec_LayOk.f t467 t468).bind fun t475 => (laws_FnLayWrite.j0 k t464 t465 t466 bt471.1 bt471.2 bt473.1 bt473.2 (!t475) t467 t468)) else (laws_FnLayWrite.j0 k t464 t465 t466 bt471.1 bt471.2 bt473.1 bt473.2 true t467 t468))) else (laws_FnLayWrite.j0 k t464 t465 t466 bt471.1 bt471.2 bt473.1 bt473.2 true t467 t468)))) = some r := H
    have A4 := Aside0.mk A40
    clear A40
    replace H := Option.bind_eq_some_iff.mp H
    obtain ⟨⟨t471, t472⟩, A50, H⟩ := H
    replace H : ((spec_TextWrite.f k t464 t465 t466).bind fun bt473 => (if t471.toList = bt473.1.toList then (if (t472 != bt473.2) = true then (laws_FnLayWrite.j0 k t464 t465 t466 t471 t472 bt473.1 bt473.2 true t467 t468) else (if t472 = true then ((spec_LayOk.f t467 t468).bind fun t475 => (laws_FnLayWrite.j0 k t464 t465 t466 t471 t472 bt473.1 bt473.2 (!t475) t467 t468)) else (laws_FnLayWrite.j0 k t464 t465 t466 t471 t472 bt473.1 bt473.2 true t467 t468))) else (laws_FnLayWrite.j0 k t464 t465 t466 t471 t472 bt473.1 bt473.2 true t467 t468))) = some r := H
    have A5 := Aside0.mk A50
    clear A50
    replace H := Option.bind_eq_some_iff.mp H
    obtain ⟨⟨t473, t474⟩, A60, H⟩ := H
    replace H : (if t471.toList = t473.toList then (if (t472 != t474) = true then (laws_FnLayWrite.j0 k t464 t465 t466 t471 t472 t473 t474 true t467 t468) else (if t472 = true then ((spec_LayOk.f t467 t468).bind fun t475 => (laws_FnLayWrite.j0 k t464 t465 t466 t471 t472 t473 t474 (!t475) t467 t468)) else (laws_FnLayWrite.j0 k t464 t465 t466 t471 t472 t473 t474 true t467 t468))) else (laws_FnLayWrite.j0 k t464 t465 t466 t471 t472 t473 t474 true t467 t468)) = some r := H
    have A6 := Aside0.mk A60
    clear A60
    have HC7 := Aside0.mk H
    clear H
    go_enter Try.func14, Try.ntmps14
    go_upto_region 7 with (first | ((with_reducible refine gate_callee (f := 28) rfl ?_); refine goesL_ (some 25) rfl rfl Try.func28 (by kernel_rfl) rfl #[.slice A0 l0.length c0] rfl (by (try simp only [List.map_toArray, List.map_cons, List.map_nil]); first | done | rfl | (simp only [List.length_drop, List.length_take]; rfl)) ?_; (with_reducible refine (spec_DrawTextWrite.calls k _ _ l0 t464 t465 t466 _ ?side1 ?side2 A3.out).mono ?_); (case side1 => repeat (first | exact HR0.out | (with_reducible refine Kd.C_alloc ?_ _) | (with_reducible refine Kd.C_drewN ?_ _) | (with_reducible refine Kd.C_drew ?_))); (case side2 => exact HC0.out); rintro e w8 ⟨rfl, hb⟩; refine ⟨_, rfl, ?_⟩; have n0_ := Aside0.mk (below_step (by repeat (first | (with_reducible first | exact HB.out | apply below_alloc | apply pw_below_drewN | apply below_drew1) | exact HB.out)) hb); clear HB; have HB := n0_; clear n0_; (try clear hb); (try clear hb2); (try clear hk); (try clear hi)) | ((with_reducible refine gate_callee (f := 38) rfl ?_); refine goesL_ (some 31) rfl rfl Try.func38 (by kernel_rfl) rfl #[.slice A0 l0.length c0] rfl (by (try simp only [List.map_toArray, List.map_cons, List.map_nil]); first | done | rfl | (simp only [List.length_drop, List.length_take]; rfl)) ?_; (with_reducible refine (spec_DrawLayOf.calls k _ _ l0 t467 t468 t469 _ ?side1 ?side2 A4.out).mono ?_); (case side1 => repeat (first | exact (Kd.C_below HR0.out HB.out) | (with_reducible refine Kd.C_alloc ?_ _) | (with_reducible refine Kd.C_drewN ?_ _) | (with_reducible refine Kd.C_drew ?_))); (case side2 => exact HC0.out); rintro e w9 ⟨rfl, hb⟩; refine ⟨_, rfl, ?_⟩; have n0_ := Aside0.mk (below_step (by repeat (first | (with_reducible first | exact HB.out | apply below_alloc | apply pw_below_drewN | apply below_drew1) | exact HB.out)) hb); clear HB; have HB := n0_; clear n0_; (try clear hb); (try clear hb2); (try clear hk); (try clear hi)) | ((with_reducible refine gate_dst (N := 6) rfl ?_); refine box_event ?hg (N := 6) ?hd (cs := #[.int .i64 0, .int .i64 0]) (t := 59) ?hr ?_; (case hd => rfl); (case hg => rfl); (case hr => first | (go_simp; done) | (go_simp; rfl)); intro gb470 hg w10 hbox hb; have n0_ := Aside0.mk (below_step (by repeat (first | (with_reducible first | exact HB.out | apply below_alloc | apply pw_below_drewN | apply below_drew1) | exact HB.out)) hb); have n1_ := Aside0.mk (hbox); have n2_ := Aside0.mk ((by rw [hg]; exact (below_size (by repeat (first | (with_reducible first | exact HB.out | apply below_alloc | apply pw_below_drewN | apply below_drew1) | exact HB.out))) : w.heap.size ≤ gb470)); have n3_ := Aside0.mk ((by rw [hg]; exact (below_size (by repeat (first | (with_reducible first | exact HB.out | apply below_alloc | apply pw_below_drewN | apply below_drew1) | exact HB.out))) : w.heap.size ≤ gb470)); clear HB; have HB := n0_; have BK470 := n1_; have GW470 := n2_; have GE470 := n3_; clear n0_ n1_ n2_ n3_; clear hb hbox hg; have hcz11_0 : w10.cell? ⟨gb470, 0, none⟩ = some (.int .i64 0) := (blk_cell BK470.out 0).trans rfl; have hcz11_1 : w10.cell? ⟨gb470, 1, none⟩ = some (.int .i64 0) := (blk_cell BK470.out 1).trans rfl; have hfz11_0 := blk_frozen BK470.out 0; have hfz11_1 := blk_frozen BK470.out 1) | ((with_reducible refine gate_callee (f := 18) rfl ?_); refine goesL_ (some 38) rfl rfl Try.func18 (by kernel_rfl) rfl #[.string t464, .int .i64 t465, .string t466] rfl (by (try simp only [List.map_toArray, List.map_cons, List.map_nil]); first | done | rfl | (simp only [List.length_drop, List.length_take]; rfl)) ?_; (with_reducible refine (impl_TextWrite.calls k t464 t465 t466 t471 t472 _ A5.out).mono ?_); rintro e w12 ⟨rfl, hb⟩; refine ⟨_, rfl, ?_⟩; have n0_ := Aside0.mk (blk_below (g := gb470) (o := .cells #[.int .i64 t467, .int .i64 t468] 59 (0, 0)) (by (with_reducible repeat (first | refine blk_drewN ?_ _ | refine blk_drew ?_ | refine blk_alloc ?_ _)); refine blk_put (cs := #[.int .i64 t467, .int .i64 0]) ?_ 1 _ rfl; (with_reducible repeat (first | refine blk_drewN ?_ _ | refine blk_drew ?_ | refine blk_alloc ?_ _)); refine blk_put (cs := #[.int .i64 0, .int .i64 0]) ?_ 0 _ rfl; (with_reducible repeat (first | refine blk_drewN ?_ _ | refine blk_drew ?_ | refine blk_alloc ?_ _)); exact BK470.out) hb); have n1_ := Aside0.mk (below_step (by repeat (first | (with_reducible first | exact HB.out | apply below_alloc | apply pw_below_drewN | apply below_drew1 | refine below_set ?_ GE470.out) | exact HB.out)) hb); clear BK470; clear HB; have BK470 := n0_; have HB := n1_; clear n0_ n1_; (try clear hb); (try clear hb2); (try clear hk); (try clear hi)) | ((with_reducible refine gate_callee (f := 17) rfl ?_); refine goesL_ (some 45) rfl rfl Try.func17 (by kernel_rfl) rfl #[.string t464, .int .i64 t465, .string t466] rfl (by (try simp only [List.map_toArray, List.map_cons, List.map_nil]); first | done | rfl | (simp only [List.length_drop, List.length_take]; rfl)) ?_; (with_reducible refine (spec_TextWrite.calls k t464 t465 t466 t473 t474 _ A6.out).mono ?_); rintro e w' ⟨rfl, ⟨nd, rfl⟩⟩; refine ⟨_, rfl, ?_⟩))
    (try simp only [Act.put, List.setIfInBounds_toArray, List.set_cons_zero, List.set_cons_succ])
    go_cut [64] (fun v64 wc => ∃ (kq : Nat) (x64_6 : Bool), v64 = .bool x64_6 ∧ Aside0 (laws_FnLayWrite.j0 kq t464 t465 t466 t471 t472 t473 t474 x64_6 t467 t468 = some r) ∧ Aside0 (kq ≤ k) ∧ Aside0 (wc.heap[gb470]? = some (.cells #[.int .i64 t467, .int .i64 t468] 59 (0, 0))) ∧ Aside0 (Below w.heap.size w wc))
    case first =>
      have H := HC7.out
      clear HC7
      by_cases c13 : t471.toList = t473.toList
      · rw [if_pos c13] at H
        have c13b0 : (t471.toList == t473.toList) = true := beq_iff_eq.mpr c13
        have c13b1 : (t471.toList != t473.toList) = false := bne_eq_false_iff_eq.mpr c13
        clear c13
        (first | rw [c13b0] | (simp only [i64_w, i32_w]; rw [c13b0]) | skip)
        by_cases c14 : (t472 != t474) = true
        · rw [if_pos c14] at H
          have c14b0 : (t472 != t474) = true := c14
          (try (have c14b1 : decide (t472 = t474) = false := by simpa using c14))
          (try (have c14b2 : (t472 == t474) = false := by simpa using c14))
          (try (have c14b3 : ¬ (t472 = t474) := by simpa using c14))
          clear c14
          have H' := Aside0.mk H
          clear H
          go_wp2
          go_meet
          case rel => exact ⟨_, (true), (by first | rfl | (simp; done) | (simp [*]; done)), H', ⟨by first | omega | exact Nat.le_refl _⟩, ⟨by (with_reducible repeat (first | refine blk_drewN ?_ _ | refine blk_drew ?_ | refine blk_alloc ?_ _)); exact BK470.out⟩, ⟨by repeat (first | (with_reducible first | exact HB.out | apply below_alloc | apply pw_below_drewN | apply below_drew1 | refine below_set ?_ GE470.out) | exact HB.out)⟩⟩
        · rw [if_neg c14] at H
          have c14b0 : (t472 != t474) = false := by simpa using c14
          (try (have c14b1 : decide (t472 = t474) = true := by simpa using c14))
          (try (have c14b2 : (t472 == t474) = true := by simpa using c14))
          clear c14
          by_cases c15 : t472 = true
          · subst c15
            have H1 : ((spec_LayOk.f t467 t468).bind fun t475 => (laws_FnLayWrite.j0 k t464 t465 t466 t471 true t473 t474 (!t475) t467 t468)) = some r := by rw [if_pos rfl] at H; exact H
            clear H
            have H := H1
            clear H1
            replace H := Option.bind_eq_some_iff.mp H
            obtain ⟨t475, A160, H⟩ := H
            replace H : (laws_FnLayWrite.j0 k t464 t465 t466 t471 true t473 t474 (!t475) t467 t468) = some r := H
            have A16 := Aside0.mk A160
            clear A160
            have H' := Aside0.mk H
            clear H
            have hcz17_0 : w12.cell? ⟨gb470, 0, none⟩ = some (.int .i64 t467) := (blk_cell BK470.out 0).trans rfl
            have hcz17_1 : w12.cell? ⟨gb470, 1, none⟩ = some (.int .i64 t468) := (blk_cell BK470.out 1).trans rfl
            have hfz17_0 := blk_frozen BK470.out 0
            have hfz17_1 := blk_frozen BK470.out 1
            go_wp2_with (first | (go_at_call 39; (with_reducible refine (spec_LayOk.calls t467 t468 t475 _ A16.out).mono ?_); rintro e w18 ⟨rfl, hb⟩; have n0_ := Aside0.mk (blk_below (g := gb470) (o := .cells #[.int .i64 t467, .int .i64 t468] 59 (0, 0)) (by (with_reducible repeat (first | refine blk_drewN ?_ _ | refine blk_drew ?_ | refine blk_alloc ?_ _)); exact BK470.out) hb); have n1_ := Aside0.mk (below_step (by repeat (first | (with_reducible first | exact HB.out | apply below_alloc | apply pw_below_drewN | apply below_drew1 | refine below_set ?_ GE470.out) | exact HB.out)) hb); clear BK470; clear HB; have BK470 := n0_; have HB := n1_; clear n0_ n1_; (try clear hb); (try clear hb2); (try clear hk); (try clear hi)))
            go_meet
            case rel => exact ⟨_, (!t475), (by first | rfl | (simp; done) | (simp [*]; done)), H', ⟨by first | omega | exact Nat.le_refl _⟩, ⟨by (with_reducible repeat (first | refine blk_drewN ?_ _ | refine blk_drew ?_ | refine blk_alloc ?_ _)); exact BK470.out⟩, ⟨by repeat (first | (with_reducible first | exact HB.out | apply below_alloc | apply pw_below_drewN | apply below_drew1 | refine below_set ?_ GE470.out) | exact HB.out)⟩⟩
          · replace c15 := Bool.eq_false_iff.mpr c15
            subst c15
            have H1 : (laws_FnLayWrite.j0 k t464 t465 t466 t471 false t473 t474 true t467 t468) = some r := by rw [if_neg (show ¬ (false = true) by decide)] at H; exact H
            clear H
            have H := H1
            clear H1
            have H' := Aside0.mk H
            clear H
            go_wp2
            go_meet
            case rel => exact ⟨_, (true), (by first | rfl | (simp; done) | (simp [*]; done)), H', ⟨by first | omega | exact Nat.le_refl _⟩, ⟨by (with_reducible repeat (first | refine blk_drewN ?_ _ | refine blk_drew ?_ | refine blk_alloc ?_ _)); exact BK470.out⟩, ⟨by repeat (first | (with_reducible first | exact HB.out | apply below_alloc | apply pw_below_drewN | apply below_drew1 | refine below_set ?_ GE470.out) | exact HB.out)⟩⟩
      · rw [if_neg c13] at H
        have c13b0 : (t471.toList == t473.toList) = false := beq_eq_false_iff_ne.mpr c13
        have c13b1 : (t471.toList != t473.toList) = true := bne_iff_ne.mpr c13
        (first | rw [c13b0] | (simp only [i64_w, i32_w]; rw [c13b0]) | skip)
        have H' := Aside0.mk H
        clear H
        go_wp2
        go_meet
        case rel => exact ⟨_, (true), (by first | rfl | (simp; done) | (simp [*]; done)), H', ⟨by first | omega | exact Nat.le_refl _⟩, ⟨by (with_reducible repeat (first | refine blk_drewN ?_ _ | refine blk_drew ?_ | refine blk_alloc ?_ _)); exact BK470.out⟩, ⟨by repeat (first | (with_reducible first | exact HB.out | apply below_alloc | apply pw_below_drewN | apply below_drew1 | refine below_set ?_ GE470.out) | exact HB.out)⟩⟩
    case rest =>
      clear HC7
      try clear c1
      try clear c2
      try clear c2b0
      try clear c2b1
      try clear p2
      try clear c3
      try clear c13
      try clear c13b0
      try clear c13b1
      try clear c14
      try clear c14b0
      try clear c14b1
      try clear c14b2
      try clear c15
      try clear c17
      try clear c18
      try clear hcz11_0
      try clear hcz11_1
      try clear hcz17_0
      try clear hcz17_1
      try clear hfz11_0
      try clear hfz11_1
      try clear hfz17_0
      try clear hfz17_1
      obtain ⟨kq, x64_6, rfl, HA, HJ6, BK470, HB⟩ := hcut
      cases kq with
      | zero => exact absurd HA.out (by simp [laws_FnLayWrite.j0])
      | succ kj6 =>
        have H := HA.out
        clear HA
        simp only [laws_FnLayWrite.j0] at H
        by_cases c19 : x64_6 = true
        · subst c19
          have H1 : (if t471.toList = t473.toList then (some (t472 == t474)) else (some false)) = some r := by rw [if_pos rfl] at H; exact H
          clear H
          have H := H1
          clear H1
          by_cases c20 : t471.toList = t473.toList
          · rw [if_pos c20] at H
            have c20b0 : (t471.toList == t473.toList) = true := beq_iff_eq.mpr c20
            have c20b1 : (t471.toList != t473.toList) = false := bne_eq_false_iff_eq.mpr c20
            clear c20
            obtain rfl := Option.some.inj H
            go_wp2
            go_ret
            exact ⟨by first | rfl | (simp [errW_none, errW_some] <;> rfl) | (simp [*, errW_none, errW_some] <;> rfl), by repeat (first | (with_reducible first | exact HB.out | apply below_alloc | apply pw_below_drewN | apply below_drew1 | refine below_set ?_ GE470.out) | exact HB.out)⟩
          · rw [if_neg c20] at H
            have c20b0 : (t471.toList == t473.toList) = false := beq_eq_false_iff_ne.mpr c20
            have c20b1 : (t471.toList != t473.toList) = true := bne_iff_ne.mpr c20
            obtain rfl := Option.some.inj H
            go_wp2
            go_ret
            exact ⟨by first | rfl | (simp [errW_none, errW_some] <;> rfl) | (simp [*, errW_none, errW_some] <;> rfl), by repeat (first | (with_reducible first | exact HB.out | apply below_alloc | apply pw_below_drewN | apply below_drew1 | refine below_set ?_ GE470.out) | exact HB.out)⟩
        · replace c19 := Bool.eq_false_iff.mpr c19
          subst c19
          have H1 : (if (t464.size : Int) < t465 then ((impl_TextCut.f kj6 t464 t465).bind fun bt476 => (laws_FnLayWrite.j1 kj6 t465 t466 t471 bt476.1 t467 t468)) else (laws_FnLayWrite.j1 kj6 t465 t466 t471 t464 t467 t468)) = some r := by rw [if_neg (show ¬ (false = true) by decide)] at H; exact H
          clear H
          have H := H1
          clear H1
          have HC21 := Aside0.mk H
          clear H
          go_upto_if 77 with (fail)
          go_cut [12] (fun v12 wc => ∃ (kq : Nat) (x12_20 : ByteArray), v12 = .string x12_20 ∧ Aside0 (laws_FnLayWrite.j1 kq t465 t466 t471 x12_20 t467 t468 = some r) ∧ Aside0 (kq ≤ kj6) ∧ Aside0 (wc.heap[gb470]? = some (.cells #[.int .i64 t467, .int .i64 t468] 59 (0, 0))) ∧ Aside0 (Below w.heap.size w wc))
          case first =>
            have H := HC21.out
            clear HC21
            by_cases c22 : (t464.size : Int) < t465
            · rw [if_pos c22] at H
              have c22b0 : decide ((t464.size : Int) < t465) = true := decide_eq_true c22
              clear c22
              (first | rw [c22b0] | (simp only [i64_w, i32_w]; rw [c22b0]) | skip)
              replace H := Option.bind_eq_some_iff.mp H
              obtain ⟨⟨t476, t477⟩, A230, H⟩ := H
              replace H : (laws_FnLayWrite.j1 kj6 t465 t466 t471 t476 t467 t468) = some r := H
              have A23 := Aside0.mk A230
              clear A230
              have H' := Aside0.mk H
              clear H
              go_wp2_with (first | ((with_reducible refine gate_callee (f := 16) rfl ?_); refine goesL_ (some 81) rfl rfl Try.func16 (by kernel_rfl) rfl #[.string t464, .int .i64 t465] rfl (by (try simp only [List.map_toArray, List.map_cons, List.map_nil]); first | done | rfl | (simp only [List.length_drop, List.length_take]; rfl)) ?_; (with_reducible refine (impl_TextCut.calls kj6 t464 t465 t476 t477 _ A23.out).mono ?_); rintro e w24 ⟨rfl, hb⟩; refine ⟨_, rfl, ?_⟩; have n0_ := Aside0.mk (blk_below (g := gb470) (o := .cells #[.int .i64 t467, .int .i64 t468] 59 (0, 0)) (by (with_reducible repeat (first | refine blk_drewN ?_ _ | refine blk_drew ?_ | refine blk_alloc ?_ _)); exact BK470.out) hb); have n1_ := Aside0.mk (below_step (by repeat (first | (with_reducible first | exact HB.out | apply below_alloc | apply pw_below_drewN | apply below_drew1 | refine below_set ?_ GE470.out) | exact HB.out)) hb); clear BK470; clear HB; have BK470 := n0_; have HB := n1_; clear n0_ n1_; (try clear hb); (try clear hb2); (try clear hk); (try clear hi)))
              go_meet
              case rel => exact ⟨_, (t476), (by first | rfl | (simp; done) | (simp [*]; done)), H', ⟨by have := HJ6.out; first | omega | exact Nat.le_refl _⟩, ⟨by (with_reducible repeat (first | refine blk_drewN ?_ _ | refine blk_drew ?_ | refine blk_alloc ?_ _)); exact BK470.out⟩, ⟨by repeat (first | (with_reducible first | exact HB.out | apply below_alloc | apply pw_below_drewN | apply below_drew1 | refine below_set ?_ GE470.out) | exact HB.out)⟩⟩
            · rw [if_neg c22] at H
              have c22b0 : decide ((t464.size : Int) < t465) = false := decide_eq_false c22
              clear c22
              (first | rw [c22b0] | (simp only [i64_w, i32_w]; rw [c22b0]) | skip)
              have H' := Aside0.mk H
              clear H
              go_wp2
              go_meet
              case rel => exact ⟨_, (t464), (by first | rfl | (simp; done) | (simp [*]; done)), H', ⟨by have := HJ6.out; first | omega | exact Nat.le_refl _⟩, ⟨by (with_reducible repeat (first | refine blk_drewN ?_ _ | refine blk_drew ?_ | refine blk_alloc ?_ _)); exact BK470.out⟩, ⟨by repeat (first | (with_reducible first | exact HB.out | apply below_alloc | apply pw_below_drewN | apply below_drew1 | refine below_set ?_ GE470.out) | exact HB.out)⟩⟩
          case rest =>
            clear HC21
            try clear c1
            try clear c2
            try clear c2b0
            try clear c2b1
            try clear p2
            try clear c3
            try clear c13
            try clear c13b0
            try clear c13b1
            try clear c14
            try clear c14b0
            try clear c14b1
            try clear c14b2
            try clear c15
            try clear c16
            try clear c17
            try clear c18
            try clear c19
            try clear c20
            try clear c20b0
            try clear c20b1
            try clear c22
            try clear c22b0
            try clear hcz11_0
            try clear hcz11_1
            try clear hcz17_0
            try clear hcz17_1
            try clear hfz11_0
            try clear hfz11_1
            try clear hfz17_0
            try clear hfz17_1
            try clear p2
            obtain ⟨kq, x12_20, rfl, HA, HJ20, BK470, HB⟩ := hcut
            cases kq with
            | zero => exact absurd HA.out (by simp [laws_FnLayWrite.j1])
            | succ kj20 =>
              have H := HA.out
              clear HA
              simp only [laws_FnLayWrite.j1] at H
              replace H := Option.bind_eq_some_iff.mp H
              obtain ⟨t478, A250, H⟩ := H
              replace H : ((impl_LayParts.f kj20 t467 t468 t465 (wrap64 (t465 + (t466.size : Int)))).bind fun t481 => (laws_FnLayWrite.l0 kj20 t465 t466 t471 t478 t481 0 t467 t468)) = some r := H
              have A25 := Aside0.mk A250
              clear A250
              replace H := Option.bind_eq_some_iff.mp H
              obtain ⟨t481, A260, H⟩ := H
              replace H : (laws_FnLayWrite.l0 kj20 t465 t466 t471 t478 t481 0 t467 t468) = some r := H
              have A26 := Aside0.mk A260
              clear A260
              have H' := Aside0.mk H
              clear H
              have hcz27_0 : wc.cell? ⟨gb470, 0, none⟩ = some (.int .i64 t467) := (blk_cell BK470.out 0).trans rfl
              have hcz27_1 : wc.cell? ⟨gb470, 1, none⟩ = some (.int .i64 t468) := (blk_cell BK470.out 1).trans rfl
              have hfz27_0 := blk_frozen BK470.out 0
              have hfz27_1 := blk_frozen BK470.out 1
              go_wp2_with (first | ((with_reducible refine gate_callee (f := 40) rfl ?_); refine goesL_ (some 86) rfl rfl Try.func40 (by kernel_rfl) rfl #[.agg #[.int .i64 t467, .int .i64 t468], .string x12_20] rfl (by (try simp only [List.map_toArray, List.map_cons, List.map_nil]); first | done | rfl | (simp only [List.length_drop, List.length_take]; rfl)) ?_; (with_reducible refine (impl_LayOf.calls kj20 t467 t468 x12_20 t478 _ A25.out).mono ?_); rintro e w28 ⟨v479, rfl, ho0, hb⟩; refine ⟨_, rfl, ?_⟩; have n0_ := Aside0.mk (Kd.R_lower ho0 (below_size (by repeat (first | (with_reducible first | exact HB.out | apply below_alloc | apply pw_below_drewN | apply below_drew1 | refine below_set ?_ GE470.out) | exact HB.out)))); have n1_ := Aside0.mk (blk_below (g := gb470) (o := .cells #[.int .i64 t467, .int .i64 t468] 59 (0, 0)) (by (with_reducible repeat (first | refine blk_drewN ?_ _ | refine blk_drew ?_ | refine blk_alloc ?_ _)); exact BK470.out) hb); have n2_ := Aside0.mk (below_step (by repeat (first | (with_reducible first | exact HB.out | apply below_alloc | apply pw_below_drewN | apply below_drew1 | refine below_set ?_ GE470.out) | exact HB.out)) hb); clear BK470; clear HB; have HO480 := n0_; have BK470 := n1_; have HB := n2_; clear n0_ n1_ n2_; (try clear hb); (try clear hb2); (try clear hk); (try clear hi); (try clear ho0); have hcz29_0 : w28.cell? ⟨gb470, 0, none⟩ = some (.int .i64 t467) := (blk_cell BK470.out 0).trans rfl; have hcz29_1 : w28.cell? ⟨gb470, 1, none⟩ = some (.int .i64 t468) := (blk_cell BK470.out 1).trans rfl; have hfz29_0 := blk_frozen BK470.out 0; have hfz29_1 := blk_frozen BK470.out 1) | ((with_reducible refine gate_callee (f := 41) rfl ?_); refine goesL_ (some 94) rfl rfl Try.func41 (by kernel_rfl) rfl #[.agg #[.int .i64 t467, .int .i64 t468], .agg #[.int .i64 t465, .int .i64 (wrap64 (t465 + (t466.size : Int)))]] rfl (by (try simp only [List.map_toArray, List.map_cons, List.map_nil]); first | done | rfl | (simp only [List.length_drop, List.length_take]; rfl)) ?_; (with_reducible refine (impl_LayParts.calls kj20 t467 t468 t465 (wrap64 (t465 + (t466.size : Int))) t481 _ A26.out).mono ?_); rintro e w30 ⟨v482, rfl, ho0, hb⟩; refine ⟨_, rfl, ?_⟩; have n0_ := Aside0.mk (Kd.R_below (by (with_reducible repeat (first | apply Kd.R_alloc | apply Kd.R_drewN | apply Kd.R_drew)); exact HO480.out) hb); have n1_ := Aside0.mk (Kd.R_lower ho0 (below_size (by repeat (first | (with_reducible first | exact HB.out | apply below_alloc | apply pw_below_drewN | apply below_drew1 | refine below_set ?_ GE470.out) | exact HB.out)))); have n2_ := Aside0.mk (blk_below (g := gb470) (o := .cells #[.int .i64 t467, .int .i64 t468] 59 (0, 0)) (by (with_reducible repeat (first | refine blk_drewN ?_ _ | refine blk_drew ?_ | refine blk_alloc ?_ _)); exact BK470.out) hb); have n3_ := Aside0.mk (below_step (by repeat (first | (with_reducible first | exact HB.out | apply below_alloc | apply pw_below_drewN | apply below_drew1 | refine below_set ?_ GE470.out) | exact HB.out)) hb); clear HO480; clear BK470; clear HB; have HO480 := n0_; have HO483 := n1_; have BK470 := n2_; have HB := n3_; clear n0_ n1_ n2_ n3_; (try clear hb); (try clear hb2); (try clear hk); (try clear hi); (try clear ho0)))
              go_loopg [15] kj20 (fun kq v15 w' => ∃ (x13_3 : List ByteArray) (x15_3 : Int), v15 = .int .i64 x15_3 ∧ Aside0 (laws_FnLayWrite.l0 kq t465 t466 t471 x13_3 t481 x15_3 t467 t468 = some r) ∧ Aside0 (kq ≤ kj20) ∧ Aside0 (Kd.R Kd.string 9 w' w.heap.size (fun _ => True) v479 x13_3) ∧ Aside0 (Kd.R k68 68 w' w.heap.size (fun _ => True) v482 t481) ∧ Aside0 (w'.heap[gb470]? = some (.cells #[.int .i64 t467, .int .i64 t468] 59 (0, 0))) ∧ Aside0 (Below w.heap.size w w'))
              case atStart => exact ⟨(t478), (0), (by first | rfl | (simp; done) | (simp [*]; done)), H', ⟨Nat.le_refl _⟩, ⟨by (with_reducible repeat (first | apply Kd.R_alloc | apply Kd.R_drewN | apply Kd.R_drew)); exact HO480.out⟩, ⟨by (with_reducible repeat (first | apply Kd.R_alloc | apply Kd.R_drewN | apply Kd.R_drew)); exact HO483.out⟩, ⟨by (with_reducible repeat (first | refine blk_drewN ?_ _ | refine blk_drew ?_ | refine blk_alloc ?_ _)); exact BK470.out⟩, ⟨by repeat (first | (with_reducible first | exact HB.out | apply below_alloc | apply pw_below_drewN | apply below_drew1 | refine below_set ?_ GE470.out) | exact HB.out)⟩⟩
              case round =>
                clear H'
                try clear c1
                try clear c2
                try clear c2b0
                try clear c2b1
                try clear p2
                try clear c3
                try clear c4
                try clear p6
                try clear c13
                try clear c13b0
                try clear c13b1
                try clear c14
                try clear c14b0
                try clear c14b1
                try clear c14b2
                try clear c15
                try clear c16
                try clear c17
                try clear c18
                try clear c19
                try clear c20
                try clear c20b0
                try clear c20b1
                try clear c22
                try clear c22b0
                try clear c28
                try clear hcz11_0
                try clear hcz11_1
                try clear hcz17_0
                try clear hcz17_1
                try clear hcz27_0
                try clear hcz27_1
                try clear hcz29_0
                try clear hcz29_1
                try clear hfz11_0
                try clear hfz11_1
                try clear hfz17_0
                try clear hfz17_1
                try clear hfz27_0
                try clear hfz27_1
                try clear hfz29_0
                try clear hfz29_1
                try clear p2
                obtain ⟨x13_3, x15_3, rfl, HA, HK3, HO_13, HO_14, BK470, HB⟩ := hrel
                cases gk with
                | zero => exact absurd HA.out (by simp [laws_FnLayWrite.l0])
                | succ k3 =>
                  have H := HA.out
                  clear HA
                  simp only [laws_FnLayWrite.l0] at H
                  by_cases c31 : x15_3 < (t481.length : Int)
                  · rw [if_pos c31] at H
                    have c31b0 : decide (x15_3 < (t481.length : Int)) = true := decide_eq_true c31
                    clear c31
                    by_cases c32 : 0 ≤ x15_3
                    · rw [if_pos c32] at H
                      have c32b0 : decide (0 ≤ x15_3) = true := decide_eq_true c32
                      clear c32
                      by_cases c33 : 0 ≤ ((rd_T68 t481 x15_3).f0)
                      · rw [if_pos c33] at H
                        have c33b0 : decide (0 ≤ ((rd_T68 t481 x15_3).f0)) = true := decide_eq_true c33
                        clear c33
                        by_cases c34 : ((rd_T68 t481 x15_3).f0) < (x13_3.length : Int)
                        · rw [if_pos c34] at H
                          have c34b0 : decide (((rd_T68 t481 x15_3).f0) < (x13_3.length : Int)) = true := decide_eq_true c34
                          clear c34
                          obtain ⟨ji35, hji35⟩ : ∃ j_ : Int, (wrap64 (((rd_T68 t481 x15_3).f2) - t465)) = j_ := ⟨_, rfl⟩
                          replace H : (if 0 ≤ (ji35) then (if (ji35) ≤ (wrap64 ((wrap64 ((ji35) + ((rd_T68 t481 x15_3).f1.f1))) - ((rd_T68 t481 x15_3).f1.f0))) then (if (wrap64 ((wrap64 ((ji35) + ((rd_T68 t481 x15_3).f1.f1))) - ((rd_T68 t481 x15_3).f1.f0))) ≤ (t466.size : Int) then ((impl_TextWrite.f k3 (rdOf ByteArray.empty x13_3 ((rd_T68 t481 x15_3).f0)) ((rd_T68 t481 x15_3).f1.f0) (t466.extract ((ji35) : Int).toNat ((wrap64 ((wrap64 ((ji35) + ((rd_T68 t481 x15_3).f1.f1))) - ((rd_T68 t481 x15_3).f1.f0))) : Int).toNat)).bind fun bt487 => (laws_FnLayWrite.l0 k3 t465 t466 t471 (x13_3.set (((rd_T68 t481 x15_3).f0) : Int).toNat bt487.1) t481 (wrap64 (x15_3 + 1)) t467 t468)) else (none)) else (none)) else (none)) = some r := by first | (rw [hji35] at H; exact H) | (simp only [hji35] at H ⊢; exact H)
                          have hji35w : (IntKind.i64.wrap (((rd_T68 t481 x15_3).f2) - t465)) = ji35 := (i64_w _).trans hji35
                          by_cases c36 : 0 ≤ (ji35)
                          · rw [if_pos c36] at H
                            have c36b0 := eq_true c36
                            have c36b1 : decide (0 ≤ (ji35)) = true := decide_eq_true c36
                            clear c36
                            by_cases c37 : (ji35) ≤ (wrap64 ((wrap64 ((ji35) + ((rd_T68 t481 x15_3).f1.f1))) - ((rd_T68 t481 x15_3).f1.f0)))
                            · rw [if_pos c37] at H
                              have c37b0 := eq_true c37
                              have c37b1 : decide ((ji35) ≤ (wrap64 ((wrap64 ((ji35) + ((rd_T68 t481 x15_3).f1.f1))) - ((rd_T68 t481 x15_3).f1.f0)))) = true := decide_eq_true c37
                              by_cases c38 : (wrap64 ((wrap64 ((ji35) + ((rd_T68 t481 x15_3).f1.f1))) - ((rd_T68 t481 x15_3).f1.f0))) ≤ (t466.size : Int)
                              · rw [if_pos c38] at H
                                have c38b0 := eq_true c38
                                have c38b1 : decide ((wrap64 ((wrap64 ((ji35) + ((rd_T68 t481 x15_3).f1.f1))) - ((rd_T68 t481 x15_3).f1.f0))) ≤ (t466.size : Int)) = true := decide_eq_true c38
                                replace H := Option.bind_eq_some_iff.mp H
                                obtain ⟨⟨t487, t488⟩, A390, H⟩ := H
                                replace H : (laws_FnLayWrite.l0 k3 t465 t466 t471 (x13_3.set (((rd_T68 t481 x15_3).f0) : Int).toNat t487) t481 (wrap64 (x15_3 + 1)) t467 t468) = some r := H
                                have A39 := Aside0.mk A390
                                clear A390
                                obtain ⟨y489, hy489⟩ : ∃ y_ : List ByteArray, y_ = (x13_3.set (((rd_T68 t481 x15_3).f0) : Int).toNat t487) := ⟨_, rfl⟩
                                replace H : (laws_FnLayWrite.l0 k3 t465 t466 t471 y489 t481 (wrap64 (x15_3 + 1)) t467 t468) = some r := by first | (rw [hy489]; with_reducible exact H) | (have H2_ := (Option.bind_some _ _).symm.trans H; rw [hy489]; with_reducible exact H2_) | (have H2_ := (Option.bind_some _ _).symm.trans H; with_reducible exact H2_) | with_reducible exact H | (rw [hy489]; exact H) | exact H
                                have Ny489 := Aside0.mk hy489
                                clear hy489
                                have H' := Aside0.mk H
                                clear H
                                obtain ⟨Ao41, co41, eo41⟩ := Kd.R_slice HO_14.out
                                subst eo41
                                have p484 : 0 ≤ (x15_3 : Int) := of_decide_eq_true (by first | (with_reducible assumption) | assumption)
                                have q484 : x15_3 < (t481.length : Int) := of_decide_eq_true (by first | (with_reducible assumption) | assumption)
                                obtain ⟨ad484, e484, hx484_0, hx484_1, hx484_2, hx484_3⟩ := at_T68 (Kd.R_reads' HO_14.out).2.2 x15_3 p484 q484
                                cases e484
                                replace p484 := eq_true p484
                                replace q484 := eq_true q484
                                try go_wp2_with (first | ((with_reducible refine gate_dst (N := 16) rfl ?_); refine box_event ?hg (N := 16) ?hd (cs := #[.int .i64 0, .int .i64 0, .int .i64 0, .int .i64 0]) (t := 68) ?hr ?_; (case hd => rfl); (case hg => rfl); (case hr => first | (go_simp; done) | (go_simp; rfl)); intro gb485 hg w42 hbox hb; have n0_ := Aside0.mk (Kd.R_below (by (with_reducible repeat (first | apply Kd.R_alloc | apply Kd.R_drewN | apply Kd.R_drew)); exact HO_13.out) hb); have n1_ := Aside0.mk (Kd.R_below (Kd.R_elderB (by (with_reducible repeat (first | apply Kd.R_alloc | apply Kd.R_drewN | apply Kd.R_drew)); exact HO_14.out) gb485 (Nat.le_of_eq hg.symm)) hb); have n2_ := Aside0.mk (blk_below (g := gb470) (o := .cells #[.int .i64 t467, .int .i64 t468] 59 (0, 0)) (by (with_reducible repeat (first | refine blk_drewN ?_ _ | refine blk_drew ?_ | refine blk_alloc ?_ _)); exact BK470.out) hb); have n3_ := Aside0.mk (below_step (by repeat (first | (with_reducible first | exact HB.out | apply below_alloc | apply pw_below_drewN | apply below_drew1 | refine below_set ?_ GE470.out) | exact HB.out)) hb); have n4_ := Aside0.mk (hbox); have n5_ := Aside0.mk ((by rw [hg]; exact (below_size (by repeat (first | (with_reducible first | exact HB.out | apply below_alloc | apply pw_below_drewN | apply below_drew1 | refine below_set ?_ GE470.out) | exact HB.out))) : w.heap.size ≤ gb485)); have n6_ := Aside0.mk ((by rw [hg]; exact (below_size (by repeat (first | (with_reducible first | exact HB.out | apply below_alloc | apply pw_below_drewN | apply below_drew1 | refine below_set ?_ GE470.out) | exact HB.out))) : w.heap.size ≤ gb485)); have n7_ := Aside0.mk ((by rw [hg]; exact Nat.ne_of_lt (blk_lt (g := gb470) (o := .cells #[.int .i64 t467, .int .i64 t468] 59 (0, 0)) (by (with_reducible repeat (first | refine blk_drewN ?_ _ | refine blk_drew ?_ | refine blk_alloc ?_ _)); exact BK470.out)) : gb470 ≠ gb485)); have n8_ := Aside0.mk ((by rw [hg]; exact Nat.ne_of_gt (blk_lt (g := gb470) (o := .cells #[.int .i64 t467, .int .i64 t468] 59 (0, 0)) (by (with_reducible repeat (first | refine blk_drewN ?_ _ | refine blk_drew ?_ | refine blk_alloc ?_ _)); exact BK470.out)) : gb485 ≠ gb470)); clear HO_13; clear HO_14; clear BK470; clear HB; have HO_13 := n0_; have HO_14 := n1_; have BK470 := n2_; have HB := n3_; have BK485 := n4_; have GW485 := n5_; have GE485 := n6_; have NB470_485 := n7_; have NB485_470 := n8_; clear n0_ n1_ n2_ n3_ n4_ n5_ n6_ n7_ n8_; clear hb hbox hg; have hnb43 := NB485_470.out; have hnc43 := NB470_485.out; have hcz44_0 : w42.cell? ⟨gb485, 0, none⟩ = some (.int .i64 0) := (blk_cell BK485.out 0).trans rfl; have hcz44_1 : w42.cell? ⟨gb485, 1, none⟩ = some (.int .i64 0) := (blk_cell BK485.out 1).trans rfl; have hcz44_2 : w42.cell? ⟨gb485, 2, none⟩ = some (.int .i64 0) := (blk_cell BK485.out 2).trans rfl; have hcz44_3 : w42.cell? ⟨gb485, 3, none⟩ = some (.int .i64 0) := (blk_cell BK485.out 3).trans rfl; have hfz44_0 := blk_frozen BK485.out 0; have hfz44_1 := blk_frozen BK485.out 1; have hfz44_2 := blk_frozen BK485.out 2; have hfz44_3 := blk_frozen BK485.out 3))
                                have n0_ : Aside0 (Kd.R Kd.string 9 ((((w42.setCell ⟨gb485, 0, none⟩ (.int .i64 ((rd_T68 t481 x15_3).f0))).setCell ⟨gb485, 1, none⟩ (.int .i64 ((rd_T68 t481 x15_3).f1.f0))).setCell ⟨gb485, 2, none⟩ (.int .i64 ((rd_T68 t481 x15_3).f1.f1))).setCell ⟨gb485, 3, none⟩ (.int .i64 ((rd_T68 t481 x15_3).f2))) w.heap.size (fun _ => True) v479 x13_3) := ⟨by (with_reducible repeat (first | apply Kd.R_alloc | apply Kd.R_drewN | apply Kd.R_drew)); exact Kd.R_mono (Kd.R_far (p := ⟨gb485, 3, none⟩) (Kd.R_far (p := ⟨gb485, 2, none⟩) (Kd.R_far (p := ⟨gb485, 1, none⟩) (Kd.R_far (p := ⟨gb485, 0, none⟩) (Kd.R_types HO_13.out BK485.out (by decide)) (fun _ hk => hk.2) (.int .i64 ((rd_T68 t481 x15_3).f0))) (fun _ hk => hk.2) (.int .i64 ((rd_T68 t481 x15_3).f1.f0))) (fun _ hk => hk.2) (.int .i64 ((rd_T68 t481 x15_3).f1.f1))) (fun _ hk => hk.2) (.int .i64 ((rd_T68 t481 x15_3).f2))) (fun _ hk => trivial)⟩
                                have n1_ : Aside0 (Kd.R k68 68 ((((w42.setCell ⟨gb485, 0, none⟩ (.int .i64 ((rd_T68 t481 x15_3).f0))).setCell ⟨gb485, 1, none⟩ (.int .i64 ((rd_T68 t481 x15_3).f1.f0))).setCell ⟨gb485, 2, none⟩ (.int .i64 ((rd_T68 t481 x15_3).f1.f1))).setCell ⟨gb485, 3, none⟩ (.int .i64 ((rd_T68 t481 x15_3).f2))) w.heap.size (fun k_ => k_ ≠ gb485) (.slice (some ad484) t481.length co41) t481) := ⟨by (with_reducible repeat (first | apply Kd.R_alloc | apply Kd.R_drewN | apply Kd.R_drew)); exact Kd.R_mono (Kd.R_far (p := ⟨gb485, 3, none⟩) (Kd.R_far (p := ⟨gb485, 2, none⟩) (Kd.R_far (p := ⟨gb485, 1, none⟩) (Kd.R_far (p := ⟨gb485, 0, none⟩) (Kd.R_mono HO_14.out (fun k_ hk => (⟨hk, hk.2⟩ : _ ∧ k_ ≠ gb485))) (fun _ hk => hk.2) (.int .i64 ((rd_T68 t481 x15_3).f0))) (fun _ hk => hk.2) (.int .i64 ((rd_T68 t481 x15_3).f1.f0))) (fun _ hk => hk.2) (.int .i64 ((rd_T68 t481 x15_3).f1.f1))) (fun _ hk => hk.2) (.int .i64 ((rd_T68 t481 x15_3).f2))) (fun _ hk => hk.1.2)⟩
                                have n2_ : Aside0 (((((w42.setCell ⟨gb485, 0, none⟩ (.int .i64 ((rd_T68 t481 x15_3).f0))).setCell ⟨gb485, 1, none⟩ (.int .i64 ((rd_T68 t481 x15_3).f1.f0))).setCell ⟨gb485, 2, none⟩ (.int .i64 ((rd_T68 t481 x15_3).f1.f1))).setCell ⟨gb485, 3, none⟩ (.int .i64 ((rd_T68 t481 x15_3).f2))).heap[gb470]? = some (.cells #[.int .i64 t467, .int .i64 t468] 59 (0, 0))) := ⟨by (with_reducible repeat (first | refine blk_drewN ?_ _ | refine blk_drew ?_ | refine blk_alloc ?_ _)); refine blk_far ?_ NB470_485.out _; (with_reducible repeat (first | refine blk_drewN ?_ _ | refine blk_drew ?_ | refine blk_alloc ?_ _)); refine blk_far ?_ NB470_485.out _; (with_reducible repeat (first | refine blk_drewN ?_ _ | refine blk_drew ?_ | refine blk_alloc ?_ _)); refine blk_far ?_ NB470_485.out _; (with_reducible repeat (first | refine blk_drewN ?_ _ | refine blk_drew ?_ | refine blk_alloc ?_ _)); refine blk_far ?_ NB470_485.out _; (with_reducible repeat (first | refine blk_drewN ?_ _ | refine blk_drew ?_ | refine blk_alloc ?_ _)); exact BK470.out⟩
                                have n3_ : Aside0 (((((w42.setCell ⟨gb485, 0, none⟩ (.int .i64 ((rd_T68 t481 x15_3).f0))).setCell ⟨gb485, 1, none⟩ (.int .i64 ((rd_T68 t481 x15_3).f1.f0))).setCell ⟨gb485, 2, none⟩ (.int .i64 ((rd_T68 t481 x15_3).f1.f1))).setCell ⟨gb485, 3, none⟩ (.int .i64 ((rd_T68 t481 x15_3).f2))).heap[gb485]? = some (.cells #[.int .i64 ((rd_T68 t481 x15_3).f0), .int .i64 ((rd_T68 t481 x15_3).f1.f0), .int .i64 ((rd_T68 t481 x15_3).f1.f1), .int .i64 ((rd_T68 t481 x15_3).f2)] 68 (0, 0))) := ⟨by (with_reducible repeat (first | refine blk_drewN ?_ _ | refine blk_drew ?_ | refine blk_alloc ?_ _)); refine blk_put (cs := #[.int .i64 ((rd_T68 t481 x15_3).f0), .int .i64 ((rd_T68 t481 x15_3).f1.f0), .int .i64 ((rd_T68 t481 x15_3).f1.f1), .int .i64 0]) ?_ 3 _ rfl; (with_reducible repeat (first | refine blk_drewN ?_ _ | refine blk_drew ?_ | refine blk_alloc ?_ _)); refine blk_put (cs := #[.int .i64 ((rd_T68 t481 x15_3).f0), .int .i64 ((rd_T68 t481 x15_3).f1.f0), .int .i64 0, .int .i64 0]) ?_ 2 _ rfl; (with_reducible repeat (first | refine blk_drewN ?_ _ | refine blk_drew ?_ | refine blk_alloc ?_ _)); refine blk_put (cs := #[.int .i64 ((rd_T68 t481 x15_3).f0), .int .i64 0, .int .i64 0, .int .i64 0]) ?_ 1 _ rfl; (with_reducible repeat (first | refine blk_drewN ?_ _ | refine blk_drew ?_ | refine blk_alloc ?_ _)); refine blk_put (cs := #[.int .i64 0, .int .i64 0, .int .i64 0, .int .i64 0]) ?_ 0 _ rfl; (with_reducible repeat (first | refine blk_drewN ?_ _ | refine blk_drew ?_ | refine blk_alloc ?_ _)); exact BK485.out⟩
                                have n4_ : Aside0 (Below w.heap.size w ((((w42.setCell ⟨gb485, 0, none⟩ (.int .i64 ((rd_T68 t481 x15_3).f0))).setCell ⟨gb485, 1, none⟩ (.int .i64 ((rd_T68 t481 x15_3).f1.f0))).setCell ⟨gb485, 2, none⟩ (.int .i64 ((rd_T68 t481 x15_3).f1.f1))).setCell ⟨gb485, 3, none⟩ (.int .i64 ((rd_T68 t481 x15_3).f2)))) := ⟨by repeat (first | (with_reducible first | exact HB.out | apply below_alloc | apply pw_below_drewN | apply below_drew1 | refine below_set ?_ GE470.out | refine below_set ?_ GE485.out) | exact HB.out)⟩
                                (try clear HO_13)
                                (try clear HO_14)
                                (try clear BK470)
                                (try clear BK485)
                                (try clear HB)
                                generalize ((((w42.setCell ⟨gb485, 0, none⟩ (.int .i64 ((rd_T68 t481 x15_3).f0))).setCell ⟨gb485, 1, none⟩ (.int .i64 ((rd_T68 t481 x15_3).f1.f0))).setCell ⟨gb485, 2, none⟩ (.int .i64 ((rd_T68 t481 x15_3).f1.f1))).setCell ⟨gb485, 3, none⟩ (.int .i64 ((rd_T68 t481 x15_3).f2))) = w45 at n0_ n1_ n2_ n3_ n4_ ⊢
                                have HO_13 := n0_
                                have HO_14 := n1_
                                have BK470 := n2_
                                have BK485 := n3_
                                have HB := n4_
                                clear n0_ n1_ n2_ n3_ n4_
                                have n0_ := Aside0.mk (Kd.R_drew HO_13.out)
                                have n1_ := Aside0.mk (Kd.R_drew HO_14.out)
                                have n2_ := Aside0.mk (blk_drew BK470.out)
                                have n3_ := Aside0.mk (blk_drew BK485.out)
                                have n4_ := Aside0.mk (below_drew1 HB.out)
                                clear HO_13
                                clear HO_14
                                clear BK470
                                clear BK485
                                clear HB
                                have HO_13 := n0_
                                have HO_14 := n1_
                                have BK470 := n2_
                                have BK485 := n3_
                                have HB := n4_
                                clear n0_ n1_ n2_ n3_ n4_
                                obtain ⟨Ao47, co47, eo47⟩ := Kd.R_slice HO_13.out
                                (first | subst eo47 | (injection eo47 with f1_ f2_ f3_; have f4_ := f1_.symm; have f5_ := f3_.symm; clear f1_ f2_ f3_; subst f4_; subst f5_))
                                have p486 : 0 ≤ (((rd_T68 t481 x15_3).f0) : Int) := of_decide_eq_true (by first | (with_reducible assumption) | assumption)
                                have q486 : ((rd_T68 t481 x15_3).f0) < (x13_3.length : Int) := of_decide_eq_true (by first | (with_reducible assumption) | assumption)
                                obtain ⟨ad486, e486, hx486_0⟩ := Kd.at_string (Kd.R_reads' HO_13.out).2.2 ((rd_T68 t481 x15_3).f0) p486 q486
                                cases e486
                                replace p486 := eq_true p486
                                replace q486 := eq_true q486
                                refine start_ (n := 29) (S := fun w' => w'.cell? ⟨gb485, 0, none⟩ = some (.int .i64 ((rd_T68 t481 x15_3).f0)) ∧ w'.cell? ⟨gb485, 1, none⟩ = some (.int .i64 ((rd_T68 t481 x15_3).f1.f0)) ∧ w'.cell? ⟨gb485, 2, none⟩ = some (.int .i64 ((rd_T68 t481 x15_3).f1.f1)) ∧ w'.cell? ⟨gb485, 3, none⟩ = some (.int .i64 ((rd_T68 t481 x15_3).f2)) ∧ w'.cell? (ad486.add (((rd_T68 t481 x15_3).f0)).toNat) = some (.string (rdOf ByteArray.empty x13_3 ((rd_T68 t481 x15_3).f0)))) (ds := [28]) #[false, false, false, false, false, false, false, false, false, false, false, false, false, false, false, false, false, false, false, false, false, false, false, false, false, false, false, false, false] (by kernel_rfl) rfl rfl ⟨(blk_cell BK485.out 0).trans rfl, (blk_cell BK485.out 1).trans rfl, (blk_cell BK485.out 2).trans rfl, (blk_cell BK485.out 3).trans rfl, hx486_0⟩ (fun hHeld => ?_); refine with_tabW laws_FnLayWrite.tab19 laws_FnLayWrite.bits19 (fun HT_ HW_ => ?_)
                                generalize w45.drew = w46 at HO_13 HO_14 BK470 BK485 HB hx486_0 hHeld ⊢
                                refine pure_ (i := 0) (N := some 110) (v := ?_) (a' := ?_) #[true, false, false, false, false, false, false, false, false, false, false, false, false, false, false, false, false, false, false, false, false, false, false, false, false, false, false, false, false] rfl rfl (any_of HT_.out (by kernel_rfl)) (fun _ _ _ h => h) (Or.inl ⟨by rfl, ?_⟩) ?_ ?_
                                rotate_left
                                · intro w'
                                  go_simp
                                  with_reducible rfl
                                rotate_left
                                · simp only [Act.put, List.setIfInBounds_toArray, List.set_cons_zero, List.set_cons_succ, i64_w, i32_w]
                                  rfl
                                refine pure_ (i := 1) (N := some 111) (v := ?_) (a' := ?_) #[true, true, false, false, false, false, false, false, false, false, false, false, false, false, false, false, false, false, false, false, false, false, false, false, false, false, false, false, false] rfl rfl (any_of HT_.out (by kernel_rfl)) (fun _ _ _ h => h) (Or.inl ⟨by rfl, ?_⟩) ?_ ?_
                                rotate_left
                                · intro w'
                                  go_simp
                                  with_reducible rfl
                                rotate_left
                                · simp only [Act.put, List.setIfInBounds_toArray, List.set_cons_zero, List.set_cons_succ, i64_w, i32_w]
                                  rfl
                                refine pure_ (i := 3) (N := some 113) (v := ?_) (a' := ?_) #[true, true, false, true, false, false, false, false, false, false, false, false, false, false, false, false, false, false, false, false, false, false, false, false, false, false, false, false, false] rfl rfl (any_of HT_.out (by kernel_rfl)) (fun _ _ _ h => h) (Or.inl ⟨by rfl, ?_⟩) ?_ ?_
                                rotate_left
                                · intro w'
                                  go_simp
                                  with_reducible rfl
                                rotate_left
                                · simp only [Act.put, List.setIfInBounds_toArray, List.set_cons_zero, List.set_cons_succ, i64_w, i32_w]
                                  rfl
                                refine pure_ (i := 4) (N := some 114) (v := ?_) (a' := ?_) #[true, true, false, true, true, false, false, false, false, false, false, false, false, false, false, false, false, false, false, false, false, false, false, false, false, false, false, false, false] rfl rfl (any_of HT_.out (by kernel_rfl)) (fun _ _ _ h => h) (Or.inl ⟨by rfl, ?_⟩) ?_ ?_
                                rotate_left
                                · intro w'
                                  go_simp
                                  with_reducible rfl
                                rotate_left
                                · simp only [Act.put, List.setIfInBounds_toArray, List.set_cons_zero, List.set_cons_succ, i64_w, i32_w]
                                  rfl
                                refine pure_ (i := 8) (N := some 118) (v := ?_) (a' := ?_) #[true, true, false, true, true, false, false, false, true, false, false, false, false, false, false, false, false, false, false, false, false, false, false, false, false, false, false, false, false] rfl rfl (any_of HT_.out (by kernel_rfl)) (fun _ _ _ h => h) (Or.inl ⟨by rfl, ?_⟩) ?_ ?_
                                rotate_left
                                · intro w'
                                  go_simp
                                  with_reducible rfl
                                rotate_left
                                · simp only [Act.put, List.setIfInBounds_toArray, List.set_cons_zero, List.set_cons_succ, i64_w, i32_w]
                                  rfl
                                refine pure_ (i := 9) (N := some 119) (v := ?_) (a' := ?_) #[true, true, false, true, true, false, false, false, true, true, false, false, false, false, false, false, false, false, false, false, false, false, false, false, false, false, false, false, false] rfl rfl (any_of HT_.out (by kernel_rfl)) (fun _ _ _ h => h) (Or.inl ⟨by rfl, ?_⟩) ?_ ?_
                                rotate_left
                                · intro w'
                                  go_simp
                                  with_reducible rfl
                                rotate_left
                                · simp only [Act.put, List.setIfInBounds_toArray, List.set_cons_zero, List.set_cons_succ, i64_w, i32_w]
                                  rfl
                                refine pure_ (i := 11) (N := some 121) (v := ?_) (a' := ?_) #[true, true, false, true, true, false, false, false, true, true, false, true, false, false, false, false, false, false, false, false, false, false, false, false, false, false, false, false, false] rfl rfl (any_of HT_.out (by kernel_rfl)) (fun _ _ _ h => h) (Or.inl ⟨by rfl, ?_⟩) ?_ ?_
                                rotate_left
                                · intro w'
                                  go_simp
                                  with_reducible rfl
                                rotate_left
                                · simp only [Act.put, List.setIfInBounds_toArray, List.set_cons_zero, List.set_cons_succ, i64_w, i32_w]
                                  rfl
                                refine pure_ (i := 12) (N := some 122) (v := ?_) (a' := ?_) #[true, true, false, true, true, false, false, false, true, true, false, true, true, false, false, false, false, false, false, false, false, false, false, false, false, false, false, false, false] rfl rfl (any_of HT_.out (by kernel_rfl)) (fun _ _ _ h => h) (Or.inl ⟨by rfl, ?_⟩) ?_ ?_
                                rotate_left
                                · intro w'
                                  go_simp
                                  with_reducible rfl
                                rotate_left
                                · simp only [Act.put, List.setIfInBounds_toArray, List.set_cons_zero, List.set_cons_succ, i64_w, i32_w]
                                  rfl
                                refine pure_ (i := 13) (N := some 123) (v := ?_) (a' := ?_) #[true, true, false, true, true, false, false, false, true, true, false, true, true, true, false, false, false, false, false, false, false, false, false, false, false, false, false, false, false] rfl rfl (any_of HT_.out (by kernel_rfl)) (fun _ _ _ h => h) (Or.inl ⟨by rfl, ?_⟩) ?_ ?_
                                rotate_left
                                · intro w'
                                  go_simp
                                  with_reducible rfl
                                rotate_left
                                · simp only [Act.put, List.setIfInBounds_toArray, List.set_cons_zero, List.set_cons_succ, i64_w, i32_w]
                                  rfl
                                refine pure_ (i := 14) (N := some 124) (v := ?_) (a' := ?_) #[true, true, false, true, true, false, false, false, true, true, false, true, true, true, true, false, false, false, false, false, false, false, false, false, false, false, false, false, false] rfl rfl (any_of HT_.out (by kernel_rfl)) (fun _ _ _ h => h) (Or.inl ⟨by rfl, ?_⟩) ?_ ?_
                                rotate_left
                                · intro w'
                                  go_simp
                                  with_reducible rfl
                                rotate_left
                                · simp only [Act.put, List.setIfInBounds_toArray, List.set_cons_zero, List.set_cons_succ, i64_w, i32_w]
                                  rfl
                                refine pure_ (i := 15) (N := some 125) (v := ?_) (a' := ?_) #[true, true, false, true, true, false, false, false, true, true, false, true, true, true, true, true, false, false, false, false, false, false, false, false, false, false, false, false, false] rfl rfl (any_of HT_.out (by kernel_rfl)) (fun _ _ _ h => h) (Or.inl ⟨by rfl, ?_⟩) ?_ ?_
                                rotate_left
                                · intro w'
                                  go_simp
                                  with_reducible rfl
                                rotate_left
                                · simp only [Act.put, List.setIfInBounds_toArray, List.set_cons_zero, List.set_cons_succ, i64_w, i32_w]
                                  rfl
                                refine pure_ (i := 18) (N := some 128) (v := ?_) (a' := ?_) #[true, true, false, true, true, false, false, false, true, true, false, true, true, true, true, true, false, false, true, false, false, false, false, false, false, false, false, false, false] rfl rfl (any_of HT_.out (by kernel_rfl)) (fun _ _ _ h => h) (Or.inl ⟨by rfl, ?_⟩) ?_ ?_
                                rotate_left
                                · intro w'
                                  go_simp
                                  with_reducible rfl
                                rotate_left
                                · simp only [Act.put, List.setIfInBounds_toArray, List.set_cons_zero, List.set_cons_succ, i64_w, i32_w]
                                  rfl
                                refine pure_ (i := 19) (N := some 129) (v := ?_) (a' := ?_) #[true, true, false, true, true, false, false, false, true, true, false, true, true, true, true, true, false, false, true, true, false, false, false, false, false, false, false, false, false] rfl rfl (any_of HT_.out (by kernel_rfl)) (fun _ _ _ h => h) (Or.inl ⟨by rfl, ?_⟩) ?_ ?_
                                rotate_left
                                · intro w'
                                  go_simp
                                  with_reducible rfl
                                rotate_left
                                · simp only [Act.put, List.setIfInBounds_toArray, List.set_cons_zero, List.set_cons_succ, i64_w, i32_w]
                                  rfl
                                refine take_ (i := 2) (N := some 112) (v := ?_) (a' := ?_) #[true, true, true, true, true, false, false, false, true, true, false, true, true, true, true, true, false, false, true, true, false, false, false, false, false, false, false, false, false] rfl rfl (take_ofW HT_.out HW_.out (by kernel_rfl)) (fun _ _ _ h => h) (Or.inl ⟨by rfl, ?_⟩) hHeld ?_ ?_
                                rotate_left
                                · rintro w' ⟨s0, s1, s2, s3, s4⟩
                                  go_simp
                                  with_reducible rfl
                                rotate_left
                                · simp only [Act.put, List.setIfInBounds_toArray, List.set_cons_zero, List.set_cons_succ, i64_w, i32_w]
                                  rfl
                                refine take_ (i := 5) (N := some 115) (v := ?_) (a' := ?_) #[true, true, true, true, true, true, false, false, true, true, false, true, true, true, true, true, false, false, true, true, false, false, false, false, false, false, false, false, false] rfl rfl (take_ofW HT_.out HW_.out (by kernel_rfl)) (fun _ _ _ h => h) (Or.inl ⟨by rfl, ?_⟩) hHeld ?_ ?_
                                rotate_left
                                · rintro w' ⟨s0, s1, s2, s3, s4⟩
                                  go_simp
                                  with_reducible rfl
                                rotate_left
                                · simp only [Act.put, List.setIfInBounds_toArray, List.set_cons_zero, List.set_cons_succ, i64_w, i32_w]
                                  rfl
                                refine pure_ (i := 6) (N := some 116) (v := ?_) (a' := ?_) #[true, true, true, true, true, true, true, false, true, true, false, true, true, true, true, true, false, false, true, true, false, false, false, false, false, false, false, false, false] rfl rfl (any_of HT_.out (by kernel_rfl)) (fun _ _ _ h => h) (Or.inl ⟨by rfl, ?_⟩) ?_ ?_
                                rotate_left
                                · intro w'
                                  go_simp
                                  with_reducible rfl
                                rotate_left
                                · simp only [Act.put, List.setIfInBounds_toArray, List.set_cons_zero, List.set_cons_succ, i64_w, i32_w]
                                  rfl
                                refine take_ (i := 7) (N := some 117) (v := ?_) (a' := ?_) #[true, true, true, true, true, true, true, true, true, true, false, true, true, true, true, true, false, false, true, true, false, false, false, false, false, false, false, false, false] rfl rfl (take_ofW HT_.out HW_.out (by kernel_rfl)) (fun _ _ _ h => h) (Or.inl ⟨by rfl, ?_⟩) hHeld ?_ ?_
                                rotate_left
                                · rintro w' ⟨s0, s1, s2, s3, s4⟩
                                  go_simp
                                  with_reducible rfl
                                rotate_left
                                · simp only [Act.put, List.setIfInBounds_toArray, List.set_cons_zero, List.set_cons_succ, i64_w, i32_w]
                                  rfl
                                refine take_ (i := 10) (N := some 120) (v := ?_) (a' := ?_) #[true, true, true, true, true, true, true, true, true, true, true, true, true, true, true, true, false, false, true, true, false, false, false, false, false, false, false, false, false] rfl rfl (take_ofW HT_.out HW_.out (by kernel_rfl)) (fun _ _ _ h => h) (Or.inl ⟨by rfl, ?_⟩) hHeld ?_ ?_
                                rotate_left
                                · rintro w' ⟨s0, s1, s2, s3, s4⟩
                                  go_simp
                                  with_reducible rfl
                                rotate_left
                                · simp only [Act.put, List.setIfInBounds_toArray, List.set_cons_zero, List.set_cons_succ, i64_w, i32_w]
                                  rfl
                                refine take_ (i := 16) (N := some 126) (v := ?_) (a' := ?_) #[true, true, true, true, true, true, true, true, true, true, true, true, true, true, true, true, true, false, true, true, false, false, false, false, false, false, false, false, false] rfl rfl (take_ofW HT_.out HW_.out (by kernel_rfl)) (fun _ _ _ h => h) (Or.inl ⟨by rfl, ?_⟩) hHeld ?_ ?_
                                rotate_left
                                · rintro w' ⟨s0, s1, s2, s3, s4⟩
                                  go_simp
                                  with_reducible rfl
                                rotate_left
                                · simp only [Act.put, List.setIfInBounds_toArray, List.set_cons_zero, List.set_cons_succ, i64_w, i32_w]
                                  rfl
                                refine pure_ (i := 17) (N := some 127) (v := ?_) (a' := ?_) #[true, true, true, true, true, true, true, true, true, true, true, true, true, true, true, true, true, true, true, true, false, false, false, false, false, false, false, false, false] rfl rfl (any_of HT_.out (by kernel_rfl)) (fun _ _ _ h => h) (Or.inl ⟨by rfl, ?_⟩) ?_ ?_
                                rotate_left
                                · intro w'
                                  go_simp
                                  with_reducible rfl
                                rotate_left
                                · simp only [Act.put, List.setIfInBounds_toArray, List.set_cons_zero, List.set_cons_succ, i64_w, i32_w]
                                  rfl
                                refine take_ (i := 20) (N := some 130) (v := ?_) (a' := ?_) #[true, true, true, true, true, true, true, true, true, true, true, true, true, true, true, true, true, true, true, true, true, false, false, false, false, false, false, false, false] rfl rfl (take_ofW HT_.out HW_.out (by kernel_rfl)) (fun _ _ _ h => h) (Or.inl ⟨by rfl, ?_⟩) hHeld ?_ ?_
                                rotate_left
                                · rintro w' ⟨s0, s1, s2, s3, s4⟩
                                  go_simp
                                  with_reducible rfl
                                rotate_left
                                · simp only [Act.put, List.setIfInBounds_toArray, List.set_cons_zero, List.set_cons_succ, i64_w, i32_w]
                                  rfl
                                refine pure_ (i := 21) (N := some 131) (v := ?_) (a' := ?_) #[true, true, true, true, true, true, true, true, true, true, true, true, true, true, true, true, true, true, true, true, true, true, false, false, false, false, false, false, false] rfl rfl (any_of HT_.out (by kernel_rfl)) (fun _ _ _ h => h) (Or.inl ⟨by rfl, ?_⟩) ?_ ?_
                                rotate_left
                                · intro w'
                                  go_simp
                                  with_reducible rfl
                                rotate_left
                                · simp only [Act.put, List.setIfInBounds_toArray, List.set_cons_zero, List.set_cons_succ, i64_w, i32_w]
                                  rfl
                                refine pure_ (i := 22) (N := some 132) (v := ?_) (a' := ?_) #[true, true, true, true, true, true, true, true, true, true, true, true, true, true, true, true, true, true, true, true, true, true, true, false, false, false, false, false, false] rfl rfl (any_of HT_.out (by kernel_rfl)) (fun _ _ _ h => h) (Or.inl ⟨by rfl, ?_⟩) ?_ ?_
                                rotate_left
                                · intro w'
                                  go_simp
                                  with_reducible rfl
                                rotate_left
                                · simp only [Act.put, List.setIfInBounds_toArray, List.set_cons_zero, List.set_cons_succ, i64_w, i32_w]
                                  rfl
                                refine one_ (i := 23) (N := some 133) #[true, true, true, true, true, true, true, true, true, true, true, true, true, true, true, true, true, true, true, true, true, true, true, true, false, false, false, false, false] rfl rfl (one_of HT_.out (by kernel_rfl)) (by decide) (fun K hK => ?_)
                                refine goes_ Try.func18 (by kernel_rfl) rfl #[.string (rdOf ByteArray.empty x13_3 ((rd_T68 t481 x15_3).f0)), .int .i64 ((rd_T68 t481 x15_3).f1.f0), .string (t466.extract ((ji35) : Int).toNat ((wrap64 ((wrap64 ((ji35) + ((rd_T68 t481 x15_3).f1.f1))) - ((rd_T68 t481 x15_3).f1.f0))) : Int).toNat)] (by rfl) rfl rfl (by (try simp only [List.map_toArray, List.map_cons, List.map_nil]); first | done | (simp only [hji35]; rfl) | rfl | (simp only [List.length_drop, List.length_take]; rfl)) ?_
                                with_reducible refine (impl_TextWrite.calls k3 (rdOf ByteArray.empty x13_3 ((rd_T68 t481 x15_3).f0)) ((rd_T68 t481 x15_3).f1.f0) (t466.extract ((ji35) : Int).toNat ((wrap64 ((wrap64 ((ji35) + ((rd_T68 t481 x15_3).f1.f1))) - ((rd_T68 t481 x15_3).f1.f0))) : Int).toNat) t487 t488 _ A39.out).mono ?_
                                rintro e w48 ⟨rfl, hb⟩
                                have HS4_ := (hb.cell (World.block_lt_of_cell? _ _ (hHeld.2.2.2.2))).trans (hHeld.2.2.2.2)
                                refine ⟨_, rfl, ?_⟩
                                have n0_ := Aside0.mk (Kd.R_below (by (with_reducible repeat (first | apply Kd.R_alloc | apply Kd.R_drewN | apply Kd.R_drew)); exact HO_13.out) hb)
                                have n1_ := Aside0.mk (Kd.R_below (by (with_reducible repeat (first | apply Kd.R_alloc | apply Kd.R_drewN | apply Kd.R_drew)); exact HO_14.out) hb)
                                have n2_ := Aside0.mk (blk_below (g := gb470) (o := .cells #[.int .i64 t467, .int .i64 t468] 59 (0, 0)) (by (with_reducible repeat (first | refine blk_drewN ?_ _ | refine blk_drew ?_ | refine blk_alloc ?_ _)); exact BK470.out) hb)
                                have n3_ := Aside0.mk (blk_below (g := gb485) (o := .cells #[.int .i64 ((rd_T68 t481 x15_3).f0), .int .i64 ((rd_T68 t481 x15_3).f1.f0), .int .i64 ((rd_T68 t481 x15_3).f1.f1), .int .i64 ((rd_T68 t481 x15_3).f2)] 68 (0, 0)) (by (with_reducible repeat (first | refine blk_drewN ?_ _ | refine blk_drew ?_ | refine blk_alloc ?_ _)); exact BK485.out) hb)
                                have n4_ := Aside0.mk (below_step (by repeat (first | (with_reducible first | exact HB.out | apply below_alloc | apply pw_below_drewN | apply below_drew1 | refine below_set ?_ GE470.out | refine below_set ?_ GE485.out) | exact HB.out)) hb)
                                clear HO_13
                                clear HO_14
                                clear BK470
                                clear BK485
                                clear HB
                                have HO_13 := n0_
                                have HO_14 := n1_
                                have BK470 := n2_
                                have BK485 := n3_
                                have HB := n4_
                                clear n0_ n1_ n2_ n3_ n4_
                                (try clear hb)
                                (try clear hb2)
                                (try clear hk)
                                (try clear hi)
                                have p40 : 0 ≤ (((rd_T68 t481 x15_3).f0) : Int) := of_decide_eq_true (by first | (with_reducible assumption) | assumption)
                                have q40 : (((rd_T68 t481 x15_3).f0) : Int) < ((x13_3.length : Int) : Int) := of_decide_eq_true (by first | (with_reducible assumption) | assumption)
                                obtain ⟨go40, co40, eo40, gb40, gl40, cl40, HG40⟩ := Kd.R_form HO_13.out (by omega)
                                (first | cases eo40 | (injection eo40 with ea_ en_ ec_; (first | subst ea_ | (injection ea_ with ea_; subst ea_)); subst ec_; clear en_))
                                have GB40 := Aside0.mk gb40
                                have GG40 := Aside0.mk HG40
                                clear gb40 gl40 HG40
                                (first | simp only [add_plain] at hx486_0 | skip)
                                obtain ⟨hx40_0, hf40_0⟩ := Kd.R_celln (⟨#[]⟩ : ByteArray) HO_13.out (((rd_T68 t481 x15_3).f0) : Int) p40 q40
                                replace p40 := eq_true p40
                                replace q40 := eq_true q40
                                have HP49 := Kd.R_putn HO_13.out (((rd_T68 t481 x15_3).f0) : Int) t487
                                rw [← Ny489.out] at HP49
                                have HQ49 := Aside0.mk HP49
                                clear HP49
                                refine hK.out _ _ ⟨(blk_cell BK485.out 0).trans rfl, (blk_cell BK485.out 1).trans rfl, (blk_cell BK485.out 2).trans rfl, (blk_cell BK485.out 3).trans rfl, HS4_⟩ (fun hHeld => ?_)
                                clear hK K
                                refine norm_ (a' := ?_) ?_ ?_
                                rotate_left
                                · show Act.put _ (some 133) _ = _
                                  simp only [Act.put, List.setIfInBounds_toArray, List.set_cons_zero, List.set_cons_succ, i64_w, i32_w]
                                  rfl
                                refine pure_ (i := 24) (N := some 109) (v := ?_) (a' := ?_) #[true, true, true, true, true, true, true, true, true, true, true, true, true, true, true, true, true, true, true, true, true, true, true, true, true, false, false, false, false] rfl rfl (any_of HT_.out (by kernel_rfl)) (fun _ _ _ h => h) (Or.inl ⟨by rfl, ?_⟩) ?_ ?_
                                rotate_left
                                · intro w'
                                  go_simp
                                  with_reducible rfl
                                rotate_left
                                · simp only [Act.put, List.setIfInBounds_toArray, List.set_cons_zero, List.set_cons_succ, i64_w, i32_w]
                                  rfl
                                refine pure_ (i := 25) (N := some 134) (v := ?_) (a' := ?_) #[true, true, true, true, true, true, true, true, true, true, true, true, true, true, true, true, true, true, true, true, true, true, true, true, true, true, false, false, false] rfl rfl (any_of HT_.out (by kernel_rfl)) (fun _ _ _ h => h) (Or.inl ⟨by rfl, ?_⟩) ?_ ?_
                                rotate_left
                                · intro w'
                                  go_simp
                                  with_reducible rfl
                                rotate_left
                                · simp only [Act.put, List.setIfInBounds_toArray, List.set_cons_zero, List.set_cons_succ, i64_w, i32_w]
                                  rfl
                                refine pure_ (i := 26) (N := some 135) (v := ?_) (a' := ?_) #[true, true, true, true, true, true, true, true, true, true, true, true, true, true, true, true, true, true, true, true, true, true, true, true, true, true, true, false, false] rfl rfl (any_of HT_.out (by kernel_rfl)) (fun _ _ _ h => h) (Or.inl ⟨by rfl, ?_⟩) ?_ ?_
                                rotate_left
                                · intro w'
                                  go_simp
                                  with_reducible rfl
                                rotate_left
                                · simp only [Act.put, List.setIfInBounds_toArray, List.set_cons_zero, List.set_cons_succ, i64_w, i32_w]
                                  rfl
                                refine pure_ (i := 27) (N := some 136) (v := ?_) (a' := ?_) #[true, true, true, true, true, true, true, true, true, true, true, true, true, true, true, true, true, true, true, true, true, true, true, true, true, true, true, true, false] rfl rfl (any_of HT_.out (by kernel_rfl)) (fun _ _ _ h => h) (Or.inl ⟨by rfl, ?_⟩) ?_ ?_
                                rotate_left
                                · intro w'
                                  go_simp
                                  with_reducible rfl
                                rotate_left
                                · simp only [Act.put, List.setIfInBounds_toArray, List.set_cons_zero, List.set_cons_succ, i64_w, i32_w]
                                  rfl
                                refine last_ (i := 28) (N := none) #[true, true, true, true, true, true, true, true, true, true, true, true, true, true, true, true, true, true, true, true, true, true, true, true, true, true, true, true, true] rfl rfl (one_of HT_.out (by kernel_rfl)) (by decide) (fun K hK => ?_)
                                refine skip_ (w1 := ?_) (by rfl) rfl ?_ ?_
                                rotate_left
                                · go_simp
                                  rfl
                                refine hK.out _ _ ?_
                                clear hK K
                                refine done_ (done_of HT_.out (by kernel_rfl)) ?_
                                try go_wp2
                                go_roundg k3
                                case measure => have := HJ6.out; have := HJ20.out; have := HK3.out; omega
                                case rel => exact ⟨(y489), (wrap64 (x15_3 + 1)), (by first | rfl | (simp; done) | (simp [*]; done)), H', ⟨by have := HJ6.out; have := HJ20.out; have := HK3.out; omega⟩, ⟨by (with_reducible repeat (first | apply Kd.R_alloc | apply Kd.R_drewN | apply Kd.R_drew)); exact HQ49.out⟩, ⟨by (with_reducible repeat (first | apply Kd.R_alloc | apply Kd.R_drewN | apply Kd.R_drew)); exact Kd.R_mono (Kd.R_far (p := ⟨go40, (((rd_T68 t481 x15_3).f0) : Int).toNat, none⟩) (Kd.R_types HO_14.out GG40.out (by decide)) (fun _ hk => hk.2) (.string t487)) (fun _ hk => trivial)⟩, ⟨by (with_reducible repeat (first | refine blk_drewN ?_ _ | refine blk_drew ?_ | refine blk_alloc ?_ _)); refine blk_far ?_ (by have h_ := Kd.R_ne HO_13.out BK470.out (by decide); intro e_; exact h_ (by rw [e_]; rfl)) _; (with_reducible repeat (first | refine blk_drewN ?_ _ | refine blk_drew ?_ | refine blk_alloc ?_ _)); exact BK470.out⟩, ⟨by repeat (first | (with_reducible first | exact HB.out | apply below_alloc | apply pw_below_drewN | apply below_drew1 | refine below_set ?_ GB40.out | refine below_set ?_ GE470.out | refine below_set ?_ GE485.out) | exact HB.out)⟩⟩
                              · rw [if_neg c38] at H
                                exact absurd H (by simp)
                            · rw [if_neg c37] at H
                              exact absurd H (by simp)
                          · rw [if_neg c36] at H
                            exact absurd H (by simp)
                        · rw [if_neg c34] at H
                          exact absurd H (by simp)
                      · rw [if_neg c33] at H
                        exact absurd H (by simp)
                    · rw [if_neg c32] at H
                      exact absurd H (by simp)
                  · rw [if_neg c31] at H
                    have c31b0 : decide (x15_3 < (t481.length : Int)) = false := decide_eq_false c31
                    clear c31
                    replace H := Option.bind_eq_some_iff.mp H
                    obtain ⟨⟨t490, t491⟩, A500, H⟩ := H
                    replace H : (if t491 = true then (some (t490.toList == t471.toList)) else (some false)) = some r := H
                    have A50 := Aside0.mk A500
                    clear A500
                    by_cases c51 : t491 = true
                    · subst c51
                      have H1 : (some (t490.toList == t471.toList)) = some r := by rw [if_pos rfl] at H; exact H
                      clear H
                      have H := H1
                      clear H1
                      obtain rfl := Option.some.inj H
                      obtain ⟨Ao52, co52, eo52⟩ := Kd.R_slice HO_14.out
                      subst eo52
                      have hcz53_0 : wr.cell? ⟨gb470, 0, none⟩ = some (.int .i64 t467) := (blk_cell BK470.out 0).trans rfl
                      have hcz53_1 : wr.cell? ⟨gb470, 1, none⟩ = some (.int .i64 t468) := (blk_cell BK470.out 1).trans rfl
                      have hfz53_0 := blk_frozen BK470.out 0
                      have hfz53_1 := blk_frozen BK470.out 1
                      obtain ⟨Ao54, co54, eo54⟩ := Kd.R_slice HO_13.out
                      subst eo54
                      go_wp2_with (first | ((with_reducible refine gate_callee (f := 42) rfl ?_); refine goesL_ (some 140) rfl rfl Try.func42 (by kernel_rfl) rfl #[.agg #[.int .i64 t467, .int .i64 t468], .slice Ao54 x13_3.length co54] rfl (by (try simp only [List.map_toArray, List.map_cons, List.map_nil]); first | done | rfl | (simp only [List.length_drop, List.length_take]; rfl)) ?_; (with_reducible refine (impl_LayText.calls k3 t467 t468 _ _ x13_3 t490 true _ ?side1 ?side2 A50.out).mono ?_); (case side1 => repeat (first | exact (Kd.R_reads' HO_13.out).2.2 | (with_reducible refine Kd.C_alloc ?_ _) | (with_reducible refine Kd.C_drewN ?_ _) | (with_reducible refine Kd.C_drew ?_))); (case side2 => exact (Kd.R_reads' HO_13.out).2.1); rintro e w55 ⟨rfl, hb⟩; refine ⟨_, rfl, ?_⟩; have n0_ := Aside0.mk (Kd.R_below (by (with_reducible repeat (first | apply Kd.R_alloc | apply Kd.R_drewN | apply Kd.R_drew)); exact HO_13.out) hb); have n1_ := Aside0.mk (Kd.R_below (by (with_reducible repeat (first | apply Kd.R_alloc | apply Kd.R_drewN | apply Kd.R_drew)); exact HO_14.out) hb); have n2_ := Aside0.mk (blk_below (g := gb470) (o := .cells #[.int .i64 t467, .int .i64 t468] 59 (0, 0)) (by (with_reducible repeat (first | refine blk_drewN ?_ _ | refine blk_drew ?_ | refine blk_alloc ?_ _)); exact BK470.out) hb); have n3_ := Aside0.mk (below_step (by repeat (first | (with_reducible first | exact HB.out | apply below_alloc | apply pw_below_drewN | apply below_drew1 | refine below_set ?_ GE470.out) | exact HB.out)) hb); clear HO_13; clear HO_14; clear BK470; clear HB; have HO_13 := n0_; have HO_14 := n1_; have BK470 := n2_; have HB := n3_; clear n0_ n1_ n2_ n3_; (try clear hb); (try clear hb2); (try clear hk); (try clear hi)))
                      go_ret
                      exact ⟨by first | rfl | (simp [errW_none, errW_some] <;> rfl) | (simp [*, errW_none, errW_some] <;> rfl), by repeat (first | (with_reducible first | exact HB.out | apply below_alloc | apply pw_below_drewN | apply below_drew1 | refine below_set ?_ GE470.out) | exact HB.out)⟩
                    · replace c51 := Bool.eq_false_iff.mpr c51
                      subst c51
                      have H1 : (some false) = some r := by rw [if_neg (show ¬ (false = true) by decide)] at H; exact H
                      clear H
                      have H := H1
                      clear H1
                      obtain rfl := Option.some.inj H
                      obtain ⟨Ao56, co56, eo56⟩ := Kd.R_slice HO_14.out
                      subst eo56
                      have hcz57_0 : wr.cell? ⟨gb470, 0, none⟩ = some (.int .i64 t467) := (blk_cell BK470.out 0).trans rfl
                      have hcz57_1 : wr.cell? ⟨gb470, 1, none⟩ = some (.int .i64 t468) := (blk_cell BK470.out 1).trans rfl
                      have hfz57_0 := blk_frozen BK470.out 0
                      have hfz57_1 := blk_frozen BK470.out 1
                      obtain ⟨Ao58, co58, eo58⟩ := Kd.R_slice HO_13.out
                      subst eo58
                      go_wp2_with (first | ((with_reducible refine gate_callee (f := 42) rfl ?_); refine goesL_ (some 140) rfl rfl Try.func42 (by kernel_rfl) rfl #[.agg #[.int .i64 t467, .int .i64 t468], .slice Ao58 x13_3.length co58] rfl (by (try simp only [List.map_toArray, List.map_cons, List.map_nil]); first | done | rfl | (simp only [List.length_drop, List.length_take]; rfl)) ?_; (with_reducible refine (impl_LayText.calls k3 t467 t468 _ _ x13_3 t490 false _ ?side1 ?side2 A50.out).mono ?_); (case side1 => repeat (first | exact (Kd.R_reads' HO_13.out).2.2 | (with_reducible refine Kd.C_alloc ?_ _) | (with_reducible refine Kd.C_drewN ?_ _) | (with_reducible refine Kd.C_drew ?_))); (case side2 => exact (Kd.R_reads' HO_13.out).2.1); rintro e w59 ⟨rfl, hb⟩; refine ⟨_, rfl, ?_⟩; have n0_ := Aside0.mk (Kd.R_below (by (with_reducible repeat (first | apply Kd.R_alloc | apply Kd.R_drewN | apply Kd.R_drew)); exact HO_13.out) hb); have n1_ := Aside0.mk (Kd.R_below (by (with_reducible repeat (first | apply Kd.R_alloc | apply Kd.R_drewN | apply Kd.R_drew)); exact HO_14.out) hb); have n2_ := Aside0.mk (blk_below (g := gb470) (o := .cells #[.int .i64 t467, .int .i64 t468] 59 (0, 0)) (by (with_reducible repeat (first | refine blk_drewN ?_ _ | refine blk_drew ?_ | refine blk_alloc ?_ _)); exact BK470.out) hb); have n3_ := Aside0.mk (below_step (by repeat (first | (with_reducible first | exact HB.out | apply below_alloc | apply pw_below_drewN | apply below_drew1 | refine below_set ?_ GE470.out) | exact HB.out)) hb); clear HO_13; clear HO_14; clear BK470; clear HB; have HO_13 := n0_; have HO_14 := n1_; have BK470 := n2_; have HB := n3_; clear n0_ n1_ n2_ n3_; (try clear hb); (try clear hb2); (try clear hk); (try clear hi)))
                      go_ret
                      exact ⟨by first | rfl | (simp [errW_none, errW_some] <;> rfl) | (simp [*, errW_none, errW_some] <;> rfl), by repeat (first | (with_reducible first | exact HB.out | apply below_alloc | apply pw_below_drewN | apply below_drew1 | refine below_set ?_ GE470.out) | exact HB.out)⟩

/-- THE ONE PURE STATEMENT of laws_FnLayWrite: yours. -/
def laws_FnLayWrite.Pure : Prop := ∀ (l0 : List Int), l0.length ≤ maxLen → l0.length * 1 ≤ 140737488351232 → (∀ x ∈ l0, (Lit.int .u8 x).wf = true) → ∃ k, laws_FnLayWrite.f k l0 = some true
theorem laws_FnLayWrite.walk (P : laws_FnLayWrite.Pure) (a0 : Option Addr) (len0 cap0 : Nat) (z0 : List Int) (w : World) (w0 : (a0 = none ∧ len0 = 0 ∧ cap0 = 0 ∧ z0 = []) ∨ ∃ x, a0 = some x ∧ len0 ≤ cap0 ∧ cap0 ≤ maxLen ∧ z0.length = cap0 ∧ (∀ i, i < z0.length → w.cell? (x.add i) = some (.int .u8 (z0.getD i 0))) ∧ ∀ n ∈ z0, (Lit.int .u8 n).wf = true) (y0 : len0 * 1 ≤ 140737488351232) :
    Calls Try.prog 14 #[.slice a0 len0 cap0] w fun e w' => e = .returned (.bool true) ∧ Below w.heap.size w w' := by
  obtain ⟨l0, rfl, hr0, hm0, hw0, hc0⟩ := ReadsInt.ofRowC w0
  obtain ⟨k, h⟩ := P l0 hm0 y0 hw0
  refine (laws_FnLayWrite.calls k _ _ l0 true w (Kd.C_of_reads (d := (0 : Int)) (h1 := fun _ => rfl) hr0) hc0 h).mono ?_
  rintro e w' ⟨rfl, hd⟩
  exact ⟨rfl, hd⟩

end Go.Proofs.Ytfomnpbhpncpaaa.Q
