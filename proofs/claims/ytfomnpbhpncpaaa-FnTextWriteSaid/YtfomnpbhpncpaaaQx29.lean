/- Functions of the program as functions over numbers and lists, each with the proof that the call comes to just its answer. Conditions: the function answers. Told by a program of this session that runs the kit's print with own parts. -/
import Derived.Test.YtfomnpbhpncpaaaQx0
import Derived.Test.YtfomnpbhpncpaaaQx1
import Derived.Test.YtfomnpbhpncpaaaQx3
import Derived.Test.YtfomnpbhpncpaaaQx6
import Derived.Test.YtfomnpbhpncpaaaQx7
import Derived.Test.YtfomnpbhpncpaaaQx25
import Derived.Test.YtfomnpbhpncpaaaQx27
namespace Go.Proofs.Ytfomnpbhpncpaaa.Q
open Go.RowKit Go.Proofs.YtfomnpbhpncpaaaW.PrintWords Go.Proofs.YtfomnpbhpncpaaaW.PrintLast Go.Proofs.YtfomnpbhpncpaaaW.PrintMore
attribute [local go_sem] max2_int min2_int max_two min_two max_three min_three max_four min_four   -- for this text's walks alone
set_option linter.unusedVariables false
set_option linter.unusedSimpArgs false

/-! ### laws_FnTextWrite: function 10 -/
mutual
def laws_FnTextWrite.j0 : Nat → ByteArray → Int → ByteArray → ByteArray → Bool → Bool → Option (Bool)
  | 0, _, _, _, _, _, _ => none
  | k + 1, x3, x4, x5, x6, x7, x52 => if x52 = true then (some false) else (if x7 = true then (if (wrap64 (x4 + (x5.size : Int))) > (x3.size : Int) then (laws_FnTextWrite.j1 k x3 x4 x5 x6 (wrap64 (x4 + (x5.size : Int)))) else (laws_FnTextWrite.j1 k x3 x4 x5 x6 (x3.size : Int))) else (if x6.toList = x3.toList then ((spec_TextOk.f k x3).bind fun t355 => (if t355 = true then (some true) else (if x6.toList = ([] : List UInt8) then ((spec_TextOk.f k x3).bind fun t356 => (some (!t356))) else (some false)))) else (if x6.toList = ([] : List UInt8) then ((spec_TextOk.f k x3).bind fun t357 => (some (!t357))) else (some false))))
def laws_FnTextWrite.j1 : Nat → ByteArray → Int → ByteArray → ByteArray → Int → Option (Bool)
  | 0, _, _, _, _, _ => none
  | k + 1, x3, x4, x5, x6, x10 => if (x6.size : Int) = x10 then ((impl_TextRead.f k x6 x4 (wrap64 (x4 + (x5.size : Int)))).bind fun t358 => (laws_FnTextWrite.j2 k x3 x4 x5 x6 x10 (t358.toList != x5.toList))) else (laws_FnTextWrite.j2 k x3 x4 x5 x6 x10 true)
def laws_FnTextWrite.j2 : Nat → ByteArray → Int → ByteArray → ByteArray → Int → Bool → Option (Bool)
  | 0, _, _, _, _, _, _ => none
  | k + 1, x3, x4, x5, x6, x10, x98 => if x98 = true then (some false) else (laws_FnTextWrite.l0 k x3 x4 x5 x6 x10 0)
def laws_FnTextWrite.l0 : Nat → ByteArray → Int → ByteArray → ByteArray → Int → Int → Option (Bool)
  | 0, _, _, _, _, _, _ => none
  | k + 1, x3, x4, x5, x6, x10, x11 => if x11 < x10 then (if x11 ≥ x4 then (if (x11 < (wrap64 (x4 + (x5.size : Int)))) then (laws_FnTextWrite.l0 k x3 x4 x5 x6 x10 (wrap64 (x11 + 1))) else (if x11 < (x3.size : Int) then (if 0 ≤ x11 then (if x11 < (x6.size : Int) then (if (bt x6 x11) = (bt x3 x11) then (if x11 ≥ (x3.size : Int) then (if (bt x6 x11) = 46 then (laws_FnTextWrite.l0 k x3 x4 x5 x6 x10 (wrap64 (x11 + 1))) else (some false)) else (laws_FnTextWrite.l0 k x3 x4 x5 x6 x10 (wrap64 (x11 + 1)))) else (some false)) else (none)) else (none)) else (if x11 ≥ (x3.size : Int) then (if 0 ≤ x11 then (if x11 < (x6.size : Int) then (if (bt x6 x11) = 46 then (laws_FnTextWrite.l0 k x3 x4 x5 x6 x10 (wrap64 (x11 + 1))) else (some false)) else (none)) else (none)) else (laws_FnTextWrite.l0 k x3 x4 x5 x6 x10 (wrap64 (x11 + 1)))))) else (if x11 < (x3.size : Int) then (if 0 ≤ x11 then (if x11 < (x6.size : Int) then (if (bt x6 x11) = (bt x3 x11) then (if x11 ≥ (x3.size : Int) then (if (bt x6 x11) = 46 then (laws_FnTextWrite.l0 k x3 x4 x5 x6 x10 (wrap64 (x11 + 1))) else (some false)) else (laws_FnTextWrite.l0 k x3 x4 x5 x6 x10 (wrap64 (x11 + 1)))) else (some false)) else (none)) else (none)) else (if x11 ≥ (x3.size : Int) then (if 0 ≤ x11 then (if x11 < (x6.size : Int) then (if (bt x6 x11) = 46 then (laws_FnTextWrite.l0 k x3 x4 x5 x6 x10 (wrap64 (x11 + 1))) else (some false)) else (none)) else (none)) else (laws_FnTextWrite.l0 k x3 x4 x5 x6 x10 (wrap64 (x11 + 1)))))) else ((impl_TextWrite.f k x6 x4 x5).bind fun bt359 => (if bt359.2 = true then (if bt359.1.toList = x6.toList then ((impl_TextOk.f k x6).bind fun t361 => (some t361)) else (some false)) else (some false)))
end
def laws_FnTextWrite.f (k : Nat) (l0 : List Int) : Option (Bool) := if (l0.length : Int) > 1048576 then (some true) else ((spec_DrawTextWrite.f k l0).bind fun bt346 => ((impl_TextWrite.f k bt346.1 bt346.2.1 bt346.2.2).bind fun bt349 => ((spec_TextWrite.f k bt346.1 bt346.2.1 bt346.2.2).bind fun bt351 => (if bt349.1.toList = bt351.1.toList then (if (bt349.2 != bt351.2) = true then (laws_FnTextWrite.j0 k bt346.1 bt346.2.1 bt346.2.2 bt349.1 bt349.2 true) else ((impl_TextOk.f k bt346.1).bind fun t353 => ((spec_TextOk.f k bt346.1).bind fun t354 => (laws_FnTextWrite.j0 k bt346.1 bt346.2.1 bt346.2.2 bt349.1 bt349.2 (t353 != t354))))) else (laws_FnTextWrite.j0 k bt346.1 bt346.2.1 bt346.2.2 bt349.1 bt349.2 true)))))
theorem laws_FnTextWrite.mono_l : ∀ k, (∀ y0 y1 y2 y3 y4 y5, LeO (laws_FnTextWrite.j0 k y0 y1 y2 y3 y4 y5) (laws_FnTextWrite.j0 (k + 1) y0 y1 y2 y3 y4 y5)) ∧ (∀ y0 y1 y2 y3 y4, LeO (laws_FnTextWrite.j1 k y0 y1 y2 y3 y4) (laws_FnTextWrite.j1 (k + 1) y0 y1 y2 y3 y4)) ∧ (∀ y0 y1 y2 y3 y4 y5, LeO (laws_FnTextWrite.j2 k y0 y1 y2 y3 y4 y5) (laws_FnTextWrite.j2 (k + 1) y0 y1 y2 y3 y4 y5)) ∧ (∀ y0 y1 y2 y3 y4 y5, LeO (laws_FnTextWrite.l0 k y0 y1 y2 y3 y4 y5) (laws_FnTextWrite.l0 (k + 1) y0 y1 y2 y3 y4 y5))
  | 0 => ⟨fun _ _ _ _ _ _ r h => by simp [laws_FnTextWrite.j0] at h, fun _ _ _ _ _ r h => by simp [laws_FnTextWrite.j1] at h, fun _ _ _ _ _ _ r h => by simp [laws_FnTextWrite.j2] at h, fun _ _ _ _ _ _ r h => by simp [laws_FnTextWrite.l0] at h⟩
  | k + 1 => by
    obtain ⟨ih0, ih1, ih2, ih3⟩ := laws_FnTextWrite.mono_l k
    refine ⟨?_, ?_, ?_, ?_⟩
    · intro y0 y1 y2 y3 y4 y5
      unfold laws_FnTextWrite.j0
      repeat' first
      | (with_reducible exact ih0 _ _ _ _ _ _)
      | (with_reducible exact ih1 _ _ _ _ _)
      | (with_reducible exact ih2 _ _ _ _ _ _)
      | (with_reducible exact ih3 _ _ _ _ _ _)
      | (with_reducible exact impl_TextOk.mono _ _)
      | (with_reducible exact impl_TextRead.mono _ _ _ _)
      | (with_reducible exact impl_TextWrite.mono _ _ _ _)
      | (with_reducible exact spec_DrawTextWrite.mono _ _)
      | (with_reducible exact spec_TextOk.mono _ _)
      | (with_reducible exact spec_TextWrite.mono _ _ _ _)
      | (with_reducible exact LeO.refl _)
      | (with_reducible exact LeO.none _)
      | (with_reducible refine LeO.ite ?_ ?_)
      | (with_reducible refine LeO.bind ?_ (fun _ => ?_))
      | exact ih0 _ _ _ _ _ _
      | exact ih1 _ _ _ _ _
      | exact ih2 _ _ _ _ _ _
      | exact ih3 _ _ _ _ _ _
      | exact impl_TextOk.mono _ _
      | exact impl_TextRead.mono _ _ _ _
      | exact impl_TextWrite.mono _ _ _ _
      | exact spec_DrawTextWrite.mono _ _
      | exact spec_TextOk.mono _ _
      | exact spec_TextWrite.mono _ _ _ _
      | exact LeO.none _
      | refine LeO.ite ?_ ?_
      | refine LeO.bind ?_ (fun _ => ?_)
    · intro y0 y1 y2 y3 y4
      unfold laws_FnTextWrite.j1
      repeat' first
      | (with_reducible exact ih0 _ _ _ _ _ _)
      | (with_reducible exact ih1 _ _ _ _ _)
      | (with_reducible exact ih2 _ _ _ _ _ _)
      | (with_reducible exact ih3 _ _ _ _ _ _)
      | (with_reducible exact impl_TextOk.mono _ _)
      | (with_reducible exact impl_TextRead.mono _ _ _ _)
      | (with_reducible exact impl_TextWrite.mono _ _ _ _)
      | (with_reducible exact spec_DrawTextWrite.mono _ _)
      | (with_reducible exact spec_TextOk.mono _ _)
      | (with_reducible exact spec_TextWrite.mono _ _ _ _)
      | (with_reducible exact LeO.refl _)
      | (with_reducible exact LeO.none _)
      | (with_reducible refine LeO.ite ?_ ?_)
      | (with_reducible refine LeO.bind ?_ (fun _ => ?_))
      | exact ih0 _ _ _ _ _ _
      | exact ih1 _ _ _ _ _
      | exact ih2 _ _ _ _ _ _
      | exact ih3 _ _ _ _ _ _
      | exact impl_TextOk.mono _ _
      | exact impl_TextRead.mono _ _ _ _
      | exact impl_TextWrite.mono _ _ _ _
      | exact spec_DrawTextWrite.mono _ _
      | exact spec_TextOk.mono _ _
      | exact spec_TextWrite.mono _ _ _ _
      | exact LeO.none _
      | refine LeO.ite ?_ ?_
      | refine LeO.bind ?_ (fun _ => ?_)
    · intro y0 y1 y2 y3 y4 y5
      unfold laws_FnTextWrite.j2
      repeat' first
      | (with_reducible exact ih0 _ _ _ _ _ _)
      | (with_reducible exact ih1 _ _ _ _ _)
      | (with_reducible exact ih2 _ _ _ _ _ _)
      | (with_reducible exact ih3 _ _ _ _ _ _)
      | (with_reducible exact impl_TextOk.mono _ _)
      | (with_reducible exact impl_TextRead.mono _ _ _ _)
      | (with_reducible exact impl_TextWrite.mono _ _ _ _)
      | (with_reducible exact spec_DrawTextWrite.mono _ _)
      | (with_reducible exact spec_TextOk.mono _ _)
      | (with_reducible exact spec_TextWrite.mono _ _ _ _)
      | (with_reducible exact LeO.refl _)
      | (with_reducible exact LeO.none _)
      | (with_reducible refine LeO.ite ?_ ?_)
      | (with_reducible refine LeO.bind ?_ (fun _ => ?_))
      | exact ih0 _ _ _ _ _ _
      | exact ih1 _ _ _ _ _
      | exact ih2 _ _ _ _ _ _
      | exact ih3 _ _ _ _ _ _
      | exact impl_TextOk.mono _ _
      | exact impl_TextRead.mono _ _ _ _
      | exact impl_TextWrite.mono _ _ _ _
      | exact spec_DrawTextWrite.mono _ _
      | exact spec_TextOk.mono _ _
      | exact spec_TextWrite.mono _ _ _ _
      | exact LeO.none _
      | refine LeO.ite ?_ ?_
      | refine LeO.bind ?_ (fun _ => ?_)
    · intro y0 y1 y2 y3 y4 y5
      unfold laws_FnTextWrite.l0
      repeat' first
      | (with_reducible exact ih0 _ _ _ _ _ _)
      | (with_reducible exact ih1 _ _ _ _ _)
      | (with_reducible exact ih2 _ _ _ _ _ _)
      | (with_reducible exact ih3 _ _ _ _ _ _)
      | (with_reducible exact impl_TextOk.mono _ _)
      | (with_reducible exact impl_TextRead.mono _ _ _ _)
      | (with_reducible exact impl_TextWrite.mono _ _ _ _)
      | (with_reducible exact spec_DrawTextWrite.mono _ _)
      | (with_reducible exact spec_TextOk.mono _ _)
      | (with_reducible exact spec_TextWrite.mono _ _ _ _)
      | (with_reducible exact LeO.refl _)
      | (with_reducible exact LeO.none _)
      | (with_reducible refine LeO.ite ?_ ?_)
      | (with_reducible refine LeO.bind ?_ (fun _ => ?_))
      | exact ih0 _ _ _ _ _ _
      | exact ih1 _ _ _ _ _
      | exact ih2 _ _ _ _ _ _
      | exact ih3 _ _ _ _ _ _
      | exact impl_TextOk.mono _ _
      | exact impl_TextRead.mono _ _ _ _
      | exact impl_TextWrite.mono _ _ _ _
      | exact spec_DrawTextWrite.mono _ _
      | exact spec_TextOk.mono _ _
      | exact spec_TextWrite.mono _ _ _ _
      | exact LeO.none _
      | refine LeO.ite ?_ ?_
      | refine LeO.bind ?_ (fun _ => ?_)
theorem laws_FnTextWrite.mono : ∀ a0 k, LeO (laws_FnTextWrite.f k a0) (laws_FnTextWrite.f (k + 1) a0) := by
  intro a0 k
  obtain ⟨ih0, ih1, ih2, ih3⟩ := laws_FnTextWrite.mono_l k
  unfold laws_FnTextWrite.f
  repeat' first
      | (with_reducible exact ih0 _ _ _ _ _ _)
      | (with_reducible exact ih1 _ _ _ _ _)
      | (with_reducible exact ih2 _ _ _ _ _ _)
      | (with_reducible exact ih3 _ _ _ _ _ _)
      | (with_reducible exact impl_TextOk.mono _ _)
      | (with_reducible exact impl_TextRead.mono _ _ _ _)
      | (with_reducible exact impl_TextWrite.mono _ _ _ _)
      | (with_reducible exact spec_DrawTextWrite.mono _ _)
      | (with_reducible exact spec_TextOk.mono _ _)
      | (with_reducible exact spec_TextWrite.mono _ _ _ _)
      | (with_reducible exact LeO.refl _)
      | (with_reducible exact LeO.none _)
      | (with_reducible refine LeO.ite ?_ ?_)
      | (with_reducible refine LeO.bind ?_ (fun _ => ?_))
      | exact ih0 _ _ _ _ _ _
      | exact ih1 _ _ _ _ _
      | exact ih2 _ _ _ _ _ _
      | exact ih3 _ _ _ _ _ _
      | exact impl_TextOk.mono _ _
      | exact impl_TextRead.mono _ _ _ _
      | exact impl_TextWrite.mono _ _ _ _
      | exact spec_DrawTextWrite.mono _ _
      | exact spec_TextOk.mono _ _
      | exact spec_TextWrite.mono _ _ _ _
      | exact LeO.none _
      | refine LeO.ite ?_ ?_
      | refine LeO.bind ?_ (fun _ => ?_)
set_option maxHeartbeats 8000000 in
set_option maxRecDepth 100000 in
theorem laws_FnTextWrite.calls (k : Nat) (A0 : Option Addr) (c0 : Nat) (l0 : List Int) (r : Bool) (w : World) (hr0 : Kd.C (Kd.int .u8) w A0 l0.length l0) (hc0 : l0.length ≤ c0) (h : laws_FnTextWrite.f k l0 = some r) :
    Calls Try.prog 10 #[.slice A0 l0.length c0] w fun e w' => e = .returned (.bool r) ∧ Below w.heap.size w w' := by
  have hu40 := Try.underlying40
  have HR0 := Aside0.mk hr0
  have HC0 := Aside0.mk hc0
  clear hr0 hc0
  have HB := Aside0.mk (Below.refl w.heap.size w)
  have H : (if (l0.length : Int) > 1048576 then (some true) else ((spec_DrawTextWrite.f k l0).bind fun bt346 => ((impl_TextWrite.f k bt346.1 bt346.2.1 bt346.2.2).bind fun bt349 => ((spec_TextWrite.f k bt346.1 bt346.2.1 bt346.2.2).bind fun bt351 => (if bt349.1.toList = bt351.1.toList then (if (bt349.2 != bt351.2) = true then (laws_FnTextWrite.j0 k bt346.1 bt346.2.1 bt346.2.2 bt349.1 bt349.2 true) else ((impl_TextOk.f k bt346.1).bind fun t353 => ((spec_TextOk.f k bt346.1).bind fun t354 => (laws_FnTextWrite.j0 k bt346.1 bt346.2.1 bt346.2.2 bt349.1 bt349.2 (t353 != t354))))) else (laws_FnTextWrite.j0 k bt346.1 bt346.2.1 bt346.2.2 bt349.1 bt349.2 true)))))) = some r := h
  clear h
  by_cases c2 : (l0.length : Int) > 1048576
  · rw [if_pos c2] at H
    have c2b0 : decide (1048576 < (l0.length : Int)) = true := decide_eq_true c2
    have c2b1 : decide (1048576 < l0.length) = true := decide_eq_true (by omega)
    clear c2
    obtain rfl := Option.some.inj H
    go_enter Try.func10, Try.ntmps10
    go_wp2
    repeat (go_quiet (fail); try go_wp2)
    go_ret
    exact ⟨by first | rfl | (simp [errW_none, errW_some] <;> rfl) | (simp [*, errW_none, errW_some] <;> rfl), by repeat (first | (with_reducible first | exact HB.out | apply below_alloc | apply pw_below_drewN | apply below_drew1) | exact HB.out)⟩
  · rw [if_neg c2] at H
    have c2b0 : decide (1048576 < (l0.length : Int)) = false := decide_eq_false c2
    have c2b1 : decide (1048576 < l0.length) = false := decide_eq_false (by omega)
    clear c2
    replace H := Option.bind_eq_some_iff.mp H
    obtain ⟨⟨t346, t347, t348⟩, A30, H⟩ := H
    replace H : ((impl_TextWrite.f k t346 t347 t348).bind fun bt349 => ((spec_TextWrite.f k t346 t347 t348).bind fun bt351 => (if bt349.1.toList = bt351.1.toList then (if (bt349.2 != bt351.2) = true then (laws_FnTextWrite.j0 k t346 t347 t348 bt349.1 bt349.2 true) else ((impl_TextOk.f k t346).bind fun t353 => ((spec_TextOk.f k t346).bind fun t354 => (laws_FnTextWrite.j0 k t346 t347 t348 bt349.1 bt349.2 (t353 != t354))))) else (laws_FnTextWrite.j0 k t346 t347 t348 bt349.1 bt349.2 true)))) = some r := H
    have A3 := Aside0.mk A30
    clear A30
    replace H := Option.bind_eq_some_iff.mp H
    obtain ⟨⟨t349, t350⟩, A40, H⟩ := H
    replace H : ((spec_TextWrite.f k t346 t347 t348).bind fun bt351 => (if t349.toList = bt351.1.toList then (if (t350 != bt351.2) = true then (laws_FnTextWrite.j0 k t346 t347 t348 t349 t350 true) else ((impl_TextOk.f k t346).bind fun t353 => ((spec_TextOk.f k t346).bind fun t354 => (laws_FnTextWrite.j0 k t346 t347 t348 t349 t350 (t353 != t354))))) else (laws_FnTextWrite.j0 k t346 t347 t348 t349 t350 true))) = some r := H
    have A4 := Aside0.mk A40
    clear A40
    replace H := Option.bind_eq_some_iff.mp H
    obtain ⟨⟨t351, t352⟩, A50, H⟩ := H
    replace H : (if t349.toList = t351.toList then (if (t350 != t352) = true then (laws_FnTextWrite.j0 k t346 t347 t348 t349 t350 true) else ((impl_TextOk.f k t346).bind fun t353 => ((spec_TextOk.f k t346).bind fun t354 => (laws_FnTextWrite.j0 k t346 t347 t348 t349 t350 (t353 != t354))))) else (laws_FnTextWrite.j0 k t346 t347 t348 t349 t350 true)) = some r := H
    have A5 := Aside0.mk A50
    clear A50
    have HC6 := Aside0.mk H
    clear H
    go_enter Try.func10, Try.ntmps10
    go_upto_region 6 with (first | (go_at_call 28; (with_reducible refine (spec_DrawTextWrite.calls k _ _ l0 t346 t347 t348 _ ?side1 ?side2 A3.out).mono ?_); (case side1 => repeat (first | exact HR0.out | (with_reducible refine Kd.C_alloc ?_ _) | (with_reducible refine Kd.C_drewN ?_ _) | (with_reducible refine Kd.C_drew ?_))); (case side2 => exact HC0.out); rintro e w7 ⟨rfl, hb⟩; have n0_ := Aside0.mk (below_step (by repeat (first | (with_reducible first | exact HB.out | apply below_alloc | apply pw_below_drewN | apply below_drew1) | exact HB.out)) hb); clear HB; have HB := n0_; clear n0_; (try clear hb); (try clear hb2); (try clear hk); (try clear hi)) | (go_at_call 18; (with_reducible refine (impl_TextWrite.calls k t346 t347 t348 t349 t350 _ A4.out).mono ?_); rintro e w8 ⟨rfl, hb⟩; have n0_ := Aside0.mk (below_step (by repeat (first | (with_reducible first | exact HB.out | apply below_alloc | apply pw_below_drewN | apply below_drew1) | exact HB.out)) hb); clear HB; have HB := n0_; clear n0_; (try clear hb); (try clear hb2); (try clear hk); (try clear hi)) | (go_at_call 17; (with_reducible refine (spec_TextWrite.calls k t346 t347 t348 t351 t352 _ A5.out).mono ?_); rintro e w' ⟨rfl, ⟨nd, rfl⟩⟩; (try first | exact ⟨rfl, _, World.drewN_drewN _ _ _⟩ | exact ⟨rfl, _, Eq.trans (World.drewN_drewN _ _ _) (congrArg (World.drewN _) (Nat.add_assoc _ _ _))⟩)))
    repeat (go_quiet (first | (go_at_call 28; (with_reducible refine (spec_DrawTextWrite.calls k _ _ l0 t346 t347 t348 _ ?side1 ?side2 A3.out).mono ?_); (case side1 => repeat (first | exact HR0.out | (with_reducible refine Kd.C_alloc ?_ _) | (with_reducible refine Kd.C_drewN ?_ _) | (with_reducible refine Kd.C_drew ?_))); (case side2 => exact HC0.out); rintro e w7 ⟨rfl, hb⟩; have n0_ := Aside0.mk (below_step (by repeat (first | (with_reducible first | exact HB.out | apply below_alloc | apply pw_below_drewN | apply below_drew1) | exact HB.out)) hb); clear HB; have HB := n0_; clear n0_; (try clear hb); (try clear hb2); (try clear hk); (try clear hi)) | (go_at_call 18; (with_reducible refine (impl_TextWrite.calls k t346 t347 t348 t349 t350 _ A4.out).mono ?_); rintro e w8 ⟨rfl, hb⟩; have n0_ := Aside0.mk (below_step (by repeat (first | (with_reducible first | exact HB.out | apply below_alloc | apply pw_below_drewN | apply below_drew1) | exact HB.out)) hb); clear HB; have HB := n0_; clear n0_; (try clear hb); (try clear hb2); (try clear hk); (try clear hi)) | (go_at_call 17; (with_reducible refine (spec_TextWrite.calls k t346 t347 t348 t351 t352 _ A5.out).mono ?_); rintro e w' ⟨rfl, ⟨nd, rfl⟩⟩; (try first | exact ⟨rfl, _, World.drewN_drewN _ _ _⟩ | exact ⟨rfl, _, Eq.trans (World.drewN_drewN _ _ _) (congrArg (World.drewN _) (Nat.add_assoc _ _ _))⟩))); go_upto_region 6 with (first | (go_at_call 28; (with_reducible refine (spec_DrawTextWrite.calls k _ _ l0 t346 t347 t348 _ ?side1 ?side2 A3.out).mono ?_); (case side1 => repeat (first | exact HR0.out | (with_reducible refine Kd.C_alloc ?_ _) | (with_reducible refine Kd.C_drewN ?_ _) | (with_reducible refine Kd.C_drew ?_))); (case side2 => exact HC0.out); rintro e w7 ⟨rfl, hb⟩; have n0_ := Aside0.mk (below_step (by repeat (first | (with_reducible first | exact HB.out | apply below_alloc | apply pw_below_drewN | apply below_drew1) | exact HB.out)) hb); clear HB; have HB := n0_; clear n0_; (try clear hb); (try clear hb2); (try clear hk); (try clear hi)) | (go_at_call 18; (with_reducible refine (impl_TextWrite.calls k t346 t347 t348 t349 t350 _ A4.out).mono ?_); rintro e w8 ⟨rfl, hb⟩; have n0_ := Aside0.mk (below_step (by repeat (first | (with_reducible first | exact HB.out | apply below_alloc | apply pw_below_drewN | apply below_drew1) | exact HB.out)) hb); clear HB; have HB := n0_; clear n0_; (try clear hb); (try clear hb2); (try clear hk); (try clear hi)) | (go_at_call 17; (with_reducible refine (spec_TextWrite.calls k t346 t347 t348 t351 t352 _ A5.out).mono ?_); rintro e w' ⟨rfl, ⟨nd, rfl⟩⟩; (try first | exact ⟨rfl, _, World.drewN_drewN _ _ _⟩ | exact ⟨rfl, _, Eq.trans (World.drewN_drewN _ _ _) (congrArg (World.drewN _) (Nat.add_assoc _ _ _))⟩))))
    (try simp only [Act.put, List.setIfInBounds_toArray, List.set_cons_zero, List.set_cons_succ])
    go_cut [52] (fun v52 wc => ∃ (kq : Nat) (x52_5 : Bool), v52 = .bool x52_5 ∧ Aside0 (laws_FnTextWrite.j0 kq t346 t347 t348 t349 t350 x52_5 = some r) ∧ Aside0 (kq ≤ k) ∧ Aside0 (Below w.heap.size w wc))
    case first =>
      have H := HC6.out
      clear HC6
      by_cases c9 : t349.toList = t351.toList
      · rw [if_pos c9] at H
        have c9b0 : (t349.toList == t351.toList) = true := beq_iff_eq.mpr c9
        have c9b1 : (t349.toList != t351.toList) = false := bne_eq_false_iff_eq.mpr c9
        clear c9
        (first | rw [c9b0] | (simp only [i64_w, i32_w]; rw [c9b0]) | skip)
        by_cases c10 : (t350 != t352) = true
        · rw [if_pos c10] at H
          have c10b0 : (t350 != t352) = true := c10
          (try (have c10b1 : decide (t350 = t352) = false := by simpa using c10))
          (try (have c10b2 : (t350 == t352) = false := by simpa using c10))
          (try (have c10b3 : ¬ (t350 = t352) := by simpa using c10))
          clear c10
          have H' := Aside0.mk H
          clear H
          go_wp2
          repeat (go_quiet (fail); try go_wp2)
          go_meet
          case rel => exact ⟨_, (true), (by first | rfl | (simp; done) | (simp [*]; done)), H', ⟨by first | omega | exact Nat.le_refl _⟩, ⟨by repeat (first | (with_reducible first | exact HB.out | apply below_alloc | apply pw_below_drewN | apply below_drew1) | exact HB.out)⟩⟩
        · rw [if_neg c10] at H
          have c10b0 : (t350 != t352) = false := by simpa using c10
          (try (have c10b1 : decide (t350 = t352) = true := by simpa using c10))
          (try (have c10b2 : (t350 == t352) = true := by simpa using c10))
          clear c10
          replace H := Option.bind_eq_some_iff.mp H
          obtain ⟨t353, A110, H⟩ := H
          replace H : ((spec_TextOk.f k t346).bind fun t354 => (laws_FnTextWrite.j0 k t346 t347 t348 t349 t350 (t353 != t354))) = some r := H
          have A11 := Aside0.mk A110
          clear A110
          replace H := Option.bind_eq_some_iff.mp H
          obtain ⟨t354, A120, H⟩ := H
          replace H : (laws_FnTextWrite.j0 k t346 t347 t348 t349 t350 (t353 != t354)) = some r := H
          have A12 := Aside0.mk A120
          clear A120
          have H' := Aside0.mk H
          clear H
          go_wp2_with (first | (go_at_call 30; (with_reducible refine (impl_TextOk.calls k t346 t353 _ A11.out).mono ?_); rintro e w13 ⟨rfl, hb⟩; have n0_ := Aside0.mk (below_step (by repeat (first | (with_reducible first | exact HB.out | apply below_alloc | apply pw_below_drewN | apply below_drew1) | exact HB.out)) hb); clear HB; have HB := n0_; clear n0_; (try clear hb); (try clear hb2); (try clear hk); (try clear hi)) | (go_at_call 27; (with_reducible refine (spec_TextOk.calls k t346 t354 _ A12.out).mono ?_); rintro e w' ⟨rfl, ⟨nd, rfl⟩⟩; (try first | exact ⟨rfl, _, World.drewN_drewN _ _ _⟩ | exact ⟨rfl, _, Eq.trans (World.drewN_drewN _ _ _) (congrArg (World.drewN _) (Nat.add_assoc _ _ _))⟩)))
          repeat (go_quiet (first | (go_at_call 30; (with_reducible refine (impl_TextOk.calls k t346 t353 _ A11.out).mono ?_); rintro e w13 ⟨rfl, hb⟩; have n0_ := Aside0.mk (below_step (by repeat (first | (with_reducible first | exact HB.out | apply below_alloc | apply pw_below_drewN | apply below_drew1) | exact HB.out)) hb); clear HB; have HB := n0_; clear n0_; (try clear hb); (try clear hb2); (try clear hk); (try clear hi)) | (go_at_call 27; (with_reducible refine (spec_TextOk.calls k t346 t354 _ A12.out).mono ?_); rintro e w' ⟨rfl, ⟨nd, rfl⟩⟩; (try first | exact ⟨rfl, _, World.drewN_drewN _ _ _⟩ | exact ⟨rfl, _, Eq.trans (World.drewN_drewN _ _ _) (congrArg (World.drewN _) (Nat.add_assoc _ _ _))⟩))); try go_wp2_with (first | (go_at_call 30; (with_reducible refine (impl_TextOk.calls k t346 t353 _ A11.out).mono ?_); rintro e w13 ⟨rfl, hb⟩; have n0_ := Aside0.mk (below_step (by repeat (first | (with_reducible first | exact HB.out | apply below_alloc | apply pw_below_drewN | apply below_drew1) | exact HB.out)) hb); clear HB; have HB := n0_; clear n0_; (try clear hb); (try clear hb2); (try clear hk); (try clear hi)) | (go_at_call 27; (with_reducible refine (spec_TextOk.calls k t346 t354 _ A12.out).mono ?_); rintro e w' ⟨rfl, ⟨nd, rfl⟩⟩; (try first | exact ⟨rfl, _, World.drewN_drewN _ _ _⟩ | exact ⟨rfl, _, Eq.trans (World.drewN_drewN _ _ _) (congrArg (World.drewN _) (Nat.add_assoc _ _ _))⟩))))
          go_meet
          case rel => exact ⟨_, ((t353 != t354)), (by first | rfl | (simp; done) | (simp [*]; done)), H', ⟨by first | omega | exact Nat.le_refl _⟩, ⟨by repeat (first | (with_reducible first | exact HB.out | apply below_alloc | apply pw_below_drewN | apply below_drew1) | exact HB.out)⟩⟩
      · rw [if_neg c9] at H
        have c9b0 : (t349.toList == t351.toList) = false := beq_eq_false_iff_ne.mpr c9
        have c9b1 : (t349.toList != t351.toList) = true := bne_iff_ne.mpr c9
        (first | rw [c9b0] | (simp only [i64_w, i32_w]; rw [c9b0]) | skip)
        have H' := Aside0.mk H
        clear H
        go_wp2
        repeat (go_quiet (fail); try go_wp2)
        go_meet
        case rel => exact ⟨_, (true), (by first | rfl | (simp; done) | (simp [*]; done)), H', ⟨by first | omega | exact Nat.le_refl _⟩, ⟨by repeat (first | (with_reducible first | exact HB.out | apply below_alloc | apply pw_below_drewN | apply below_drew1) | exact HB.out)⟩⟩
    case rest =>
      clear HC6
      try clear c1
      try clear c2
      try clear c2b0
      try clear c2b1
      try clear p2
      try clear c9
      try clear c9b0
      try clear c9b1
      try clear c10
      try clear c10b0
      try clear c10b1
      try clear c10b2
      obtain ⟨kq, x52_5, rfl, HA, HJ5, HB⟩ := hcut
      cases kq with
      | zero => exact absurd HA.out (by simp [laws_FnTextWrite.j0])
      | succ kj5 =>
        have H := HA.out
        clear HA
        simp only [laws_FnTextWrite.j0] at H
        by_cases c14 : x52_5 = true
        · subst c14
          have H1 : (some false) = some r := by rw [if_pos rfl] at H; exact H
          clear H
          have H := H1
          clear H1
          obtain rfl := Option.some.inj H
          go_wp2
          repeat (go_quiet (fail); try go_wp2)
          go_ret
          exact ⟨by first | rfl | (simp [errW_none, errW_some] <;> rfl) | (simp [*, errW_none, errW_some] <;> rfl), by repeat (first | (with_reducible first | exact HB.out | apply below_alloc | apply pw_below_drewN | apply below_drew1) | exact HB.out)⟩
        · replace c14 := Bool.eq_false_iff.mpr c14
          subst c14
          have H1 : (if t350 = true then (if (wrap64 (t347 + (t348.size : Int))) > (t346.size : Int) then (laws_FnTextWrite.j1 kj5 t346 t347 t348 t349 (wrap64 (t347 + (t348.size : Int)))) else (laws_FnTextWrite.j1 kj5 t346 t347 t348 t349 (t346.size : Int))) else (if t349.toList = t346.toList then ((spec_TextOk.f kj5 t346).bind fun t355 => (if t355 = true then (some true) else (if t349.toList = ([] : List UInt8) then ((spec_TextOk.f kj5 t346).bind fun t356 => (some (!t356))) else (some false)))) else (if t349.toList = ([] : List UInt8) then ((spec_TextOk.f kj5 t346).bind fun t357 => (some (!t357))) else (some false)))) = some r := by rw [if_neg (show ¬ (false = true) by decide)] at H; exact H
          clear H
          have H := H1
          clear H1
          by_cases c15 : t350 = true
          · subst c15
            have H1 : (if (wrap64 (t347 + (t348.size : Int))) > (t346.size : Int) then (laws_FnTextWrite.j1 kj5 t346 t347 t348 t349 (wrap64 (t347 + (t348.size : Int)))) else (laws_FnTextWrite.j1 kj5 t346 t347 t348 t349 (t346.size : Int))) = some r := by rw [if_pos rfl] at H; exact H
            clear H
            have H := H1
            clear H1
            have HC16 := Aside0.mk H
            clear H
            go_upto_if 78 with (fail)
            repeat (go_quiet (fail); go_upto_if 78 with (fail))
            go_cut [10] (fun v10 wc => ∃ (kq : Nat) (x10_15 : Int), v10 = .int .i64 x10_15 ∧ Aside0 (laws_FnTextWrite.j1 kq t346 t347 t348 t349 x10_15 = some r) ∧ Aside0 (kq ≤ kj5) ∧ Aside0 (Below w.heap.size w wc))
            case first =>
              have H := HC16.out
              clear HC16
              by_cases c17 : (wrap64 (t347 + (t348.size : Int))) > (t346.size : Int)
              · rw [if_pos c17] at H
                have c17b0 : decide ((t346.size : Int) < (wrap64 (t347 + (t348.size : Int)))) = true := decide_eq_true c17
                clear c17
                (first | rw [c17b0] | (simp only [i64_w, i32_w]; rw [c17b0]) | skip)
                have H' := Aside0.mk H
                clear H
                go_wp2
                repeat (go_quiet (fail); try go_wp2)
                go_meet
                case rel => exact ⟨_, (wrap64 (t347 + (t348.size : Int))), (by first | rfl | (simp; done) | (simp [*]; done)), H', ⟨by have := HJ5.out; first | omega | exact Nat.le_refl _⟩, ⟨by repeat (first | (with_reducible first | exact HB.out | apply below_alloc | apply pw_below_drewN | apply below_drew1) | exact HB.out)⟩⟩
              · rw [if_neg c17] at H
                have c17b0 : decide ((t346.size : Int) < (wrap64 (t347 + (t348.size : Int)))) = false := decide_eq_false c17
                clear c17
                (first | rw [c17b0] | (simp only [i64_w, i32_w]; rw [c17b0]) | skip)
                have H' := Aside0.mk H
                clear H
                go_wp2
                repeat (go_quiet (fail); try go_wp2)
                go_meet
                case rel => exact ⟨_, ((t346.size : Int)), (by first | rfl | (simp; done) | (simp [*]; done)), H', ⟨by have := HJ5.out; first | omega | exact Nat.le_refl _⟩, ⟨by repeat (first | (with_reducible first | exact HB.out | apply below_alloc | apply pw_below_drewN | apply below_drew1) | exact HB.out)⟩⟩
            case rest =>
              clear HC16
              try clear c1
              try clear c2
              try clear c2b0
              try clear c2b1
              try clear p2
              try clear p6
              try clear c9
              try clear c9b0
              try clear c9b1
              try clear c10
              try clear c10b0
              try clear c10b1
              try clear c10b2
              try clear c14
              try clear c15
              try clear c17
              try clear c17b0
              try clear p2
              obtain ⟨kq, x10_15, rfl, HA, HJ15, HB⟩ := hcut
              cases kq with
              | zero => exact absurd HA.out (by simp [laws_FnTextWrite.j1])
              | succ kj15 =>
                have H := HA.out
                clear HA
                simp only [laws_FnTextWrite.j1] at H
                have HC18 := Aside0.mk H
                clear H
                go_upto_region 13 with (fail)
                repeat (go_quiet (fail); go_upto_region 13 with (fail))
                go_cut [98] (fun v98 wc => ∃ (kq : Nat) (x98_17 : Bool), v98 = .bool x98_17 ∧ Aside0 (laws_FnTextWrite.j2 kq t346 t347 t348 t349 x10_15 x98_17 = some r) ∧ Aside0 (kq ≤ kj15) ∧ Aside0 (Below w.heap.size w wc))
                case first =>
                  have H := HC18.out
                  clear HC18
                  by_cases c19 : (t349.size : Int) = x10_15
                  · rw [if_pos c19] at H
                    have c19b0 : ((t349.size : Int) == x10_15) = true := beq_iff_eq.mpr c19
                    have c19b1 : ((t349.size : Int) != x10_15) = false := bne_eq_false_iff_eq.mpr c19
                    clear c19
                    (first | rw [c19b0] | (simp only [i64_w, i32_w]; rw [c19b0]) | skip)
                    replace H := Option.bind_eq_some_iff.mp H
                    obtain ⟨t358, A200, H⟩ := H
                    replace H : (laws_FnTextWrite.j2 kj15 t346 t347 t348 t349 x10_15 (t358.toList != t348.toList)) = some r := H
                    have A20 := Aside0.mk A200
                    clear A200
                    have H' := Aside0.mk H
                    clear H
                    go_wp2_with (first | (go_at_call 29; (with_reducible refine (impl_TextRead.calls kj15 t349 t347 (wrap64 (t347 + (t348.size : Int))) t358 _ A20.out).mono ?_); rintro e w21 ⟨rfl, hb⟩; have n0_ := Aside0.mk (below_step (by repeat (first | (with_reducible first | exact HB.out | apply below_alloc | apply pw_below_drewN | apply below_drew1) | exact HB.out)) hb); clear HB; have HB := n0_; clear n0_; (try clear hb); (try clear hb2); (try clear hk); (try clear hi)))
                    repeat (go_quiet (first | (go_at_call 29; (with_reducible refine (impl_TextRead.calls kj15 t349 t347 (wrap64 (t347 + (t348.size : Int))) t358 _ A20.out).mono ?_); rintro e w21 ⟨rfl, hb⟩; have n0_ := Aside0.mk (below_step (by repeat (first | (with_reducible first | exact HB.out | apply below_alloc | apply pw_below_drewN | apply below_drew1) | exact HB.out)) hb); clear HB; have HB := n0_; clear n0_; (try clear hb); (try clear hb2); (try clear hk); (try clear hi))); try go_wp2_with (first | (go_at_call 29; (with_reducible refine (impl_TextRead.calls kj15 t349 t347 (wrap64 (t347 + (t348.size : Int))) t358 _ A20.out).mono ?_); rintro e w21 ⟨rfl, hb⟩; have n0_ := Aside0.mk (below_step (by repeat (first | (with_reducible first | exact HB.out | apply below_alloc | apply pw_below_drewN | apply below_drew1) | exact HB.out)) hb); clear HB; have HB := n0_; clear n0_; (try clear hb); (try clear hb2); (try clear hk); (try clear hi))))
                    go_meet
                    case rel => exact ⟨_, ((t358.toList != t348.toList)), (by first | rfl | (simp; done) | (simp [*]; done)), H', ⟨by have := HJ5.out; have := HJ15.out; first | omega | exact Nat.le_refl _⟩, ⟨by repeat (first | (with_reducible first | exact HB.out | apply below_alloc | apply pw_below_drewN | apply below_drew1) | exact HB.out)⟩⟩
                  · rw [if_neg c19] at H
                    have c19b0 : ((t349.size : Int) == x10_15) = false := beq_eq_false_iff_ne.mpr c19
                    have c19b1 : ((t349.size : Int) != x10_15) = true := bne_iff_ne.mpr c19
                    (first | rw [c19b0] | (simp only [i64_w, i32_w]; rw [c19b0]) | skip)
                    have H' := Aside0.mk H
                    clear H
                    go_wp2
                    repeat (go_quiet (fail); try go_wp2)
                    go_meet
                    case rel => exact ⟨_, (true), (by first | rfl | (simp; done) | (simp [*]; done)), H', ⟨by have := HJ5.out; have := HJ15.out; first | omega | exact Nat.le_refl _⟩, ⟨by repeat (first | (with_reducible first | exact HB.out | apply below_alloc | apply pw_below_drewN | apply below_drew1) | exact HB.out)⟩⟩
                case rest =>
                  clear HC18
                  try clear c1
                  try clear c2
                  try clear c2b0
                  try clear c2b1
                  try clear p2
                  try clear p6
                  try clear c9
                  try clear c9b0
                  try clear c9b1
                  try clear c10
                  try clear c10b0
                  try clear c10b1
                  try clear c10b2
                  try clear c14
                  try clear c15
                  try clear c17
                  try clear c17b0
                  try clear c19
                  try clear c19b0
                  try clear c19b1
                  try clear p2
                  try clear p6
                  obtain ⟨kq, x98_17, rfl, HA, HJ17, HB⟩ := hcut
                  cases kq with
                  | zero => exact absurd HA.out (by simp [laws_FnTextWrite.j2])
                  | succ kj17 =>
                    have H := HA.out
                    clear HA
                    simp only [laws_FnTextWrite.j2] at H
                    by_cases c22 : x98_17 = true
                    · subst c22
                      have H1 : (some false) = some r := by rw [if_pos rfl] at H; exact H
                      clear H
                      have H := H1
                      clear H1
                      obtain rfl := Option.some.inj H
                      go_wp2
                      repeat (go_quiet (fail); try go_wp2)
                      go_ret
                      exact ⟨by first | rfl | (simp [errW_none, errW_some] <;> rfl) | (simp [*, errW_none, errW_some] <;> rfl), by repeat (first | (with_reducible first | exact HB.out | apply below_alloc | apply pw_below_drewN | apply below_drew1) | exact HB.out)⟩
                    · replace c22 := Bool.eq_false_iff.mpr c22
                      subst c22
                      have H1 : (laws_FnTextWrite.l0 kj17 t346 t347 t348 t349 x10_15 0) = some r := by rw [if_neg (show ¬ (false = true) by decide)] at H; exact H
                      clear H
                      have H := H1
                      clear H1
                      have H' := Aside0.mk H
                      clear H
                      go_wp2
                      repeat (go_quiet (fail); try go_wp2)
                      go_loopg [11] kj17 (fun kq v11 w' => ∃ (x11_4 : Int), v11 = .int .i64 x11_4 ∧ Aside0 (laws_FnTextWrite.l0 kq t346 t347 t348 t349 x10_15 x11_4 = some r) ∧ Aside0 (kq ≤ kj17) ∧ Aside0 (Below w.heap.size w w'))
                      case atStart => exact ⟨(0), (by first | rfl | (simp; done) | (simp [*]; done)), H', ⟨Nat.le_refl _⟩, ⟨by repeat (first | (with_reducible first | exact HB.out | apply below_alloc | apply pw_below_drewN | apply below_drew1) | exact HB.out)⟩⟩
                      case round =>
                        clear H'
                        try clear c1
                        try clear c2
                        try clear c2b0
                        try clear c2b1
                        try clear p2
                        try clear p6
                        try clear c9
                        try clear c9b0
                        try clear c9b1
                        try clear c10
                        try clear c10b0
                        try clear c10b1
                        try clear c10b2
                        try clear c14
                        try clear c15
                        try clear c17
                        try clear c17b0
                        try clear c19
                        try clear c19b0
                        try clear c19b1
                        try clear c22
                        try clear p2
                        try clear p6
                        obtain ⟨x11_4, rfl, HA, HK4, HB⟩ := hrel
                        cases gk with
                        | zero => exact absurd HA.out (by simp [laws_FnTextWrite.l0])
                        | succ k4 =>
                          have H := HA.out
                          clear HA
                          simp only [laws_FnTextWrite.l0] at H
                          by_cases c23 : x11_4 < x10_15
                          · rw [if_pos c23] at H
                            have c23b0 : decide (x11_4 < x10_15) = true := decide_eq_true c23
                            clear c23
                            by_cases c24 : x11_4 ≥ t347
                            · rw [if_pos c24] at H
                              have c24b0 : decide (t347 ≤ x11_4) = true := decide_eq_true c24
                              clear c24
                              by_cases c25 : (x11_4 < (wrap64 (t347 + (t348.size : Int))))
                              · rw [if_pos c25] at H
                                have c25b0 : decide (x11_4 < (wrap64 (t347 + (t348.size : Int)))) = true := decide_eq_true c25
                                clear c25
                                have H' := Aside0.mk H
                                clear H
                                go_wp2
                                repeat (go_quiet (fail); try go_wp2)
                                go_roundg k4
                                case measure => have := HJ5.out; have := HJ15.out; have := HJ17.out; have := HK4.out; omega
                                case rel => exact ⟨(wrap64 (x11_4 + 1)), (by first | rfl | (simp; done) | (simp [*]; done)), H', ⟨by have := HJ5.out; have := HJ15.out; have := HJ17.out; have := HK4.out; omega⟩, ⟨by repeat (first | (with_reducible first | exact HB.out | apply below_alloc | apply pw_below_drewN | apply below_drew1) | exact HB.out)⟩⟩
                              · rw [if_neg c25] at H
                                have c25b0 : decide (x11_4 < (wrap64 (t347 + (t348.size : Int)))) = false := decide_eq_false c25
                                clear c25
                                by_cases c26 : x11_4 < (t346.size : Int)
                                · rw [if_pos c26] at H
                                  have c26b0 : decide (x11_4 < (t346.size : Int)) = true := decide_eq_true c26
                                  clear c26
                                  by_cases c27 : 0 ≤ x11_4
                                  · rw [if_pos c27] at H
                                    have c27b0 : decide (0 ≤ x11_4) = true := decide_eq_true c27
                                    clear c27
                                    by_cases c28 : x11_4 < (t349.size : Int)
                                    · rw [if_pos c28] at H
                                      have c28b0 : decide (x11_4 < (t349.size : Int)) = true := decide_eq_true c28
                                      clear c28
                                      by_cases c31 : (bt t349 x11_4) = (bt t346 x11_4)
                                      · rw [if_pos c31] at H
                                        have c31b0 : ((bt t349 x11_4) == (bt t346 x11_4)) = true := beq_iff_eq.mpr c31
                                        have c31b1 : ((bt t349 x11_4) != (bt t346 x11_4)) = false := bne_eq_false_iff_eq.mpr c31
                                        clear c31
                                        by_cases c32 : x11_4 ≥ (t346.size : Int)
                                        · rw [if_pos c32] at H
                                          have c32b0 : decide ((t346.size : Int) ≤ x11_4) = true := decide_eq_true c32
                                          clear c32
                                          by_cases c34 : (bt t349 x11_4) = 46
                                          · rw [if_pos c34] at H
                                            have c34b0 : ((bt t349 x11_4) == 46) = true := beq_iff_eq.mpr c34
                                            have c34b1 : ((bt t349 x11_4) != 46) = false := bne_eq_false_iff_eq.mpr c34
                                            clear c34
                                            have H' := Aside0.mk H
                                            clear H
                                            have p29 : 0 ≤ (x11_4 : Int) := of_decide_eq_true (by first | (with_reducible assumption) | assumption)
                                            have q29 : x11_4 < (t349.size : Int) := of_decide_eq_true (by first | (with_reducible assumption) | assumption)
                                            have hx29 := bt_at t349 x11_4
                                            replace p29 := eq_true p29
                                            replace q29 := eq_true q29
                                            have p30 : 0 ≤ (x11_4 : Int) := of_decide_eq_true (by first | (with_reducible assumption) | assumption)
                                            have q30 : x11_4 < (t346.size : Int) := of_decide_eq_true (by first | (with_reducible assumption) | assumption)
                                            have hx30 := bt_at t346 x11_4
                                            replace p30 := eq_true p30
                                            replace q30 := eq_true q30
                                            have p33 : 0 ≤ (x11_4 : Int) := of_decide_eq_true (by first | (with_reducible assumption) | assumption)
                                            have q33 : x11_4 < (t349.size : Int) := of_decide_eq_true (by first | (with_reducible assumption) | assumption)
                                            have hx33 := bt_at t349 x11_4
                                            replace p33 := eq_true p33
                                            replace q33 := eq_true q33
                                            go_wp2
                                            repeat (go_quiet (fail); try go_wp2)
                                            go_roundg k4
                                            case measure => have := HJ5.out; have := HJ15.out; have := HJ17.out; have := HK4.out; omega
                                            case rel => exact ⟨(wrap64 (x11_4 + 1)), (by first | rfl | (simp; done) | (simp [*]; done)), H', ⟨by have := HJ5.out; have := HJ15.out; have := HJ17.out; have := HK4.out; omega⟩, ⟨by repeat (first | (with_reducible first | exact HB.out | apply below_alloc | apply pw_below_drewN | apply below_drew1) | exact HB.out)⟩⟩
                                          · rw [if_neg c34] at H
                                            have c34b0 : ((bt t349 x11_4) == 46) = false := beq_eq_false_iff_ne.mpr c34
                                            have c34b1 : ((bt t349 x11_4) != 46) = true := bne_iff_ne.mpr c34
                                            obtain rfl := Option.some.inj H
                                            have p29 : 0 ≤ (x11_4 : Int) := of_decide_eq_true (by first | (with_reducible assumption) | assumption)
                                            have q29 : x11_4 < (t349.size : Int) := of_decide_eq_true (by first | (with_reducible assumption) | assumption)
                                            have hx29 := bt_at t349 x11_4
                                            replace p29 := eq_true p29
                                            replace q29 := eq_true q29
                                            have p30 : 0 ≤ (x11_4 : Int) := of_decide_eq_true (by first | (with_reducible assumption) | assumption)
                                            have q30 : x11_4 < (t346.size : Int) := of_decide_eq_true (by first | (with_reducible assumption) | assumption)
                                            have hx30 := bt_at t346 x11_4
                                            replace p30 := eq_true p30
                                            replace q30 := eq_true q30
                                            have p33 : 0 ≤ (x11_4 : Int) := of_decide_eq_true (by first | (with_reducible assumption) | assumption)
                                            have q33 : x11_4 < (t349.size : Int) := of_decide_eq_true (by first | (with_reducible assumption) | assumption)
                                            have hx33 := bt_at t349 x11_4
                                            replace p33 := eq_true p33
                                            replace q33 := eq_true q33
                                            go_wp2
                                            repeat (go_quiet (fail); try go_wp2)
                                            go_ret
                                            exact ⟨by first | rfl | (simp [errW_none, errW_some] <;> rfl) | (simp [*, errW_none, errW_some] <;> rfl), by repeat (first | (with_reducible first | exact HB.out | apply below_alloc | apply pw_below_drewN | apply below_drew1) | exact HB.out)⟩
                                        · rw [if_neg c32] at H
                                          have c32b0 : decide ((t346.size : Int) ≤ x11_4) = false := decide_eq_false c32
                                          clear c32
                                          have H' := Aside0.mk H
                                          clear H
                                          have p29 : 0 ≤ (x11_4 : Int) := of_decide_eq_true (by first | (with_reducible assumption) | assumption)
                                          have q29 : x11_4 < (t349.size : Int) := of_decide_eq_true (by first | (with_reducible assumption) | assumption)
                                          have hx29 := bt_at t349 x11_4
                                          replace p29 := eq_true p29
                                          replace q29 := eq_true q29
                                          have p30 : 0 ≤ (x11_4 : Int) := of_decide_eq_true (by first | (with_reducible assumption) | assumption)
                                          have q30 : x11_4 < (t346.size : Int) := of_decide_eq_true (by first | (with_reducible assumption) | assumption)
                                          have hx30 := bt_at t346 x11_4
                                          replace p30 := eq_true p30
                                          replace q30 := eq_true q30
                                          go_wp2
                                          repeat (go_quiet (fail); try go_wp2)
                                          go_roundg k4
                                          case measure => have := HJ5.out; have := HJ15.out; have := HJ17.out; have := HK4.out; omega
                                          case rel => exact ⟨(wrap64 (x11_4 + 1)), (by first | rfl | (simp; done) | (simp [*]; done)), H', ⟨by have := HJ5.out; have := HJ15.out; have := HJ17.out; have := HK4.out; omega⟩, ⟨by repeat (first | (with_reducible first | exact HB.out | apply below_alloc | apply pw_below_drewN | apply below_drew1) | exact HB.out)⟩⟩
                                      · rw [if_neg c31] at H
                                        have c31b0 : ((bt t349 x11_4) == (bt t346 x11_4)) = false := beq_eq_false_iff_ne.mpr c31
                                        have c31b1 : ((bt t349 x11_4) != (bt t346 x11_4)) = true := bne_iff_ne.mpr c31
                                        obtain rfl := Option.some.inj H
                                        have p29 : 0 ≤ (x11_4 : Int) := of_decide_eq_true (by first | (with_reducible assumption) | assumption)
                                        have q29 : x11_4 < (t349.size : Int) := of_decide_eq_true (by first | (with_reducible assumption) | assumption)
                                        have hx29 := bt_at t349 x11_4
                                        replace p29 := eq_true p29
                                        replace q29 := eq_true q29
                                        have p30 : 0 ≤ (x11_4 : Int) := of_decide_eq_true (by first | (with_reducible assumption) | assumption)
                                        have q30 : x11_4 < (t346.size : Int) := of_decide_eq_true (by first | (with_reducible assumption) | assumption)
                                        have hx30 := bt_at t346 x11_4
                                        replace p30 := eq_true p30
                                        replace q30 := eq_true q30
                                        go_wp2
                                        repeat (go_quiet (fail); try go_wp2)
                                        go_ret
                                        exact ⟨by first | rfl | (simp [errW_none, errW_some] <;> rfl) | (simp [*, errW_none, errW_some] <;> rfl), by repeat (first | (with_reducible first | exact HB.out | apply below_alloc | apply pw_below_drewN | apply below_drew1) | exact HB.out)⟩
                                    · rw [if_neg c28] at H
                                      exact absurd H (by simp)
                                  · rw [if_neg c27] at H
                                    exact absurd H (by simp)
                                · rw [if_neg c26] at H
                                  have c26b0 : decide (x11_4 < (t346.size : Int)) = false := decide_eq_false c26
                                  clear c26
                                  by_cases c35 : x11_4 ≥ (t346.size : Int)
                                  · rw [if_pos c35] at H
                                    have c35b0 : decide ((t346.size : Int) ≤ x11_4) = true := decide_eq_true c35
                                    clear c35
                                    by_cases c36 : 0 ≤ x11_4
                                    · rw [if_pos c36] at H
                                      have c36b0 : decide (0 ≤ x11_4) = true := decide_eq_true c36
                                      clear c36
                                      by_cases c37 : x11_4 < (t349.size : Int)
                                      · rw [if_pos c37] at H
                                        have c37b0 : decide (x11_4 < (t349.size : Int)) = true := decide_eq_true c37
                                        clear c37
                                        by_cases c39 : (bt t349 x11_4) = 46
                                        · rw [if_pos c39] at H
                                          have c39b0 : ((bt t349 x11_4) == 46) = true := beq_iff_eq.mpr c39
                                          have c39b1 : ((bt t349 x11_4) != 46) = false := bne_eq_false_iff_eq.mpr c39
                                          clear c39
                                          have H' := Aside0.mk H
                                          clear H
                                          have p38 : 0 ≤ (x11_4 : Int) := of_decide_eq_true (by first | (with_reducible assumption) | assumption)
                                          have q38 : x11_4 < (t349.size : Int) := of_decide_eq_true (by first | (with_reducible assumption) | assumption)
                                          have hx38 := bt_at t349 x11_4
                                          replace p38 := eq_true p38
                                          replace q38 := eq_true q38
                                          go_wp2
                                          repeat (go_quiet (fail); try go_wp2)
                                          go_roundg k4
                                          case measure => have := HJ5.out; have := HJ15.out; have := HJ17.out; have := HK4.out; omega
                                          case rel => exact ⟨(wrap64 (x11_4 + 1)), (by first | rfl | (simp; done) | (simp [*]; done)), H', ⟨by have := HJ5.out; have := HJ15.out; have := HJ17.out; have := HK4.out; omega⟩, ⟨by repeat (first | (with_reducible first | exact HB.out | apply below_alloc | apply pw_below_drewN | apply below_drew1) | exact HB.out)⟩⟩
                                        · rw [if_neg c39] at H
                                          have c39b0 : ((bt t349 x11_4) == 46) = false := beq_eq_false_iff_ne.mpr c39
                                          have c39b1 : ((bt t349 x11_4) != 46) = true := bne_iff_ne.mpr c39
                                          obtain rfl := Option.some.inj H
                                          have p38 : 0 ≤ (x11_4 : Int) := of_decide_eq_true (by first | (with_reducible assumption) | assumption)
                                          have q38 : x11_4 < (t349.size : Int) := of_decide_eq_true (by first | (with_reducible assumption) | assumption)
                                          have hx38 := bt_at t349 x11_4
                                          replace p38 := eq_true p38
                                          replace q38 := eq_true q38
                                          go_wp2
                                          repeat (go_quiet (fail); try go_wp2)
                                          go_ret
                                          exact ⟨by first | rfl | (simp [errW_none, errW_some] <;> rfl) | (simp [*, errW_none, errW_some] <;> rfl), by repeat (first | (with_reducible first | exact HB.out | apply below_alloc | apply pw_below_drewN | apply below_drew1) | exact HB.out)⟩
                                      · rw [if_neg c37] at H
                                        exact absurd H (by simp)
                                    · rw [if_neg c36] at H
                                      exact absurd H (by simp)
                                  · rw [if_neg c35] at H
                                    have c35b0 : decide ((t346.size : Int) ≤ x11_4) = false := decide_eq_false c35
                                    clear c35
                                    have H' := Aside0.mk H
                                    clear H
                                    go_wp2
                                    repeat (go_quiet (fail); try go_wp2)
                                    go_roundg k4
                                    case measure => have := HJ5.out; have := HJ15.out; have := HJ17.out; have := HK4.out; omega
                                    case rel => exact ⟨(wrap64 (x11_4 + 1)), (by first | rfl | (simp; done) | (simp [*]; done)), H', ⟨by have := HJ5.out; have := HJ15.out; have := HJ17.out; have := HK4.out; omega⟩, ⟨by repeat (first | (with_reducible first | exact HB.out | apply below_alloc | apply pw_below_drewN | apply below_drew1) | exact HB.out)⟩⟩
                            · rw [if_neg c24] at H
                              have c24b0 : decide (t347 ≤ x11_4) = false := decide_eq_false c24
                              clear c24
                              by_cases c40 : x11_4 < (t346.size : Int)
                              · rw [if_pos c40] at H
                                have c40b0 : decide (x11_4 < (t346.size : Int)) = true := decide_eq_true c40
                                clear c40
                                by_cases c41 : 0 ≤ x11_4
                                · rw [if_pos c41] at H
                                  have c41b0 : decide (0 ≤ x11_4) = true := decide_eq_true c41
                                  clear c41
                                  by_cases c42 : x11_4 < (t349.size : Int)
                                  · rw [if_pos c42] at H
                                    have c42b0 : decide (x11_4 < (t349.size : Int)) = true := decide_eq_true c42
                                    clear c42
                                    by_cases c45 : (bt t349 x11_4) = (bt t346 x11_4)
                                    · rw [if_pos c45] at H
                                      have c45b0 : ((bt t349 x11_4) == (bt t346 x11_4)) = true := beq_iff_eq.mpr c45
                                      have c45b1 : ((bt t349 x11_4) != (bt t346 x11_4)) = false := bne_eq_false_iff_eq.mpr c45
                                      clear c45
                                      by_cases c46 : x11_4 ≥ (t346.size : Int)
                                      · rw [if_pos c46] at H
                                        have c46b0 : decide ((t346.size : Int) ≤ x11_4) = true := decide_eq_true c46
                                        clear c46
                                        by_cases c48 : (bt t349 x11_4) = 46
                                        · rw [if_pos c48] at H
                                          have c48b0 : ((bt t349 x11_4) == 46) = true := beq_iff_eq.mpr c48
                                          have c48b1 : ((bt t349 x11_4) != 46) = false := bne_eq_false_iff_eq.mpr c48
                                          clear c48
                                          have H' := Aside0.mk H
                                          clear H
                                          have p43 : 0 ≤ (x11_4 : Int) := of_decide_eq_true (by first | (with_reducible assumption) | assumption)
                                          have q43 : x11_4 < (t349.size : Int) := of_decide_eq_true (by first | (with_reducible assumption) | assumption)
                                          have hx43 := bt_at t349 x11_4
                                          replace p43 := eq_true p43
                                          replace q43 := eq_true q43
                                          have p44 : 0 ≤ (x11_4 : Int) := of_decide_eq_true (by first | (with_reducible assumption) | assumption)
                                          have q44 : x11_4 < (t346.size : Int) := of_decide_eq_true (by first | (with_reducible assumption) | assumption)
                                          have hx44 := bt_at t346 x11_4
                                          replace p44 := eq_true p44
                                          replace q44 := eq_true q44
                                          have p47 : 0 ≤ (x11_4 : Int) := of_decide_eq_true (by first | (with_reducible assumption) | assumption)
                                          have q47 : x11_4 < (t349.size : Int) := of_decide_eq_true (by first | (with_reducible assumption) | assumption)
                                          have hx47 := bt_at t349 x11_4
                                          replace p47 := eq_true p47
                                          replace q47 := eq_true q47
                                          go_wp2
                                          repeat (go_quiet (fail); try go_wp2)
                                          go_roundg k4
                                          case measure => have := HJ5.out; have := HJ15.out; have := HJ17.out; have := HK4.out; omega
                                          case rel => exact ⟨(wrap64 (x11_4 + 1)), (by first | rfl | (simp; done) | (simp [*]; done)), H', ⟨by have := HJ5.out; have := HJ15.out; have := HJ17.out; have := HK4.out; omega⟩, ⟨by repeat (first | (with_reducible first | exact HB.out | apply below_alloc | apply pw_below_drewN | apply below_drew1) | exact HB.out)⟩⟩
                                        · rw [if_neg c48] at H
                                          have c48b0 : ((bt t349 x11_4) == 46) = false := beq_eq_false_iff_ne.mpr c48
                                          have c48b1 : ((bt t349 x11_4) != 46) = true := bne_iff_ne.mpr c48
                                          obtain rfl := Option.some.inj H
                                          have p43 : 0 ≤ (x11_4 : Int) := of_decide_eq_true (by first | (with_reducible assumption) | assumption)
                                          have q43 : x11_4 < (t349.size : Int) := of_decide_eq_true (by first | (with_reducible assumption) | assumption)
                                          have hx43 := bt_at t349 x11_4
                                          replace p43 := eq_true p43
                                          replace q43 := eq_true q43
                                          have p44 : 0 ≤ (x11_4 : Int) := of_decide_eq_true (by first | (with_reducible assumption) | assumption)
                                          have q44 : x11_4 < (t346.size : Int) := of_decide_eq_true (by first | (with_reducible assumption) | assumption)
                                          have hx44 := bt_at t346 x11_4
                                          replace p44 := eq_true p44
                                          replace q44 := eq_true q44
                                          have p47 : 0 ≤ (x11_4 : Int) := of_decide_eq_true (by first | (with_reducible assumption) | assumption)
                                          have q47 : x11_4 < (t349.size : Int) := of_decide_eq_true (by first | (with_reducible assumption) | assumption)
                                          have hx47 := bt_at t349 x11_4
                                          replace p47 := eq_true p47
                                          replace q47 := eq_true q47
                                          go_wp2
                                          repeat (go_quiet (fail); try go_wp2)
                                          go_ret
                                          exact ⟨by first | rfl | (simp [errW_none, errW_some] <;> rfl) | (simp [*, errW_none, errW_some] <;> rfl), by repeat (first | (with_reducible first | exact HB.out | apply below_alloc | apply pw_below_drewN | apply below_drew1) | exact HB.out)⟩
                                      · rw [if_neg c46] at H
                                        have c46b0 : decide ((t346.size : Int) ≤ x11_4) = false := decide_eq_false c46
                                        clear c46
                                        have H' := Aside0.mk H
                                        clear H
                                        have p43 : 0 ≤ (x11_4 : Int) := of_decide_eq_true (by first | (with_reducible assumption) | assumption)
                                        have q43 : x11_4 < (t349.size : Int) := of_decide_eq_true (by first | (with_reducible assumption) | assumption)
                                        have hx43 := bt_at t349 x11_4
                                        replace p43 := eq_true p43
                                        replace q43 := eq_true q43
                                        have p44 : 0 ≤ (x11_4 : Int) := of_decide_eq_true (by first | (with_reducible assumption) | assumption)
                                        have q44 : x11_4 < (t346.size : Int) := of_decide_eq_true (by first | (with_reducible assumption) | assumption)
                                        have hx44 := bt_at t346 x11_4
                                        replace p44 := eq_true p44
                                        replace q44 := eq_true q44
                                        go_wp2
                                        repeat (go_quiet (fail); try go_wp2)
                                        go_roundg k4
                                        case measure => have := HJ5.out; have := HJ15.out; have := HJ17.out; have := HK4.out; omega
                                        case rel => exact ⟨(wrap64 (x11_4 + 1)), (by first | rfl | (simp; done) | (simp [*]; done)), H', ⟨by have := HJ5.out; have := HJ15.out; have := HJ17.out; have := HK4.out; omega⟩, ⟨by repeat (first | (with_reducible first | exact HB.out | apply below_alloc | apply pw_below_drewN | apply below_drew1) | exact HB.out)⟩⟩
                                    · rw [if_neg c45] at H
                                      have c45b0 : ((bt t349 x11_4) == (bt t346 x11_4)) = false := beq_eq_false_iff_ne.mpr c45
                                      have c45b1 : ((bt t349 x11_4) != (bt t346 x11_4)) = true := bne_iff_ne.mpr c45
                                      obtain rfl := Option.some.inj H
                                      have p43 : 0 ≤ (x11_4 : Int) := of_decide_eq_true (by first | (with_reducible assumption) | assumption)
                                      have q43 : x11_4 < (t349.size : Int) := of_decide_eq_true (by first | (with_reducible assumption) | assumption)
                                      have hx43 := bt_at t349 x11_4
                                      replace p43 := eq_true p43
                                      replace q43 := eq_true q43
                                      have p44 : 0 ≤ (x11_4 : Int) := of_decide_eq_true (by first | (with_reducible assumption) | assumption)
                                      have q44 : x11_4 < (t346.size : Int) := of_decide_eq_true (by first | (with_reducible assumption) | assumption)
                                      have hx44 := bt_at t346 x11_4
                                      replace p44 := eq_true p44
                                      replace q44 := eq_true q44
                                      go_wp2
                                      repeat (go_quiet (fail); try go_wp2)
                                      go_ret
                                      exact ⟨by first | rfl | (simp [errW_none, errW_some] <;> rfl) | (simp [*, errW_none, errW_some] <;> rfl), by repeat (first | (with_reducible first | exact HB.out | apply below_alloc | apply pw_below_drewN | apply below_drew1) | exact HB.out)⟩
                                  · rw [if_neg c42] at H
                                    exact absurd H (by simp)
                                · rw [if_neg c41] at H
                                  exact absurd H (by simp)
                              · rw [if_neg c40] at H
                                have c40b0 : decide (x11_4 < (t346.size : Int)) = false := decide_eq_false c40
                                clear c40
                                by_cases c49 : x11_4 ≥ (t346.size : Int)
                                · rw [if_pos c49] at H
                                  have c49b0 : decide ((t346.size : Int) ≤ x11_4) = true := decide_eq_true c49
                                  clear c49
                                  by_cases c50 : 0 ≤ x11_4
                                  · rw [if_pos c50] at H
                                    have c50b0 : decide (0 ≤ x11_4) = true := decide_eq_true c50
                                    clear c50
                                    by_cases c51 : x11_4 < (t349.size : Int)
                                    · rw [if_pos c51] at H
                                      have c51b0 : decide (x11_4 < (t349.size : Int)) = true := decide_eq_true c51
                                      clear c51
                                      by_cases c53 : (bt t349 x11_4) = 46
                                      · rw [if_pos c53] at H
                                        have c53b0 : ((bt t349 x11_4) == 46) = true := beq_iff_eq.mpr c53
                                        have c53b1 : ((bt t349 x11_4) != 46) = false := bne_eq_false_iff_eq.mpr c53
                                        clear c53
                                        have H' := Aside0.mk H
                                        clear H
                                        have p52 : 0 ≤ (x11_4 : Int) := of_decide_eq_true (by first | (with_reducible assumption) | assumption)
                                        have q52 : x11_4 < (t349.size : Int) := of_decide_eq_true (by first | (with_reducible assumption) | assumption)
                                        have hx52 := bt_at t349 x11_4
                                        replace p52 := eq_true p52
                                        replace q52 := eq_true q52
                                        go_wp2
                                        repeat (go_quiet (fail); try go_wp2)
                                        go_roundg k4
                                        case measure => have := HJ5.out; have := HJ15.out; have := HJ17.out; have := HK4.out; omega
                                        case rel => exact ⟨(wrap64 (x11_4 + 1)), (by first | rfl | (simp; done) | (simp [*]; done)), H', ⟨by have := HJ5.out; have := HJ15.out; have := HJ17.out; have := HK4.out; omega⟩, ⟨by repeat (first | (with_reducible first | exact HB.out | apply below_alloc | apply pw_below_drewN | apply below_drew1) | exact HB.out)⟩⟩
                                      · rw [if_neg c53] at H
                                        have c53b0 : ((bt t349 x11_4) == 46) = false := beq_eq_false_iff_ne.mpr c53
                                        have c53b1 : ((bt t349 x11_4) != 46) = true := bne_iff_ne.mpr c53
                                        obtain rfl := Option.some.inj H
                                        have p52 : 0 ≤ (x11_4 : Int) := of_decide_eq_true (by first | (with_reducible assumption) | assumption)
                                        have q52 : x11_4 < (t349.size : Int) := of_decide_eq_true (by first | (with_reducible assumption) | assumption)
                                        have hx52 := bt_at t349 x11_4
                                        replace p52 := eq_true p52
                                        replace q52 := eq_true q52
                                        go_wp2
                                        repeat (go_quiet (fail); try go_wp2)
                                        go_ret
                                        exact ⟨by first | rfl | (simp [errW_none, errW_some] <;> rfl) | (simp [*, errW_none, errW_some] <;> rfl), by repeat (first | (with_reducible first | exact HB.out | apply below_alloc | apply pw_below_drewN | apply below_drew1) | exact HB.out)⟩
                                    · rw [if_neg c51] at H
                                      exact absurd H (by simp)
                                  · rw [if_neg c50] at H
                                    exact absurd H (by simp)
                                · rw [if_neg c49] at H
                                  have c49b0 : decide ((t346.size : Int) ≤ x11_4) = false := decide_eq_false c49
                                  clear c49
                                  have H' := Aside0.mk H
                                  clear H
                                  go_wp2
                                  repeat (go_quiet (fail); try go_wp2)
                                  go_roundg k4
                                  case measure => have := HJ5.out; have := HJ15.out; have := HJ17.out; have := HK4.out; omega
                                  case rel => exact ⟨(wrap64 (x11_4 + 1)), (by first | rfl | (simp; done) | (simp [*]; done)), H', ⟨by have := HJ5.out; have := HJ15.out; have := HJ17.out; have := HK4.out; omega⟩, ⟨by repeat (first | (with_reducible first | exact HB.out | apply below_alloc | apply pw_below_drewN | apply below_drew1) | exact HB.out)⟩⟩
                          · rw [if_neg c23] at H
                            have c23b0 : decide (x11_4 < x10_15) = false := decide_eq_false c23
                            clear c23
                            replace H := Option.bind_eq_some_iff.mp H
                            obtain ⟨⟨t359, t360⟩, A540, H⟩ := H
                            replace H : (if t360 = true then (if t359.toList = t349.toList then ((impl_TextOk.f k4 t349).bind fun t361 => (some t361)) else (some false)) else (some false)) = some r := H
                            have A54 := Aside0.mk A540
                            clear A540
                            by_cases c55 : t360 = true
                            · subst c55
                              have H1 : (if t359.toList = t349.toList then ((impl_TextOk.f k4 t349).bind fun t361 => (some t361)) else (some false)) = some r := by rw [if_pos rfl] at H; exact H
                              clear H
                              have H := H1
                              clear H1
                              by_cases c56 : t359.toList = t349.toList
                              · rw [if_pos c56] at H
                                have c56b0 : (t359.toList == t349.toList) = true := beq_iff_eq.mpr c56
                                have c56b1 : (t359.toList != t349.toList) = false := bne_eq_false_iff_eq.mpr c56
                                clear c56
                                replace H := Option.bind_eq_some_iff.mp H
                                obtain ⟨t361, A570, H⟩ := H
                                replace H : (some t361) = some r := H
                                have A57 := Aside0.mk A570
                                clear A570
                                obtain rfl := Option.some.inj H
                                go_wp2_with (first | (go_at_call 18; (with_reducible refine (impl_TextWrite.calls k4 t349 t347 t348 t359 true _ A54.out).mono ?_); rintro e w58 ⟨rfl, hb⟩; have n0_ := Aside0.mk (below_step (by repeat (first | (with_reducible first | exact HB.out | apply below_alloc | apply pw_below_drewN | apply below_drew1) | exact HB.out)) hb); clear HB; have HB := n0_; clear n0_; (try clear hb); (try clear hb2); (try clear hk); (try clear hi)) | (go_at_call 30; (with_reducible refine (impl_TextOk.calls k4 t349 t361 _ A57.out).mono ?_); rintro e w59 ⟨rfl, hb⟩; have n0_ := Aside0.mk (below_step (by repeat (first | (with_reducible first | exact HB.out | apply below_alloc | apply pw_below_drewN | apply below_drew1) | exact HB.out)) hb); clear HB; have HB := n0_; clear n0_; (try clear hb); (try clear hb2); (try clear hk); (try clear hi)))
                                repeat (go_quiet (first | (go_at_call 18; (with_reducible refine (impl_TextWrite.calls k4 t349 t347 t348 t359 true _ A54.out).mono ?_); rintro e w58 ⟨rfl, hb⟩; have n0_ := Aside0.mk (below_step (by repeat (first | (with_reducible first | exact HB.out | apply below_alloc | apply pw_below_drewN | apply below_drew1) | exact HB.out)) hb); clear HB; have HB := n0_; clear n0_; (try clear hb); (try clear hb2); (try clear hk); (try clear hi)) | (go_at_call 30; (with_reducible refine (impl_TextOk.calls k4 t349 t361 _ A57.out).mono ?_); rintro e w59 ⟨rfl, hb⟩; have n0_ := Aside0.mk (below_step (by repeat (first | (with_reducible first | exact HB.out | apply below_alloc | apply pw_below_drewN | apply below_drew1) | exact HB.out)) hb); clear HB; have HB := n0_; clear n0_; (try clear hb); (try clear hb2); (try clear hk); (try clear hi))); try go_wp2_with (first | (go_at_call 18; (with_reducible refine (impl_TextWrite.calls k4 t349 t347 t348 t359 true _ A54.out).mono ?_); rintro e w58 ⟨rfl, hb⟩; have n0_ := Aside0.mk (below_step (by repeat (first | (with_reducible first | exact HB.out | apply below_alloc | apply pw_below_drewN | apply below_drew1) | exact HB.out)) hb); clear HB; have HB := n0_; clear n0_; (try clear hb); (try clear hb2); (try clear hk); (try clear hi)) | (go_at_call 30; (with_reducible refine (impl_TextOk.calls k4 t349 t361 _ A57.out).mono ?_); rintro e w59 ⟨rfl, hb⟩; have n0_ := Aside0.mk (below_step (by repeat (first | (with_reducible first | exact HB.out | apply below_alloc | apply pw_below_drewN | apply below_drew1) | exact HB.out)) hb); clear HB; have HB := n0_; clear n0_; (try clear hb); (try clear hb2); (try clear hk); (try clear hi))))
                                go_ret
                                exact ⟨by first | rfl | (simp [errW_none, errW_some] <;> rfl) | (simp [*, errW_none, errW_some] <;> rfl), by repeat (first | (with_reducible first | exact HB.out | apply below_alloc | apply pw_below_drewN | apply below_drew1) | exact HB.out)⟩
                              · rw [if_neg c56] at H
                                have c56b0 : (t359.toList == t349.toList) = false := beq_eq_false_iff_ne.mpr c56
                                have c56b1 : (t359.toList != t349.toList) = true := bne_iff_ne.mpr c56
                                obtain rfl := Option.some.inj H
                                go_wp2_with (first | (go_at_call 18; (with_reducible refine (impl_TextWrite.calls k4 t349 t347 t348 t359 true _ A54.out).mono ?_); rintro e w60 ⟨rfl, hb⟩; have n0_ := Aside0.mk (below_step (by repeat (first | (with_reducible first | exact HB.out | apply below_alloc | apply pw_below_drewN | apply below_drew1) | exact HB.out)) hb); clear HB; have HB := n0_; clear n0_; (try clear hb); (try clear hb2); (try clear hk); (try clear hi)))
                                repeat (go_quiet (first | (go_at_call 18; (with_reducible refine (impl_TextWrite.calls k4 t349 t347 t348 t359 true _ A54.out).mono ?_); rintro e w60 ⟨rfl, hb⟩; have n0_ := Aside0.mk (below_step (by repeat (first | (with_reducible first | exact HB.out | apply below_alloc | apply pw_below_drewN | apply below_drew1) | exact HB.out)) hb); clear HB; have HB := n0_; clear n0_; (try clear hb); (try clear hb2); (try clear hk); (try clear hi))); try go_wp2_with (first | (go_at_call 18; (with_reducible refine (impl_TextWrite.calls k4 t349 t347 t348 t359 true _ A54.out).mono ?_); rintro e w60 ⟨rfl, hb⟩; have n0_ := Aside0.mk (below_step (by repeat (first | (with_reducible first | exact HB.out | apply below_alloc | apply pw_below_drewN | apply below_drew1) | exact HB.out)) hb); clear HB; have HB := n0_; clear n0_; (try clear hb); (try clear hb2); (try clear hk); (try clear hi))))
                                go_ret
                                exact ⟨by first | rfl | (simp [errW_none, errW_some] <;> rfl) | (simp [*, errW_none, errW_some] <;> rfl), by repeat (first | (with_reducible first | exact HB.out | apply below_alloc | apply pw_below_drewN | apply below_drew1) | exact HB.out)⟩
                            · replace c55 := Bool.eq_false_iff.mpr c55
                              subst c55
                              have H1 : (some false) = some r := by rw [if_neg (show ¬ (false = true) by decide)] at H; exact H
                              clear H
                              have H := H1
                              clear H1
                              obtain rfl := Option.some.inj H
                              go_wp2_with (first | (go_at_call 18; (with_reducible refine (impl_TextWrite.calls k4 t349 t347 t348 t359 false _ A54.out).mono ?_); rintro e w61 ⟨rfl, hb⟩; have n0_ := Aside0.mk (below_step (by repeat (first | (with_reducible first | exact HB.out | apply below_alloc | apply pw_below_drewN | apply below_drew1) | exact HB.out)) hb); clear HB; have HB := n0_; clear n0_; (try clear hb); (try clear hb2); (try clear hk); (try clear hi)))
                              repeat (go_quiet (first | (go_at_call 18; (with_reducible refine (impl_TextWrite.calls k4 t349 t347 t348 t359 false _ A54.out).mono ?_); rintro e w61 ⟨rfl, hb⟩; have n0_ := Aside0.mk (below_step (by repeat (first | (with_reducible first | exact HB.out | apply below_alloc | apply pw_below_drewN | apply below_drew1) | exact HB.out)) hb); clear HB; have HB := n0_; clear n0_; (try clear hb); (try clear hb2); (try clear hk); (try clear hi))); try go_wp2_with (first | (go_at_call 18; (with_reducible refine (impl_TextWrite.calls k4 t349 t347 t348 t359 false _ A54.out).mono ?_); rintro e w61 ⟨rfl, hb⟩; have n0_ := Aside0.mk (below_step (by repeat (first | (with_reducible first | exact HB.out | apply below_alloc | apply pw_below_drewN | apply below_drew1) | exact HB.out)) hb); clear HB; have HB := n0_; clear n0_; (try clear hb); (try clear hb2); (try clear hk); (try clear hi))))
                              go_ret
                              exact ⟨by first | rfl | (simp [errW_none, errW_some] <;> rfl) | (simp [*, errW_none, errW_some] <;> rfl), by repeat (first | (with_reducible first | exact HB.out | apply below_alloc | apply pw_below_drewN | apply below_drew1) | exact HB.out)⟩
          · replace c15 := Bool.eq_false_iff.mpr c15
            subst c15
            have H1 : (if t349.toList = t346.toList then ((spec_TextOk.f kj5 t346).bind fun t355 => (if t355 = true then (some true) else (if t349.toList = ([] : List UInt8) then ((spec_TextOk.f kj5 t346).bind fun t356 => (some (!t356))) else (some false)))) else (if t349.toList = ([] : List UInt8) then ((spec_TextOk.f kj5 t346).bind fun t357 => (some (!t357))) else (some false))) = some r := by rw [if_neg (show ¬ (false = true) by decide)] at H; exact H
            clear H
            have H := H1
            clear H1
            by_cases c62 : t349.toList = t346.toList
            · rw [if_pos c62] at H
              have c62b0 : (t349.toList == t346.toList) = true := beq_iff_eq.mpr c62
              have c62b1 : (t349.toList != t346.toList) = false := bne_eq_false_iff_eq.mpr c62
              clear c62
              replace H := Option.bind_eq_some_iff.mp H
              obtain ⟨t355, A630, H⟩ := H
              replace H : (if t355 = true then (some true) else (if t349.toList = ([] : List UInt8) then ((spec_TextOk.f kj5 t346).bind fun t356 => (some (!t356))) else (some false))) = some r := H
              have A63 := Aside0.mk A630
              clear A630
              by_cases c64 : t355 = true
              · subst c64
                have H1 : (some true) = some r := by rw [if_pos rfl] at H; exact H
                clear H
                have H := H1
                clear H1
                obtain rfl := Option.some.inj H
                go_wp2_with (first | (go_at_call 27; (with_reducible refine (spec_TextOk.calls kj5 t346 true _ A63.out).mono ?_); rintro e w' ⟨rfl, ⟨nd, rfl⟩⟩; (try first | exact ⟨rfl, _, World.drewN_drewN _ _ _⟩ | exact ⟨rfl, _, Eq.trans (World.drewN_drewN _ _ _) (congrArg (World.drewN _) (Nat.add_assoc _ _ _))⟩)))
                repeat (go_quiet (first | (go_at_call 27; (with_reducible refine (spec_TextOk.calls kj5 t346 true _ A63.out).mono ?_); rintro e w' ⟨rfl, ⟨nd, rfl⟩⟩; (try first | exact ⟨rfl, _, World.drewN_drewN _ _ _⟩ | exact ⟨rfl, _, Eq.trans (World.drewN_drewN _ _ _) (congrArg (World.drewN _) (Nat.add_assoc _ _ _))⟩))); try go_wp2_with (first | (go_at_call 27; (with_reducible refine (spec_TextOk.calls kj5 t346 true _ A63.out).mono ?_); rintro e w' ⟨rfl, ⟨nd, rfl⟩⟩; (try first | exact ⟨rfl, _, World.drewN_drewN _ _ _⟩ | exact ⟨rfl, _, Eq.trans (World.drewN_drewN _ _ _) (congrArg (World.drewN _) (Nat.add_assoc _ _ _))⟩))))
                go_ret
                exact ⟨by first | rfl | (simp [errW_none, errW_some] <;> rfl) | (simp [*, errW_none, errW_some] <;> rfl), by repeat (first | (with_reducible first | exact HB.out | apply below_alloc | apply pw_below_drewN | apply below_drew1) | exact HB.out)⟩
              · replace c64 := Bool.eq_false_iff.mpr c64
                subst c64
                have H1 : (if t349.toList = ([] : List UInt8) then ((spec_TextOk.f kj5 t346).bind fun t356 => (some (!t356))) else (some false)) = some r := by rw [if_neg (show ¬ (false = true) by decide)] at H; exact H
                clear H
                have H := H1
                clear H1
                by_cases c65 : t349.toList = ([] : List UInt8)
                · rw [if_pos c65] at H
                  have c65b0 : (t349.toList == ([] : List UInt8)) = true := beq_iff_eq.mpr c65
                  have c65b1 : (t349.toList != ([] : List UInt8)) = false := bne_eq_false_iff_eq.mpr c65
                  clear c65
                  replace H := Option.bind_eq_some_iff.mp H
                  obtain ⟨t356, A660, H⟩ := H
                  replace H : (some (!t356)) = some r := H
                  have A66 := Aside0.mk A660
                  clear A660
                  obtain rfl := Option.some.inj H
                  go_wp2_with (first | (go_at_call 27; (with_reducible refine (spec_TextOk.calls kj5 t346 false _ A63.out).mono ?_); rintro e w' ⟨rfl, ⟨nd, rfl⟩⟩; (try first | exact ⟨rfl, _, World.drewN_drewN _ _ _⟩ | exact ⟨rfl, _, Eq.trans (World.drewN_drewN _ _ _) (congrArg (World.drewN _) (Nat.add_assoc _ _ _))⟩)) | (go_at_call 27; (with_reducible refine (spec_TextOk.calls kj5 t346 t356 _ A66.out).mono ?_); rintro e w' ⟨rfl, ⟨nd, rfl⟩⟩; (try first | exact ⟨rfl, _, World.drewN_drewN _ _ _⟩ | exact ⟨rfl, _, Eq.trans (World.drewN_drewN _ _ _) (congrArg (World.drewN _) (Nat.add_assoc _ _ _))⟩)))
                  repeat (go_quiet (first | (go_at_call 27; (with_reducible refine (spec_TextOk.calls kj5 t346 false _ A63.out).mono ?_); rintro e w' ⟨rfl, ⟨nd, rfl⟩⟩; (try first | exact ⟨rfl, _, World.drewN_drewN _ _ _⟩ | exact ⟨rfl, _, Eq.trans (World.drewN_drewN _ _ _) (congrArg (World.drewN _) (Nat.add_assoc _ _ _))⟩)) | (go_at_call 27; (with_reducible refine (spec_TextOk.calls kj5 t346 t356 _ A66.out).mono ?_); rintro e w' ⟨rfl, ⟨nd, rfl⟩⟩; (try first | exact ⟨rfl, _, World.drewN_drewN _ _ _⟩ | exact ⟨rfl, _, Eq.trans (World.drewN_drewN _ _ _) (congrArg (World.drewN _) (Nat.add_assoc _ _ _))⟩))); try go_wp2_with (first | (go_at_call 27; (with_reducible refine (spec_TextOk.calls kj5 t346 false _ A63.out).mono ?_); rintro e w' ⟨rfl, ⟨nd, rfl⟩⟩; (try first | exact ⟨rfl, _, World.drewN_drewN _ _ _⟩ | exact ⟨rfl, _, Eq.trans (World.drewN_drewN _ _ _) (congrArg (World.drewN _) (Nat.add_assoc _ _ _))⟩)) | (go_at_call 27; (with_reducible refine (spec_TextOk.calls kj5 t346 t356 _ A66.out).mono ?_); rintro e w' ⟨rfl, ⟨nd, rfl⟩⟩; (try first | exact ⟨rfl, _, World.drewN_drewN _ _ _⟩ | exact ⟨rfl, _, Eq.trans (World.drewN_drewN _ _ _) (congrArg (World.drewN _) (Nat.add_assoc _ _ _))⟩))))
                  go_ret
                  exact ⟨by first | rfl | (have e_ := Option.some.inj (A66.out.symm.trans A63.out); subst e_; rfl) | (simp [errW_none, errW_some] <;> rfl) | (simp [*, errW_none, errW_some] <;> rfl), by repeat (first | (with_reducible first | exact HB.out | apply below_alloc | apply pw_below_drewN | apply below_drew1) | exact HB.out)⟩
                · rw [if_neg c65] at H
                  have c65b0 : (t349.toList == ([] : List UInt8)) = false := beq_eq_false_iff_ne.mpr c65
                  have c65b1 : (t349.toList != ([] : List UInt8)) = true := bne_iff_ne.mpr c65
                  obtain rfl := Option.some.inj H
                  go_wp2_with (first | (go_at_call 27; (with_reducible refine (spec_TextOk.calls kj5 t346 false _ A63.out).mono ?_); rintro e w' ⟨rfl, ⟨nd, rfl⟩⟩; (try first | exact ⟨rfl, _, World.drewN_drewN _ _ _⟩ | exact ⟨rfl, _, Eq.trans (World.drewN_drewN _ _ _) (congrArg (World.drewN _) (Nat.add_assoc _ _ _))⟩)))
                  repeat (go_quiet (first | (go_at_call 27; (with_reducible refine (spec_TextOk.calls kj5 t346 false _ A63.out).mono ?_); rintro e w' ⟨rfl, ⟨nd, rfl⟩⟩; (try first | exact ⟨rfl, _, World.drewN_drewN _ _ _⟩ | exact ⟨rfl, _, Eq.trans (World.drewN_drewN _ _ _) (congrArg (World.drewN _) (Nat.add_assoc _ _ _))⟩))); try go_wp2_with (first | (go_at_call 27; (with_reducible refine (spec_TextOk.calls kj5 t346 false _ A63.out).mono ?_); rintro e w' ⟨rfl, ⟨nd, rfl⟩⟩; (try first | exact ⟨rfl, _, World.drewN_drewN _ _ _⟩ | exact ⟨rfl, _, Eq.trans (World.drewN_drewN _ _ _) (congrArg (World.drewN _) (Nat.add_assoc _ _ _))⟩))))
                  go_ret
                  exact ⟨by first | rfl | (simp [errW_none, errW_some] <;> rfl) | (simp [*, errW_none, errW_some] <;> rfl), by repeat (first | (with_reducible first | exact HB.out | apply below_alloc | apply pw_below_drewN | apply below_drew1) | exact HB.out)⟩
            · rw [if_neg c62] at H
              have c62b0 : (t349.toList == t346.toList) = false := beq_eq_false_iff_ne.mpr c62
              have c62b1 : (t349.toList != t346.toList) = true := bne_iff_ne.mpr c62
              by_cases c67 : t349.toList = ([] : List UInt8)
              · rw [if_pos c67] at H
                have c67b0 : (t349.toList == ([] : List UInt8)) = true := beq_iff_eq.mpr c67
                have c67b1 : (t349.toList != ([] : List UInt8)) = false := bne_eq_false_iff_eq.mpr c67
                clear c67
                replace H := Option.bind_eq_some_iff.mp H
                obtain ⟨t357, A680, H⟩ := H
                replace H : (some (!t357)) = some r := H
                have A68 := Aside0.mk A680
                clear A680
                obtain rfl := Option.some.inj H
                go_wp2_with (first | (go_at_call 27; (with_reducible refine (spec_TextOk.calls kj5 t346 t357 _ A68.out).mono ?_); rintro e w' ⟨rfl, ⟨nd, rfl⟩⟩; (try first | exact ⟨rfl, _, World.drewN_drewN _ _ _⟩ | exact ⟨rfl, _, Eq.trans (World.drewN_drewN _ _ _) (congrArg (World.drewN _) (Nat.add_assoc _ _ _))⟩)))
                repeat (go_quiet (first | (go_at_call 27; (with_reducible refine (spec_TextOk.calls kj5 t346 t357 _ A68.out).mono ?_); rintro e w' ⟨rfl, ⟨nd, rfl⟩⟩; (try first | exact ⟨rfl, _, World.drewN_drewN _ _ _⟩ | exact ⟨rfl, _, Eq.trans (World.drewN_drewN _ _ _) (congrArg (World.drewN _) (Nat.add_assoc _ _ _))⟩))); try go_wp2_with (first | (go_at_call 27; (with_reducible refine (spec_TextOk.calls kj5 t346 t357 _ A68.out).mono ?_); rintro e w' ⟨rfl, ⟨nd, rfl⟩⟩; (try first | exact ⟨rfl, _, World.drewN_drewN _ _ _⟩ | exact ⟨rfl, _, Eq.trans (World.drewN_drewN _ _ _) (congrArg (World.drewN _) (Nat.add_assoc _ _ _))⟩))))
                go_ret
                exact ⟨by first | rfl | (simp [errW_none, errW_some] <;> rfl) | (simp [*, errW_none, errW_some] <;> rfl), by repeat (first | (with_reducible first | exact HB.out | apply below_alloc | apply pw_below_drewN | apply below_drew1) | exact HB.out)⟩
              · rw [if_neg c67] at H
                have c67b0 : (t349.toList == ([] : List UInt8)) = false := beq_eq_false_iff_ne.mpr c67
                have c67b1 : (t349.toList != ([] : List UInt8)) = true := bne_iff_ne.mpr c67
                obtain rfl := Option.some.inj H
                go_wp2
                repeat (go_quiet (fail); try go_wp2)
                go_ret
                exact ⟨by first | rfl | (simp [errW_none, errW_some] <;> rfl) | (simp [*, errW_none, errW_some] <;> rfl), by repeat (first | (with_reducible first | exact HB.out | apply below_alloc | apply pw_below_drewN | apply below_drew1) | exact HB.out)⟩

/-- THE ONE PURE STATEMENT of laws_FnTextWrite: yours. -/
def laws_FnTextWrite.Pure : Prop := ∀ (l0 : List Int), l0.length ≤ maxLen → l0.length * 1 ≤ 140737488351232 → (∀ x ∈ l0, (Lit.int .u8 x).wf = true) → ∃ k, laws_FnTextWrite.f k l0 = some true
theorem laws_FnTextWrite.walk (P : laws_FnTextWrite.Pure) (a0 : Option Addr) (len0 cap0 : Nat) (z0 : List Int) (w : World) (w0 : (a0 = none ∧ len0 = 0 ∧ cap0 = 0 ∧ z0 = []) ∨ ∃ x, a0 = some x ∧ len0 ≤ cap0 ∧ cap0 ≤ maxLen ∧ z0.length = cap0 ∧ (∀ i, i < z0.length → w.cell? (x.add i) = some (.int .u8 (z0.getD i 0))) ∧ ∀ n ∈ z0, (Lit.int .u8 n).wf = true) (y0 : len0 * 1 ≤ 140737488351232) :
    Calls Try.prog 10 #[.slice a0 len0 cap0] w fun e w' => e = .returned (.bool true) ∧ Below w.heap.size w w' := by
  obtain ⟨l0, rfl, hr0, hm0, hw0, hc0⟩ := ReadsInt.ofRowC w0
  obtain ⟨k, h⟩ := P l0 hm0 y0 hw0
  refine (laws_FnTextWrite.calls k _ _ l0 true w (Kd.C_of_reads (d := (0 : Int)) (h1 := fun _ => rfl) hr0) hc0 h).mono ?_
  rintro e w' ⟨rfl, hd⟩
  exact ⟨rfl, hd⟩

end Go.Proofs.Ytfomnpbhpncpaaa.Q
