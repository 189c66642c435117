/- Functions of the program as functions over numbers and lists, each with the proof that the call comes to just its answer. Conditions: the function answers. Told by a program of this session that runs the kit's print with own parts. -/
import Derived.Test.YtfomnpbhpncpaaaQx0
import Derived.Test.YtfomnpbhpncpaaaQx6
import Derived.Test.YtfomnpbhpncpaaaQx7
import Derived.Test.YtfomnpbhpncpaaaQx25
import Derived.Test.YtfomnpbhpncpaaaQx27
namespace Go.Proofs.Ytfomnpbhpncpaaa.Q
open Go.RowKit Go.Proofs.YtfomnpbhpncpaaaW.PrintWords Go.Proofs.YtfomnpbhpncpaaaW.PrintLast Go.Proofs.YtfomnpbhpncpaaaW.PrintMore
attribute [local go_sem] max2_int min2_int max_two min_two max_three min_three max_four min_four   -- for this text's walks alone
set_option linter.unusedVariables false
set_option linter.unusedSimpArgs false

/-! ### laws_FnTextBack: function 9 -/
def laws_FnTextBack.j0 : Nat → ByteArray → Int → ByteArray → ByteArray → Bool → ByteArray → Bool → Bool → Option (Bool)
  | 0, _, _, _, _, _, _, _, _ => none
  | k + 1, x3, x4, x5, x6, x7, x8, x9, x56 => if x56 = true then (if x6.toList = x8.toList then (some (x7 == x9)) else (some false)) else ((impl_TextRead.f k x3 x4 (wrap64 (x4 + (x5.size : Int)))).bind fun t343 => ((impl_TextWrite.f k x6 x4 t343).bind fun bt344 => (if bt344.2 = true then (if bt344.1.toList = x3.toList then (some ((t343.size : Int) == (x5.size : Int))) else (some false)) else (some false))))
def laws_FnTextBack.f (k : Nat) (l0 : List Int) : Option (Bool) := if (l0.length : Int) > 1048576 then (some true) else ((spec_DrawTextWrite.f k l0).bind fun bt336 => ((impl_TextWrite.f k bt336.1 bt336.2.1 bt336.2.2).bind fun bt339 => ((spec_TextWrite.f k bt336.1 bt336.2.1 bt336.2.2).bind fun bt341 => (if bt339.1.toList = bt341.1.toList then (if (bt339.2 != bt341.2) = true then (laws_FnTextBack.j0 k bt336.1 bt336.2.1 bt336.2.2 bt339.1 bt339.2 bt341.1 bt341.2 true) else (if bt339.2 = true then (laws_FnTextBack.j0 k bt336.1 bt336.2.1 bt336.2.2 bt339.1 bt339.2 bt341.1 bt341.2 (decide ((wrap64 (bt336.2.1 + (bt336.2.2.size : Int))) > (bt336.1.size : Int)))) else (laws_FnTextBack.j0 k bt336.1 bt336.2.1 bt336.2.2 bt339.1 bt339.2 bt341.1 bt341.2 true))) else (laws_FnTextBack.j0 k bt336.1 bt336.2.1 bt336.2.2 bt339.1 bt339.2 bt341.1 bt341.2 true)))))
theorem laws_FnTextBack.mono_l : ∀ k, (∀ y0 y1 y2 y3 y4 y5 y6 y7, LeO (laws_FnTextBack.j0 k y0 y1 y2 y3 y4 y5 y6 y7) (laws_FnTextBack.j0 (k + 1) y0 y1 y2 y3 y4 y5 y6 y7))
  | 0 => fun _ _ _ _ _ _ _ _ r h => by simp [laws_FnTextBack.j0] at h
  | k + 1 => by
    have ih0 := laws_FnTextBack.mono_l k
    · intro y0 y1 y2 y3 y4 y5 y6 y7
      unfold laws_FnTextBack.j0
      repeat' first
      | (with_reducible exact ih0 _ _ _ _ _ _ _ _)
      | (with_reducible exact impl_TextRead.mono _ _ _ _)
      | (with_reducible exact impl_TextWrite.mono _ _ _ _)
      | (with_reducible exact spec_DrawTextWrite.mono _ _)
      | (with_reducible exact spec_TextWrite.mono _ _ _ _)
      | (with_reducible exact LeO.refl _)
      | (with_reducible exact LeO.none _)
      | (with_reducible refine LeO.ite ?_ ?_)
      | (with_reducible refine LeO.bind ?_ (fun _ => ?_))
      | exact ih0 _ _ _ _ _ _ _ _
      | exact impl_TextRead.mono _ _ _ _
      | exact impl_TextWrite.mono _ _ _ _
      | exact spec_DrawTextWrite.mono _ _
      | exact spec_TextWrite.mono _ _ _ _
      | exact LeO.none _
      | refine LeO.ite ?_ ?_
      | refine LeO.bind ?_ (fun _ => ?_)
theorem laws_FnTextBack.mono : ∀ a0 k, LeO (laws_FnTextBack.f k a0) (laws_FnTextBack.f (k + 1) a0) := by
  intro a0 k
  have ih0 := laws_FnTextBack.mono_l k
  unfold laws_FnTextBack.f
  repeat' first
      | (with_reducible exact ih0 _ _ _ _ _ _ _ _)
      | (with_reducible exact impl_TextRead.mono _ _ _ _)
      | (with_reducible exact impl_TextWrite.mono _ _ _ _)
      | (with_reducible exact spec_DrawTextWrite.mono _ _)
      | (with_reducible exact spec_TextWrite.mono _ _ _ _)
      | (with_reducible exact LeO.refl _)
      | (with_reducible exact LeO.none _)
      | (with_reducible refine LeO.ite ?_ ?_)
      | (with_reducible refine LeO.bind ?_ (fun _ => ?_))
      | exact ih0 _ _ _ _ _ _ _ _
      | exact impl_TextRead.mono _ _ _ _
      | exact impl_TextWrite.mono _ _ _ _
      | exact spec_DrawTextWrite.mono _ _
      | exact spec_TextWrite.mono _ _ _ _
      | exact LeO.none _
      | refine LeO.ite ?_ ?_
      | refine LeO.bind ?_ (fun _ => ?_)
set_option maxHeartbeats 8000000 in
set_option maxRecDepth 100000 in
theorem laws_FnTextBack.calls (k : Nat) (A0 : Option Addr) (c0 : Nat) (l0 : List Int) (r : Bool) (w : World) (hr0 : Kd.C (Kd.int .u8) w A0 l0.length l0) (hc0 : l0.length ≤ c0) (h : laws_FnTextBack.f k l0 = some r) :
    Calls Try.prog 9 #[.slice A0 l0.length c0] w fun e w' => e = .returned (.bool r) ∧ Below w.heap.size w w' := by
  have hu40 := Try.underlying40
  have HR0 := Aside0.mk hr0
  have HC0 := Aside0.mk hc0
  clear hr0 hc0
  have HB := Aside0.mk (Below.refl w.heap.size w)
  have H : (if (l0.length : Int) > 1048576 then (some true) else ((spec_DrawTextWrite.f k l0).bind fun bt336 => ((impl_TextWrite.f k bt336.1 bt336.2.1 bt336.2.2).bind fun bt339 => ((spec_TextWrite.f k bt336.1 bt336.2.1 bt336.2.2).bind fun bt341 => (if bt339.1.toList = bt341.1.toList then (if (bt339.2 != bt341.2) = true then (laws_FnTextBack.j0 k bt336.1 bt336.2.1 bt336.2.2 bt339.1 bt339.2 bt341.1 bt341.2 true) else (if bt339.2 = true then (laws_FnTextBack.j0 k bt336.1 bt336.2.1 bt336.2.2 bt339.1 bt339.2 bt341.1 bt341.2 (decide ((wrap64 (bt336.2.1 + (bt336.2.2.size : Int))) > (bt336.1.size : Int)))) else (laws_FnTextBack.j0 k bt336.1 bt336.2.1 bt336.2.2 bt339.1 bt339.2 bt341.1 bt341.2 true))) else (laws_FnTextBack.j0 k bt336.1 bt336.2.1 bt336.2.2 bt339.1 bt339.2 bt341.1 bt341.2 true)))))) = some r := h
  clear h
  by_cases c2 : (l0.length : Int) > 1048576
  · rw [if_pos c2] at H
    have c2b0 : decide (1048576 < (l0.length : Int)) = true := decide_eq_true c2
    have c2b1 : decide (1048576 < l0.length) = true := decide_eq_true (by omega)
    clear c2
    obtain rfl := Option.some.inj H
    go_enter Try.func9, Try.ntmps9
    go_wp2
    go_ret
    exact ⟨by first | rfl | (simp [errW_none, errW_some] <;> rfl) | (simp [*, errW_none, errW_some] <;> rfl), by repeat (first | (with_reducible first | exact HB.out | apply below_alloc | apply pw_below_drewN | apply below_drew1) | exact HB.out)⟩
  · rw [if_neg c2] at H
    have c2b0 : decide (1048576 < (l0.length : Int)) = false := decide_eq_false c2
    have c2b1 : decide (1048576 < l0.length) = false := decide_eq_false (by omega)
    clear c2
    replace H := Option.bind_eq_some_iff.mp H
    obtain ⟨⟨t336, t337, t338⟩, A30, H⟩ := H
    replace H : ((impl_TextWrite.f k t336 t337 t338).bind fun bt339 => ((spec_TextWrite.f k t336 t337 t338).bind fun bt341 => (if bt339.1.toList = bt341.1.toList then (if (bt339.2 != bt341.2) = true then (laws_FnTextBack.j0 k t336 t337 t338 bt339.1 bt339.2 bt341.1 bt341.2 true) else (if bt339.2 = true then (laws_FnTextBack.j0 k t336 t337 t338 bt339.1 bt339.2 bt341.1 bt341.2 (decide ((wrap64 (t337 + (t338.size : Int))) > (t336.size : Int)))) else (laws_FnTextBack.j0 k t336 t337 t338 bt339.1 bt339.2 bt341.1 bt341.2 true))) else (laws_FnTextBack.j0 k t336 t337 t338 bt339.1 bt339.2 bt341.1 bt341.2 true)))) = some r := H
    have A3 := Aside0.mk A30
    clear A30
    replace H := Option.bind_eq_some_iff.mp H
    obtain ⟨⟨t339, t340⟩, A40, H⟩ := H
    replace H : ((spec_TextWrite.f k t336 t337 t338).bind fun bt341 => (if t339.toList = bt341.1.toList then (if (t340 != bt341.2) = true then (laws_FnTextBack.j0 k t336 t337 t338 t339 t340 bt341.1 bt341.2 true) else (if t340 = true then (laws_FnTextBack.j0 k t336 t337 t338 t339 t340 bt341.1 bt341.2 (decide ((wrap64 (t337 + (t338.size : Int))) > (t336.size : Int)))) else (laws_FnTextBack.j0 k t336 t337 t338 t339 t340 bt341.1 bt341.2 true))) else (laws_FnTextBack.j0 k t336 t337 t338 t339 t340 bt341.1 bt341.2 true))) = some r := H
    have A4 := Aside0.mk A40
    clear A40
    replace H := Option.bind_eq_some_iff.mp H
    obtain ⟨⟨t341, t342⟩, A50, H⟩ := H
    replace H : (if t339.toList = t341.toList then (if (t340 != t342) = true then (laws_FnTextBack.j0 k t336 t337 t338 t339 t340 t341 t342 true) else (if t340 = true then (laws_FnTextBack.j0 k t336 t337 t338 t339 t340 t341 t342 (decide ((wrap64 (t337 + (t338.size : Int))) > (t336.size : Int)))) else (laws_FnTextBack.j0 k t336 t337 t338 t339 t340 t341 t342 true))) else (laws_FnTextBack.j0 k t336 t337 t338 t339 t340 t341 t342 true)) = some r := H
    have A5 := Aside0.mk A50
    clear A50
    have HC6 := Aside0.mk H
    clear H
    go_enter Try.func9, Try.ntmps9
    go_upto_region 6 with (first | ((with_reducible refine gate_callee (f := 28) rfl ?_); refine goesL_ (some 18) rfl rfl Try.func28 (by kernel_rfl) rfl #[.slice A0 l0.length c0] rfl (by (try simp only [List.map_toArray, List.map_cons, List.map_nil]); first | done | rfl | (simp only [List.length_drop, List.length_take]; rfl)) ?_; (with_reducible refine (spec_DrawTextWrite.calls k _ _ l0 t336 t337 t338 _ ?side1 ?side2 A3.out).mono ?_); (case side1 => repeat (first | exact HR0.out | (with_reducible refine Kd.C_alloc ?_ _) | (with_reducible refine Kd.C_drewN ?_ _) | (with_reducible refine Kd.C_drew ?_))); (case side2 => exact HC0.out); rintro e w7 ⟨rfl, hb⟩; refine ⟨_, rfl, ?_⟩; have n0_ := Aside0.mk (below_step (by repeat (first | (with_reducible first | exact HB.out | apply below_alloc | apply pw_below_drewN | apply below_drew1) | exact HB.out)) hb); clear HB; have HB := n0_; clear n0_; (try clear hb); (try clear hb2); (try clear hk); (try clear hi)) | ((with_reducible refine gate_callee (f := 18) rfl ?_); refine goesL_ (some 26) rfl rfl Try.func18 (by kernel_rfl) rfl #[.string t336, .int .i64 t337, .string t338] rfl (by (try simp only [List.map_toArray, List.map_cons, List.map_nil]); first | done | rfl | (simp only [List.length_drop, List.length_take]; rfl)) ?_; (with_reducible refine (impl_TextWrite.calls k t336 t337 t338 t339 t340 _ A4.out).mono ?_); rintro e w8 ⟨rfl, hb⟩; refine ⟨_, rfl, ?_⟩; have n0_ := Aside0.mk (below_step (by repeat (first | (with_reducible first | exact HB.out | apply below_alloc | apply pw_below_drewN | apply below_drew1) | exact HB.out)) hb); clear HB; have HB := n0_; clear n0_; (try clear hb); (try clear hb2); (try clear hk); (try clear hi)) | ((with_reducible refine gate_callee (f := 17) rfl ?_); refine goesL_ (some 33) rfl rfl Try.func17 (by kernel_rfl) rfl #[.string t336, .int .i64 t337, .string t338] rfl (by (try simp only [List.map_toArray, List.map_cons, List.map_nil]); first | done | rfl | (simp only [List.length_drop, List.length_take]; rfl)) ?_; (with_reducible refine (spec_TextWrite.calls k t336 t337 t338 t341 t342 _ A5.out).mono ?_); rintro e w' ⟨rfl, ⟨nd, rfl⟩⟩; refine ⟨_, rfl, ?_⟩))
    (try simp only [Act.put, List.setIfInBounds_toArray, List.set_cons_zero, List.set_cons_succ])
    go_cut [56] (fun v56 wc => ∃ (kq : Nat) (x56_5 : Bool), v56 = .bool x56_5 ∧ Aside0 (laws_FnTextBack.j0 kq t336 t337 t338 t339 t340 t341 t342 x56_5 = some r) ∧ Aside0 (kq ≤ k) ∧ Aside0 (Below w.heap.size w wc))
    case first =>
      have H := HC6.out
      clear HC6
      by_cases c9 : t339.toList = t341.toList
      · rw [if_pos c9] at H
        have c9b0 : (t339.toList == t341.toList) = true := beq_iff_eq.mpr c9
        have c9b1 : (t339.toList != t341.toList) = false := bne_eq_false_iff_eq.mpr c9
        clear c9
        (first | rw [c9b0] | (simp only [i64_w, i32_w]; rw [c9b0]) | skip)
        by_cases c10 : (t340 != t342) = true
        · rw [if_pos c10] at H
          have c10b0 : (t340 != t342) = true := c10
          (try (have c10b1 : decide (t340 = t342) = false := by simpa using c10))
          (try (have c10b2 : (t340 == t342) = false := by simpa using c10))
          (try (have c10b3 : ¬ (t340 = t342) := by simpa using c10))
          clear c10
          have H' := Aside0.mk H
          clear H
          go_wp2
          go_meet
          case rel => exact ⟨_, (true), (by first | rfl | (simp; done) | (simp [*]; done)), H', ⟨by first | omega | exact Nat.le_refl _⟩, ⟨by repeat (first | (with_reducible first | exact HB.out | apply below_alloc | apply pw_below_drewN | apply below_drew1) | exact HB.out)⟩⟩
        · rw [if_neg c10] at H
          have c10b0 : (t340 != t342) = false := by simpa using c10
          (try (have c10b1 : decide (t340 = t342) = true := by simpa using c10))
          (try (have c10b2 : (t340 == t342) = true := by simpa using c10))
          clear c10
          by_cases c11 : t340 = true
          · subst c11
            have H1 : (laws_FnTextBack.j0 k t336 t337 t338 t339 true t341 t342 (decide ((wrap64 (t337 + (t338.size : Int))) > (t336.size : Int)))) = some r := by rw [if_pos rfl] at H; exact H
            clear H
            have H := H1
            clear H1
            have H' := Aside0.mk H
            clear H
            go_wp2
            go_meet
            case rel => exact ⟨_, (decide ((wrap64 (t337 + (t338.size : Int))) > (t336.size : Int))), (by first | rfl | (simp; done) | (simp [*]; done)), H', ⟨by first | omega | exact Nat.le_refl _⟩, ⟨by repeat (first | (with_reducible first | exact HB.out | apply below_alloc | apply pw_below_drewN | apply below_drew1) | exact HB.out)⟩⟩
          · replace c11 := Bool.eq_false_iff.mpr c11
            subst c11
            have H1 : (laws_FnTextBack.j0 k t336 t337 t338 t339 false t341 t342 true) = some r := by rw [if_neg (show ¬ (false = true) by decide)] at H; exact H
            clear H
            have H := H1
            clear H1
            have H' := Aside0.mk H
            clear H
            go_wp2
            go_meet
            case rel => exact ⟨_, (true), (by first | rfl | (simp; done) | (simp [*]; done)), H', ⟨by first | omega | exact Nat.le_refl _⟩, ⟨by repeat (first | (with_reducible first | exact HB.out | apply below_alloc | apply pw_below_drewN | apply below_drew1) | exact HB.out)⟩⟩
      · rw [if_neg c9] at H
        have c9b0 : (t339.toList == t341.toList) = false := beq_eq_false_iff_ne.mpr c9
        have c9b1 : (t339.toList != t341.toList) = true := bne_iff_ne.mpr c9
        (first | rw [c9b0] | (simp only [i64_w, i32_w]; rw [c9b0]) | skip)
        have H' := Aside0.mk H
        clear H
        go_wp2
        go_meet
        case rel => exact ⟨_, (true), (by first | rfl | (simp; done) | (simp [*]; done)), H', ⟨by first | omega | exact Nat.le_refl _⟩, ⟨by repeat (first | (with_reducible first | exact HB.out | apply below_alloc | apply pw_below_drewN | apply below_drew1) | exact HB.out)⟩⟩
    case rest =>
      clear HC6
      try clear c1
      try clear c2
      try clear c2b0
      try clear c2b1
      try clear p2
      try clear p6
      try clear c9
      try clear c9b0
      try clear c9b1
      try clear c10
      try clear c10b0
      try clear c10b1
      try clear c10b2
      try clear c11
      obtain ⟨kq, x56_5, rfl, HA, HJ5, HB⟩ := hcut
      cases kq with
      | zero => exact absurd HA.out (by simp [laws_FnTextBack.j0])
      | succ kj5 =>
        have H := HA.out
        clear HA
        simp only [laws_FnTextBack.j0] at H
        by_cases c12 : x56_5 = true
        · subst c12
          have H1 : (if t339.toList = t341.toList then (some (t340 == t342)) else (some false)) = some r := by rw [if_pos rfl] at H; exact H
          clear H
          have H := H1
          clear H1
          by_cases c13 : t339.toList = t341.toList
          · rw [if_pos c13] at H
            have c13b0 : (t339.toList == t341.toList) = true := beq_iff_eq.mpr c13
            have c13b1 : (t339.toList != t341.toList) = false := bne_eq_false_iff_eq.mpr c13
            clear c13
            obtain rfl := Option.some.inj H
            go_wp2
            go_ret
            exact ⟨by first | rfl | (simp [errW_none, errW_some] <;> rfl) | (simp [*, errW_none, errW_some] <;> rfl), by repeat (first | (with_reducible first | exact HB.out | apply below_alloc | apply pw_below_drewN | apply below_drew1) | exact HB.out)⟩
          · rw [if_neg c13] at H
            have c13b0 : (t339.toList == t341.toList) = false := beq_eq_false_iff_ne.mpr c13
            have c13b1 : (t339.toList != t341.toList) = true := bne_iff_ne.mpr c13
            obtain rfl := Option.some.inj H
            go_wp2
            go_ret
            exact ⟨by first | rfl | (simp [errW_none, errW_some] <;> rfl) | (simp [*, errW_none, errW_some] <;> rfl), by repeat (first | (with_reducible first | exact HB.out | apply below_alloc | apply pw_below_drewN | apply below_drew1) | exact HB.out)⟩
        · replace c12 := Bool.eq_false_iff.mpr c12
          subst c12
          have H1 : ((impl_TextRead.f kj5 t336 t337 (wrap64 (t337 + (t338.size : Int)))).bind fun t343 => ((impl_TextWrite.f kj5 t339 t337 t343).bind fun bt344 => (if bt344.2 = true then (if bt344.1.toList = t336.toList then (some ((t343.size : Int) == (t338.size : Int))) else (some false)) else (some false)))) = some r := by rw [if_neg (show ¬ (false = true) by decide)] at H; exact H
          clear H
          have H := H1
          clear H1
          replace H := Option.bind_eq_some_iff.mp H
          obtain ⟨t343, A140, H⟩ := H
          replace H : ((impl_TextWrite.f kj5 t339 t337 t343).bind fun bt344 => (if bt344.2 = true then (if bt344.1.toList = t336.toList then (some ((t343.size : Int) == (t338.size : Int))) else (some false)) else (some false))) = some r := H
          have A14 := Aside0.mk A140
          clear A140
          replace H := Option.bind_eq_some_iff.mp H
          obtain ⟨⟨t344, t345⟩, A150, H⟩ := H
          replace H : (if t345 = true then (if t344.toList = t336.toList then (some ((t343.size : Int) == (t338.size : Int))) else (some false)) else (some false)) = some r := H
          have A15 := Aside0.mk A150
          clear A150
          by_cases c16 : t345 = true
          · subst c16
            have H1 : (if t344.toList = t336.toList then (some ((t343.size : Int) == (t338.size : Int))) else (some false)) = some r := by rw [if_pos rfl] at H; exact H
            clear H
            have H := H1
            clear H1
            by_cases c17 : t344.toList = t336.toList
            · rw [if_pos c17] at H
              have c17b0 : (t344.toList == t336.toList) = true := beq_iff_eq.mpr c17
              have c17b1 : (t344.toList != t336.toList) = false := bne_eq_false_iff_eq.mpr c17
              clear c17
              obtain rfl := Option.some.inj H
              go_wp2_with (first | ((with_reducible refine gate_callee (f := 29) rfl ?_); refine goesL_ (some 72) rfl rfl Try.func29 (by kernel_rfl) rfl #[.string t336, .agg #[.int .i64 t337, .int .i64 (wrap64 (t337 + (t338.size : Int)))]] rfl (by (try simp only [List.map_toArray, List.map_cons, List.map_nil]); first | done | rfl | (simp only [List.length_drop, List.length_take]; rfl)) ?_; (with_reducible refine (impl_TextRead.calls kj5 t336 t337 (wrap64 (t337 + (t338.size : Int))) t343 _ A14.out).mono ?_); rintro e w18 ⟨rfl, hb⟩; refine ⟨_, rfl, ?_⟩; have n0_ := Aside0.mk (below_step (by repeat (first | (with_reducible first | exact HB.out | apply below_alloc | apply pw_below_drewN | apply below_drew1) | exact HB.out)) hb); clear HB; have HB := n0_; clear n0_; (try clear hb); (try clear hb2); (try clear hk); (try clear hi)) | ((with_reducible refine gate_callee (f := 18) rfl ?_); refine goesL_ (some 77) rfl rfl Try.func18 (by kernel_rfl) rfl #[.string t339, .int .i64 t337, .string t343] rfl (by (try simp only [List.map_toArray, List.map_cons, List.map_nil]); first | done | rfl | (simp only [List.length_drop, List.length_take]; rfl)) ?_; (with_reducible refine (impl_TextWrite.calls kj5 t339 t337 t343 t344 true _ A15.out).mono ?_); rintro e w19 ⟨rfl, hb⟩; refine ⟨_, rfl, ?_⟩; have n0_ := Aside0.mk (below_step (by repeat (first | (with_reducible first | exact HB.out | apply below_alloc | apply pw_below_drewN | apply below_drew1) | exact HB.out)) hb); clear HB; have HB := n0_; clear n0_; (try clear hb); (try clear hb2); (try clear hk); (try clear hi)))
              go_ret
              exact ⟨by first | rfl | (simp [errW_none, errW_some] <;> rfl) | (simp [*, errW_none, errW_some] <;> rfl), by repeat (first | (with_reducible first | exact HB.out | apply below_alloc | apply pw_below_drewN | apply below_drew1) | exact HB.out)⟩
            · rw [if_neg c17] at H
              have c17b0 : (t344.toList == t336.toList) = false := beq_eq_false_iff_ne.mpr c17
              have c17b1 : (t344.toList != t336.toList) = true := bne_iff_ne.mpr c17
              obtain rfl := Option.some.inj H
              go_wp2_with (first | ((with_reducible refine gate_callee (f := 29) rfl ?_); refine goesL_ (some 72) rfl rfl Try.func29 (by kernel_rfl) rfl #[.string t336, .agg #[.int .i64 t337, .int .i64 (wrap64 (t337 + (t338.size : Int)))]] rfl (by (try simp only [List.map_toArray, List.map_cons, List.map_nil]); first | done | rfl | (simp only [List.length_drop, List.length_take]; rfl)) ?_; (with_reducible refine (impl_TextRead.calls kj5 t336 t337 (wrap64 (t337 + (t338.size : Int))) t343 _ A14.out).mono ?_); rintro e w20 ⟨rfl, hb⟩; refine ⟨_, rfl, ?_⟩; have n0_ := Aside0.mk (below_step (by repeat (first | (with_reducible first | exact HB.out | apply below_alloc | apply pw_below_drewN | apply below_drew1) | exact HB.out)) hb); clear HB; have HB := n0_; clear n0_; (try clear hb); (try clear hb2); (try clear hk); (try clear hi)) | ((with_reducible refine gate_callee (f := 18) rfl ?_); refine goesL_ (some 77) rfl rfl Try.func18 (by kernel_rfl) rfl #[.string t339, .int .i64 t337, .string t343] rfl (by (try simp only [List.map_toArray, List.map_cons, List.map_nil]); first | done | rfl | (simp only [List.length_drop, List.length_take]; rfl)) ?_; (with_reducible refine (impl_TextWrite.calls kj5 t339 t337 t343 t344 true _ A15.out).mono ?_); rintro e w21 ⟨rfl, hb⟩; refine ⟨_, rfl, ?_⟩; have n0_ := Aside0.mk (below_step (by repeat (first | (with_reducible first | exact HB.out | apply below_alloc | apply pw_below_drewN | apply below_drew1) | exact HB.out)) hb); clear HB; have HB := n0_; clear n0_; (try clear hb); (try clear hb2); (try clear hk); (try clear hi)))
              go_ret
              exact ⟨by first | rfl | (simp [errW_none, errW_some] <;> rfl) | (simp [*, errW_none, errW_some] <;> rfl), by repeat (first | (with_reducible first | exact HB.out | apply below_alloc | apply pw_below_drewN | apply below_drew1) | exact HB.out)⟩
          · replace c16 := Bool.eq_false_iff.mpr c16
            subst c16
            have H1 : (some false) = some r := by rw [if_neg (show ¬ (false = true) by decide)] at H; exact H
            clear H
            have H := H1
            clear H1
            obtain rfl := Option.some.inj H
            go_wp2_with (first | ((with_reducible refine gate_callee (f := 29) rfl ?_); refine goesL_ (some 72) rfl rfl Try.func29 (by kernel_rfl) rfl #[.string t336, .agg #[.int .i64 t337, .int .i64 (wrap64 (t337 + (t338.size : Int)))]] rfl (by (try simp only [List.map_toArray, List.map_cons, List.map_nil]); first | done | rfl | (simp only [List.length_drop, List.length_take]; rfl)) ?_; (with_reducible refine (impl_TextRead.calls kj5 t336 t337 (wrap64 (t337 + (t338.size : Int))) t343 _ A14.out).mono ?_); rintro e w22 ⟨rfl, hb⟩; refine ⟨_, rfl, ?_⟩; have n0_ := Aside0.mk (below_step (by repeat (first | (with_reducible first | exact HB.out | apply below_alloc | apply pw_below_drewN | apply below_drew1) | exact HB.out)) hb); clear HB; have HB := n0_; clear n0_; (try clear hb); (try clear hb2); (try clear hk); (try clear hi)) | ((with_reducible refine gate_callee (f := 18) rfl ?_); refine goesL_ (some 77) rfl rfl Try.func18 (by kernel_rfl) rfl #[.string t339, .int .i64 t337, .string t343] rfl (by (try simp only [List.map_toArray, List.map_cons, List.map_nil]); first | done | rfl | (simp only [List.length_drop, List.length_take]; rfl)) ?_; (with_reducible refine (impl_TextWrite.calls kj5 t339 t337 t343 t344 false _ A15.out).mono ?_); rintro e w23 ⟨rfl, hb⟩; refine ⟨_, rfl, ?_⟩; have n0_ := Aside0.mk (below_step (by repeat (first | (with_reducible first | exact HB.out | apply below_alloc | apply pw_below_drewN | apply below_drew1) | exact HB.out)) hb); clear HB; have HB := n0_; clear n0_; (try clear hb); (try clear hb2); (try clear hk); (try clear hi)))
            go_ret
            exact ⟨by first | rfl | (simp [errW_none, errW_some] <;> rfl) | (simp [*, errW_none, errW_some] <;> rfl), by repeat (first | (with_reducible first | exact HB.out | apply below_alloc | apply pw_below_drewN | apply below_drew1) | exact HB.out)⟩

/-- THE ONE PURE STATEMENT of laws_FnTextBack: yours. -/
def laws_FnTextBack.Pure : Prop := ∀ (l0 : List Int), l0.length ≤ maxLen → l0.length * 1 ≤ 140737488351232 → (∀ x ∈ l0, (Lit.int .u8 x).wf = true) → ∃ k, laws_FnTextBack.f k l0 = some true
theorem laws_FnTextBack.walk (P : laws_FnTextBack.Pure) (a0 : Option Addr) (len0 cap0 : Nat) (z0 : List Int) (w : World) (w0 : (a0 = none ∧ len0 = 0 ∧ cap0 = 0 ∧ z0 = []) ∨ ∃ x, a0 = some x ∧ len0 ≤ cap0 ∧ cap0 ≤ maxLen ∧ z0.length = cap0 ∧ (∀ i, i < z0.length → w.cell? (x.add i) = some (.int .u8 (z0.getD i 0))) ∧ ∀ n ∈ z0, (Lit.int .u8 n).wf = true) (y0 : len0 * 1 ≤ 140737488351232) :
    Calls Try.prog 9 #[.slice a0 len0 cap0] w fun e w' => e = .returned (.bool true) ∧ Below w.heap.size w w' := by
  obtain ⟨l0, rfl, hr0, hm0, hw0, hc0⟩ := ReadsInt.ofRowC w0
  obtain ⟨k, h⟩ := P l0 hm0 y0 hw0
  refine (laws_FnTextBack.calls k _ _ l0 true w (Kd.C_of_reads (d := (0 : Int)) (h1 := fun _ => rfl) hr0) hc0 h).mono ?_
  rintro e w' ⟨rfl, hd⟩
  exact ⟨rfl, hd⟩

end Go.Proofs.Ytfomnpbhpncpaaa.Q
