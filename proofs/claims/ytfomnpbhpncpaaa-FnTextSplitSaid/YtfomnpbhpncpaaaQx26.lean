/- Functions of the program as functions over numbers and lists, each with the proof that the call comes to just its answer. Conditions: the function answers. Told by a program of this session that runs the kit's print with own parts. -/
import Derived.Test.YtfomnpbhpncpaaaQx0
import Derived.Test.YtfomnpbhpncpaaaQx6
import Derived.Test.YtfomnpbhpncpaaaQx7
import Derived.Test.YtfomnpbhpncpaaaQx25
namespace Go.Proofs.Ytfomnpbhpncpaaa.Q
open Go.RowKit Go.Proofs.YtfomnpbhpncpaaaW.PrintWords Go.Proofs.YtfomnpbhpncpaaaW.PrintLast Go.Proofs.YtfomnpbhpncpaaaW.PrintMore
attribute [local go_sem] max2_int min2_int max_two min_two max_three min_three max_four min_four   -- for this text's walks alone
set_option linter.unusedVariables false
set_option linter.unusedSimpArgs false

/-! ### laws_FnTextSplit: function 8 -/
mutual
def laws_FnTextSplit.j0 : Nat → List Int → List Int → Bool → Option (Bool)
  | 0, _, _, _ => none
  | k + 1, x0, x1, x24 => if x24 = true then (some true) else ((spec_DrawTextWrite.f k x0).bind fun bt322 => ((impl_TextWrite.f k bt322.1 bt322.2.1 bt322.2.2).bind fun bt325 => ((spec_TextWrite.f k bt322.1 bt322.2.1 bt322.2.2).bind fun bt327 => (if bt325.1.toList = bt327.1.toList then (if (bt325.2 != bt327.2) = true then (laws_FnTextSplit.j1 k x1 bt322.1 bt322.2.1 bt322.2.2 bt325.1 bt325.2 bt327.1 bt327.2 true) else (if bt325.2 = true then (laws_FnTextSplit.j1 k x1 bt322.1 bt322.2.1 bt322.2.2 bt325.1 bt325.2 bt327.1 bt327.2 (decide ((bt322.2.2.size : Int) < 2))) else (laws_FnTextSplit.j1 k x1 bt322.1 bt322.2.1 bt322.2.2 bt325.1 bt325.2 bt327.1 bt327.2 true))) else (laws_FnTextSplit.j1 k x1 bt322.1 bt322.2.1 bt322.2.2 bt325.1 bt325.2 bt327.1 bt327.2 true)))))
def laws_FnTextSplit.j1 : Nat → List Int → ByteArray → Int → ByteArray → ByteArray → Bool → ByteArray → Bool → Bool → Option (Bool)
  | 0, _, _, _, _, _, _, _, _, _ => none
  | k + 1, x1, x5, x6, x7, x8, x9, x10, x11, x61 => if x61 = true then (if x8.toList = x10.toList then (some (x9 == x11)) else (some false)) else (if (wrap64 ((x7.size : Int) - 1)) = 0 then (none) else (if 0 ≤ (wrap64 (1 + ((x1.length : Int) % (wrap64 ((x7.size : Int) - 1))))) then (if (wrap64 (1 + ((x1.length : Int) % (wrap64 ((x7.size : Int) - 1))))) ≤ (x7.size : Int) then ((impl_TextWrite.f k x5 x6 (x7.extract 0 ((wrap64 (1 + ((x1.length : Int) % (wrap64 ((x7.size : Int) - 1))))) : Int).toNat)).bind fun bt329 => ((impl_TextWrite.f k bt329.1 (wrap64 (x6 + (wrap64 (1 + ((x1.length : Int) % (wrap64 ((x7.size : Int) - 1))))))) (x7.extract ((wrap64 (1 + ((x1.length : Int) % (wrap64 ((x7.size : Int) - 1))))) : Int).toNat x7.size)).bind fun bt331 => (if bt329.2 = true then (if bt331.2 = true then (some (bt331.1.toList == x8.toList)) else (some false)) else (some false)))) else (none)) else (none)))
end
def laws_FnTextSplit.f (k : Nat) (l0 : List Int) (l1 : List Int) : Option (Bool) := if (l0.length : Int) > 1048576 then (laws_FnTextSplit.j0 k l0 l1 true) else (laws_FnTextSplit.j0 k l0 l1 (decide ((l1.length : Int) > 1048576)))
theorem laws_FnTextSplit.mono_l : ∀ k, (∀ y0 y1 y2, LeO (laws_FnTextSplit.j0 k y0 y1 y2) (laws_FnTextSplit.j0 (k + 1) y0 y1 y2)) ∧ (∀ y0 y1 y2 y3 y4 y5 y6 y7 y8, LeO (laws_FnTextSplit.j1 k y0 y1 y2 y3 y4 y5 y6 y7 y8) (laws_FnTextSplit.j1 (k + 1) y0 y1 y2 y3 y4 y5 y6 y7 y8))
  | 0 => ⟨fun _ _ _ r h => by simp [laws_FnTextSplit.j0] at h, fun _ _ _ _ _ _ _ _ _ r h => by simp [laws_FnTextSplit.j1] at h⟩
  | k + 1 => by
    obtain ⟨ih0, ih1⟩ := laws_FnTextSplit.mono_l k
    refine ⟨?_, ?_⟩
    · intro y0 y1 y2
      unfold laws_FnTextSplit.j0
      repeat' first
      | (with_reducible exact ih0 _ _ _)
      | (with_reducible exact ih1 _ _ _ _ _ _ _ _ _)
      | (with_reducible exact impl_TextWrite.mono _ _ _ _)
      | (with_reducible exact spec_DrawTextWrite.mono _ _)
      | (with_reducible exact spec_TextWrite.mono _ _ _ _)
      | (with_reducible exact LeO.refl _)
      | (with_reducible exact LeO.none _)
      | (with_reducible refine LeO.ite ?_ ?_)
      | (with_reducible refine LeO.bind ?_ (fun _ => ?_))
      | exact ih0 _ _ _
      | exact ih1 _ _ _ _ _ _ _ _ _
      | exact impl_TextWrite.mono _ _ _ _
      | exact spec_DrawTextWrite.mono _ _
      | exact spec_TextWrite.mono _ _ _ _
      | exact LeO.none _
      | refine LeO.ite ?_ ?_
      | refine LeO.bind ?_ (fun _ => ?_)
    · intro y0 y1 y2 y3 y4 y5 y6 y7 y8
      unfold laws_FnTextSplit.j1
      repeat' first
      | (with_reducible exact ih0 _ _ _)
      | (with_reducible exact ih1 _ _ _ _ _ _ _ _ _)
      | (with_reducible exact impl_TextWrite.mono _ _ _ _)
      | (with_reducible exact spec_DrawTextWrite.mono _ _)
      | (with_reducible exact spec_TextWrite.mono _ _ _ _)
      | (with_reducible exact LeO.refl _)
      | (with_reducible exact LeO.none _)
      | (with_reducible refine LeO.ite ?_ ?_)
      | (with_reducible refine LeO.bind ?_ (fun _ => ?_))
      | exact ih0 _ _ _
      | exact ih1 _ _ _ _ _ _ _ _ _
      | exact impl_TextWrite.mono _ _ _ _
      | exact spec_DrawTextWrite.mono _ _
      | exact spec_TextWrite.mono _ _ _ _
      | exact LeO.none _
      | refine LeO.ite ?_ ?_
      | refine LeO.bind ?_ (fun _ => ?_)
theorem laws_FnTextSplit.mono : ∀ a0 a1 k, LeO (laws_FnTextSplit.f k a0 a1) (laws_FnTextSplit.f (k + 1) a0 a1) := by
  intro a0 a1 k
  obtain ⟨ih0, ih1⟩ := laws_FnTextSplit.mono_l k
  unfold laws_FnTextSplit.f
  repeat' first
      | (with_reducible exact ih0 _ _ _)
      | (with_reducible exact ih1 _ _ _ _ _ _ _ _ _)
      | (with_reducible exact impl_TextWrite.mono _ _ _ _)
      | (with_reducible exact spec_DrawTextWrite.mono _ _)
      | (with_reducible exact spec_TextWrite.mono _ _ _ _)
      | (with_reducible exact LeO.refl _)
      | (with_reducible exact LeO.none _)
      | (with_reducible refine LeO.ite ?_ ?_)
      | (with_reducible refine LeO.bind ?_ (fun _ => ?_))
      | exact ih0 _ _ _
      | exact ih1 _ _ _ _ _ _ _ _ _
      | exact impl_TextWrite.mono _ _ _ _
      | exact spec_DrawTextWrite.mono _ _
      | exact spec_TextWrite.mono _ _ _ _
      | exact LeO.none _
      | refine LeO.ite ?_ ?_
      | refine LeO.bind ?_ (fun _ => ?_)
set_option maxHeartbeats 8000000 in
set_option maxRecDepth 100000 in
theorem laws_FnTextSplit.calls (k : Nat) (A0 : Option Addr) (c0 : Nat) (l0 : List Int) (A1 : Option Addr) (c1 : Nat) (l1 : List Int) (r : Bool) (w : World) (hr0 : Kd.C (Kd.int .u8) w A0 l0.length l0) (hc0 : l0.length ≤ c0) (hr1 : Kd.C (Kd.int .u8) w A1 l1.length l1) (hc1 : l1.length ≤ c1) (h : laws_FnTextSplit.f k l0 l1 = some r) :
    Calls Try.prog 8 #[.slice A0 l0.length c0, .slice A1 l1.length c1] w fun e w' => e = .returned (.bool r) ∧ Below w.heap.size w w' := by
  have HR0 := Aside0.mk hr0
  have HC0 := Aside0.mk hc0
  clear hr0 hc0
  have HR1 := Aside0.mk hr1
  have HC1 := Aside0.mk hc1
  clear hr1 hc1
  have HB := Aside0.mk (Below.refl w.heap.size w)
  have H : (if (l0.length : Int) > 1048576 then (laws_FnTextSplit.j0 k l0 l1 true) else (laws_FnTextSplit.j0 k l0 l1 (decide ((l1.length : Int) > 1048576)))) = some r := h
  clear h
  have HC3 := Aside0.mk H
  clear H
  go_enter Try.func8, Try.ntmps8
  go_upto_region 1 with (fail)
  go_cut [24] (fun v24 wc => ∃ (kq : Nat) (x24_2 : Bool), v24 = .bool x24_2 ∧ Aside0 (laws_FnTextSplit.j0 kq l0 l1 x24_2 = some r) ∧ Aside0 (kq ≤ k) ∧ Aside0 (Below w.heap.size w wc))
  case first =>
    have H := HC3.out
    clear HC3
    by_cases c4 : (l0.length : Int) > 1048576
    · rw [if_pos c4] at H
      have c4b0 : decide (1048576 < (l0.length : Int)) = true := decide_eq_true c4
      have c4b1 : decide (1048576 < l0.length) = true := decide_eq_true (by omega)
      clear c4
      (first | rw [c4b0] | (simp only [i64_w, i32_w]; rw [c4b0]) | skip)
      have H' := Aside0.mk H
      clear H
      go_wp2
      go_meet
      case rel => exact ⟨_, (true), (by first | rfl | (simp; done) | (simp [*]; done)), H', ⟨by first | omega | exact Nat.le_refl _⟩, ⟨by repeat (first | (with_reducible first | exact HB.out | apply below_alloc | apply pw_below_drewN | apply below_drew1) | exact HB.out)⟩⟩
    · rw [if_neg c4] at H
      have c4b0 : decide (1048576 < (l0.length : Int)) = false := decide_eq_false c4
      have c4b1 : decide (1048576 < l0.length) = false := decide_eq_false (by omega)
      clear c4
      (first | rw [c4b0] | (simp only [i64_w, i32_w]; rw [c4b0]) | skip)
      have H' := Aside0.mk H
      clear H
      go_wp2
      go_meet
      case rel => exact ⟨_, (decide ((l1.length : Int) > 1048576)), (by first | rfl | (simp; done) | (simp [*]; done)), H', ⟨by first | omega | exact Nat.le_refl _⟩, ⟨by repeat (first | (with_reducible first | exact HB.out | apply below_alloc | apply pw_below_drewN | apply below_drew1) | exact HB.out)⟩⟩
  case rest =>
    clear HC3
    try clear c1
    try clear p2
    try clear c4
    try clear c4b0
    try clear c4b1
    obtain ⟨kq, x24_2, rfl, HA, HJ2, HB⟩ := hcut
    cases kq with
    | zero => exact absurd HA.out (by simp [laws_FnTextSplit.j0])
    | succ kj2 =>
      have H := HA.out
      clear HA
      simp only [laws_FnTextSplit.j0] at H
      by_cases c5 : x24_2 = true
      · subst c5
        have H1 : (some true) = some r := by rw [if_pos rfl] at H; exact H
        clear H
        have H := H1
        clear H1
        obtain rfl := Option.some.inj H
        go_wp2
        go_ret
        exact ⟨by first | rfl | (simp [errW_none, errW_some] <;> rfl) | (simp [*, errW_none, errW_some] <;> rfl), by repeat (first | (with_reducible first | exact HB.out | apply below_alloc | apply pw_below_drewN | apply below_drew1) | exact HB.out)⟩
      · replace c5 := Bool.eq_false_iff.mpr c5
        subst c5
        have H1 : ((spec_DrawTextWrite.f kj2 l0).bind fun bt322 => ((impl_TextWrite.f kj2 bt322.1 bt322.2.1 bt322.2.2).bind fun bt325 => ((spec_TextWrite.f kj2 bt322.1 bt322.2.1 bt322.2.2).bind fun bt327 => (if bt325.1.toList = bt327.1.toList then (if (bt325.2 != bt327.2) = true then (laws_FnTextSplit.j1 kj2 l1 bt322.1 bt322.2.1 bt322.2.2 bt325.1 bt325.2 bt327.1 bt327.2 true) else (if bt325.2 = true then (laws_FnTextSplit.j1 kj2 l1 bt322.1 bt322.2.1 bt322.2.2 bt325.1 bt325.2 bt327.1 bt327.2 (decide ((bt322.2.2.size : Int) < 2))) else (laws_FnTextSplit.j1 kj2 l1 bt322.1 bt322.2.1 bt322.2.2 bt325.1 bt325.2 bt327.1 bt327.2 true))) else (laws_FnTextSplit.j1 kj2 l1 bt322.1 bt322.2.1 bt322.2.2 bt325.1 bt325.2 bt327.1 bt327.2 true))))) = some r := by rw [if_neg (show ¬ (false = true) by decide)] at H; exact H
        clear H
        have H := H1
        clear H1
        replace H := Option.bind_eq_some_iff.mp H
        obtain ⟨⟨t322, t323, t324⟩, A60, H⟩ := H
        replace H : ((impl_TextWrite.f kj2 t322 t323 t324).bind fun bt325 => ((spec_TextWrite.f kj2 t322 t323 t324).bind fun bt327 => (if bt325.1.toList = bt327.1.toList then (if (bt325.2 != bt327.2) = true then (laws_FnTextSplit.j1 kj2 l1 t322 t323 t324 bt325.1 bt325.2 bt327.1 bt327.2 true) else (if bt325.2 = true then (laws_FnTextSplit.j1 kj2 l1 t322 t323 t324 bt325.1 bt325.2 bt327.1 bt327.2 (decide ((t324.size : Int) < 2))) else (laws_FnTextSplit.j1 kj2 l1 t322 t323 t324 bt325.1 bt325.2 bt327.1 bt327.2 true))) else (laws_FnTextSplit.j1 kj2 l1 t322 t323 t324 bt325.1 bt325.2 bt327.1 bt327.2 true)))) = some r := H
        have A6 := Aside0.mk A60
        clear A60
        replace H := Option.bind_eq_some_iff.mp H
        obtain ⟨⟨t325, t326⟩, A70, H⟩ := H
        replace H : ((spec_TextWrite.f kj2 t322 t323 t324).bind fun bt327 => (if t325.toList = bt327.1.toList then (if (t326 != bt327.2) = true then (laws_FnTextSplit.j1 kj2 l1 t322 t323 t324 t325 t326 bt327.1 bt327.2 true) else (if t326 = true then (laws_FnTextSplit.j1 kj2 l1 t322 t323 t324 t325 t326 bt327.1 bt327.2 (decide ((t324.size : Int) < 2))) else (laws_FnTextSplit.j1 kj2 l1 t322 t323 t324 t325 t326 bt327.1 bt327.2 true))) else (laws_FnTextSplit.j1 kj2 l1 t322 t323 t324 t325 t326 bt327.1 bt327.2 true))) = some r := H
        have A7 := Aside0.mk A70
        clear A70
        replace H := Option.bind_eq_some_iff.mp H
        obtain ⟨⟨t327, t328⟩, A80, H⟩ := H
        replace H : (if t325.toList = t327.toList then (if (t326 != t328) = true then (laws_FnTextSplit.j1 kj2 l1 t322 t323 t324 t325 t326 t327 t328 true) else (if t326 = true then (laws_FnTextSplit.j1 kj2 l1 t322 t323 t324 t325 t326 t327 t328 (decide ((t324.size : Int) < 2))) else (laws_FnTextSplit.j1 kj2 l1 t322 t323 t324 t325 t326 t327 t328 true))) else (laws_FnTextSplit.j1 kj2 l1 t322 t323 t324 t325 t326 t327 t328 true)) = some r := H
        have A8 := Aside0.mk A80
        clear A80
        have HC9 := Aside0.mk H
        clear H
        go_upto_region 6 with (first | ((with_reducible refine gate_callee (f := 28) rfl ?_); refine goesL_ (some 27) rfl rfl Try.func28 (by kernel_rfl) rfl #[.slice A0 l0.length c0] rfl (by (try simp only [List.map_toArray, List.map_cons, List.map_nil]); first | done | rfl | (simp only [List.length_drop, List.length_take]; rfl)) ?_; (with_reducible refine (spec_DrawTextWrite.calls kj2 _ _ l0 t322 t323 t324 _ ?side1 ?side2 A6.out).mono ?_); (case side1 => repeat (first | exact (Kd.C_below HR0.out HB.out) | (with_reducible refine Kd.C_alloc ?_ _) | (with_reducible refine Kd.C_drewN ?_ _) | (with_reducible refine Kd.C_drew ?_))); (case side2 => exact HC0.out); rintro e w10 ⟨rfl, hb⟩; refine ⟨_, rfl, ?_⟩; have n0_ := Aside0.mk (below_step (by repeat (first | (with_reducible first | exact HB.out | apply below_alloc | apply pw_below_drewN | apply below_drew1) | exact HB.out)) hb); clear HB; have HB := n0_; clear n0_; (try clear hb); (try clear hb2); (try clear hk); (try clear hi)) | ((with_reducible refine gate_callee (f := 18) rfl ?_); refine goesL_ (some 35) rfl rfl Try.func18 (by kernel_rfl) rfl #[.string t322, .int .i64 t323, .string t324] rfl (by (try simp only [List.map_toArray, List.map_cons, List.map_nil]); first | done | rfl | (simp only [List.length_drop, List.length_take]; rfl)) ?_; (with_reducible refine (impl_TextWrite.calls kj2 t322 t323 t324 t325 t326 _ A7.out).mono ?_); rintro e w11 ⟨rfl, hb⟩; refine ⟨_, rfl, ?_⟩; have n0_ := Aside0.mk (below_step (by repeat (first | (with_reducible first | exact HB.out | apply below_alloc | apply pw_below_drewN | apply below_drew1) | exact HB.out)) hb); clear HB; have HB := n0_; clear n0_; (try clear hb); (try clear hb2); (try clear hk); (try clear hi)) | ((with_reducible refine gate_callee (f := 17) rfl ?_); refine goesL_ (some 42) rfl rfl Try.func17 (by kernel_rfl) rfl #[.string t322, .int .i64 t323, .string t324] rfl (by (try simp only [List.map_toArray, List.map_cons, List.map_nil]); first | done | rfl | (simp only [List.length_drop, List.length_take]; rfl)) ?_; (with_reducible refine (spec_TextWrite.calls kj2 t322 t323 t324 t327 t328 _ A8.out).mono ?_); rintro e w' ⟨rfl, ⟨nd, rfl⟩⟩; refine ⟨_, rfl, ?_⟩))
        (try simp only [Act.put, List.setIfInBounds_toArray, List.set_cons_zero, List.set_cons_succ])
        go_cut [61] (fun v61 wc => ∃ (kq : Nat) (x61_8 : Bool), v61 = .bool x61_8 ∧ Aside0 (laws_FnTextSplit.j1 kq l1 t322 t323 t324 t325 t326 t327 t328 x61_8 = some r) ∧ Aside0 (kq ≤ kj2) ∧ Aside0 (Below w.heap.size w wc))
        case first =>
          have H := HC9.out
          clear HC9
          by_cases c12 : t325.toList = t327.toList
          · rw [if_pos c12] at H
            have c12b0 : (t325.toList == t327.toList) = true := beq_iff_eq.mpr c12
            have c12b1 : (t325.toList != t327.toList) = false := bne_eq_false_iff_eq.mpr c12
            clear c12
            (first | rw [c12b0] | (simp only [i64_w, i32_w]; rw [c12b0]) | skip)
            by_cases c13 : (t326 != t328) = true
            · rw [if_pos c13] at H
              have c13b0 : (t326 != t328) = true := c13
              (try (have c13b1 : decide (t326 = t328) = false := by simpa using c13))
              (try (have c13b2 : (t326 == t328) = false := by simpa using c13))
              (try (have c13b3 : ¬ (t326 = t328) := by simpa using c13))
              clear c13
              have H' := Aside0.mk H
              clear H
              go_wp2
              go_meet
              case rel => exact ⟨_, (true), (by first | rfl | (simp; done) | (simp [*]; done)), H', ⟨by have := HJ2.out; first | omega | exact Nat.le_refl _⟩, ⟨by repeat (first | (with_reducible first | exact HB.out | apply below_alloc | apply pw_below_drewN | apply below_drew1) | exact HB.out)⟩⟩
            · rw [if_neg c13] at H
              have c13b0 : (t326 != t328) = false := by simpa using c13
              (try (have c13b1 : decide (t326 = t328) = true := by simpa using c13))
              (try (have c13b2 : (t326 == t328) = true := by simpa using c13))
              clear c13
              by_cases c14 : t326 = true
              · subst c14
                have H1 : (laws_FnTextSplit.j1 kj2 l1 t322 t323 t324 t325 true t327 t328 (decide ((t324.size : Int) < 2))) = some r := by rw [if_pos rfl] at H; exact H
                clear H
                have H := H1
                clear H1
                have H' := Aside0.mk H
                clear H
                go_wp2
                go_meet
                case rel => exact ⟨_, (decide ((t324.size : Int) < 2)), (by first | rfl | (simp; done) | (simp [*]; done)), H', ⟨by have := HJ2.out; first | omega | exact Nat.le_refl _⟩, ⟨by repeat (first | (with_reducible first | exact HB.out | apply below_alloc | apply pw_below_drewN | apply below_drew1) | exact HB.out)⟩⟩
              · replace c14 := Bool.eq_false_iff.mpr c14
                subst c14
                have H1 : (laws_FnTextSplit.j1 kj2 l1 t322 t323 t324 t325 false t327 t328 true) = some r := by rw [if_neg (show ¬ (false = true) by decide)] at H; exact H
                clear H
                have H := H1
                clear H1
                have H' := Aside0.mk H
                clear H
                go_wp2
                go_meet
                case rel => exact ⟨_, (true), (by first | rfl | (simp; done) | (simp [*]; done)), H', ⟨by have := HJ2.out; first | omega | exact Nat.le_refl _⟩, ⟨by repeat (first | (with_reducible first | exact HB.out | apply below_alloc | apply pw_below_drewN | apply below_drew1) | exact HB.out)⟩⟩
          · rw [if_neg c12] at H
            have c12b0 : (t325.toList == t327.toList) = false := beq_eq_false_iff_ne.mpr c12
            have c12b1 : (t325.toList != t327.toList) = true := bne_iff_ne.mpr c12
            (first | rw [c12b0] | (simp only [i64_w, i32_w]; rw [c12b0]) | skip)
            have H' := Aside0.mk H
            clear H
            go_wp2
            go_meet
            case rel => exact ⟨_, (true), (by first | rfl | (simp; done) | (simp [*]; done)), H', ⟨by have := HJ2.out; first | omega | exact Nat.le_refl _⟩, ⟨by repeat (first | (with_reducible first | exact HB.out | apply below_alloc | apply pw_below_drewN | apply below_drew1) | exact HB.out)⟩⟩
        case rest =>
          clear HC9
          try clear c1
          try clear c2
          try clear p2
          try clear c4
          try clear c4b0
          try clear c4b1
          try clear c5
          try clear c8
          try clear c12
          try clear c12b0
          try clear c12b1
          try clear c13
          try clear c13b0
          try clear c13b1
          try clear c13b2
          try clear c14
          try clear p2
          obtain ⟨kq, x61_8, rfl, HA, HJ8, HB⟩ := hcut
          cases kq with
          | zero => exact absurd HA.out (by simp [laws_FnTextSplit.j1])
          | succ kj8 =>
            have H := HA.out
            clear HA
            simp only [laws_FnTextSplit.j1] at H
            by_cases c15 : x61_8 = true
            · subst c15
              have H1 : (if t325.toList = t327.toList then (some (t326 == t328)) else (some false)) = some r := by rw [if_pos rfl] at H; exact H
              clear H
              have H := H1
              clear H1
              by_cases c16 : t325.toList = t327.toList
              · rw [if_pos c16] at H
                have c16b0 : (t325.toList == t327.toList) = true := beq_iff_eq.mpr c16
                have c16b1 : (t325.toList != t327.toList) = false := bne_eq_false_iff_eq.mpr c16
                clear c16
                obtain rfl := Option.some.inj H
                go_wp2
                go_ret
                exact ⟨by first | rfl | (simp [errW_none, errW_some] <;> rfl) | (simp [*, errW_none, errW_some] <;> rfl), by repeat (first | (with_reducible first | exact HB.out | apply below_alloc | apply pw_below_drewN | apply below_drew1) | exact HB.out)⟩
              · rw [if_neg c16] at H
                have c16b0 : (t325.toList == t327.toList) = false := beq_eq_false_iff_ne.mpr c16
                have c16b1 : (t325.toList != t327.toList) = true := bne_iff_ne.mpr c16
                obtain rfl := Option.some.inj H
                go_wp2
                go_ret
                exact ⟨by first | rfl | (simp [errW_none, errW_some] <;> rfl) | (simp [*, errW_none, errW_some] <;> rfl), by repeat (first | (with_reducible first | exact HB.out | apply below_alloc | apply pw_below_drewN | apply below_drew1) | exact HB.out)⟩
            · replace c15 := Bool.eq_false_iff.mpr c15
              subst c15
              have H1 : (if (wrap64 ((t324.size : Int) - 1)) = 0 then (none) else (if 0 ≤ (wrap64 (1 + ((l1.length : Int) % (wrap64 ((t324.size : Int) - 1))))) then (if (wrap64 (1 + ((l1.length : Int) % (wrap64 ((t324.size : Int) - 1))))) ≤ (t324.size : Int) then ((impl_TextWrite.f kj8 t322 t323 (t324.extract 0 ((wrap64 (1 + ((l1.length : Int) % (wrap64 ((t324.size : Int) - 1))))) : Int).toNat)).bind fun bt329 => ((impl_TextWrite.f kj8 bt329.1 (wrap64 (t323 + (wrap64 (1 + ((l1.length : Int) % (wrap64 ((t324.size : Int) - 1))))))) (t324.extract ((wrap64 (1 + ((l1.length : Int) % (wrap64 ((t324.size : Int) - 1))))) : Int).toNat t324.size)).bind fun bt331 => (if bt329.2 = true then (if bt331.2 = true then (some (bt331.1.toList == t325.toList)) else (some false)) else (some false)))) else (none)) else (none))) = some r := by rw [if_neg (show ¬ (false = true) by decide)] at H; exact H
              clear H
              have H := H1
              clear H1
              by_cases c17 : (wrap64 ((t324.size : Int) - 1)) = 0
              · rw [if_pos c17] at H
                exact absurd H (by simp)
              · rw [if_neg c17] at H
                have c17b0 : ((wrap64 ((t324.size : Int) - 1)) == 0) = false := beq_eq_false_iff_ne.mpr c17
                have c17b1 : ((wrap64 ((t324.size : Int) - 1)) != 0) = true := bne_iff_ne.mpr c17
                obtain ⟨ji18, hji18⟩ : ∃ j_ : Int, (wrap64 (1 + ((l1.length : Int) % (wrap64 ((t324.size : Int) - 1))))) = j_ := ⟨_, rfl⟩
                replace H : (if 0 ≤ (ji18) then (if (ji18) ≤ (t324.size : Int) then ((impl_TextWrite.f kj8 t322 t323 (t324.extract 0 ((ji18) : Int).toNat)).bind fun bt329 => ((impl_TextWrite.f kj8 bt329.1 (wrap64 (t323 + (ji18))) (t324.extract ((ji18) : Int).toNat t324.size)).bind fun bt331 => (if bt329.2 = true then (if bt331.2 = true then (some (bt331.1.toList == t325.toList)) else (some false)) else (some false)))) else (none)) else (none)) = some r := by first | (rw [hji18] at H; exact H) | (simp only [hji18] at H ⊢; exact H)
                have hji18w : (IntKind.i64.wrap (1 + ((l1.length : Int) % (wrap64 ((t324.size : Int) - 1))))) = ji18 := (i64_w _).trans hji18
                by_cases c19 : 0 ≤ (ji18)
                · rw [if_pos c19] at H
                  have c19b0 := eq_true c19
                  have c19b1 : decide (0 ≤ (ji18)) = true := decide_eq_true c19
                  clear c19
                  by_cases c20 : (ji18) ≤ (t324.size : Int)
                  · rw [if_pos c20] at H
                    have c20b0 := eq_true c20
                    have c20b1 : decide ((ji18) ≤ (t324.size : Int)) = true := decide_eq_true c20
                    clear c20
                    replace H := Option.bind_eq_some_iff.mp H
                    obtain ⟨⟨t329, t330⟩, A210, H⟩ := H
                    replace H : ((impl_TextWrite.f kj8 t329 (wrap64 (t323 + (ji18))) (t324.extract ((ji18) : Int).toNat t324.size)).bind fun bt331 => (if t330 = true then (if bt331.2 = true then (some (bt331.1.toList == t325.toList)) else (some false)) else (some false))) = some r := H
                    have A21 := Aside0.mk A210
                    clear A210
                    have c22b0 := eq_true (of_decide_eq_true (by first | (with_reducible assumption) | assumption) : 0 ≤ (ji18))
                    have c23b0 := eq_true (of_decide_eq_true (by first | (with_reducible assumption) | assumption) : (ji18) ≤ (t324.size : Int))
                    replace H := Option.bind_eq_some_iff.mp H
                    obtain ⟨⟨t331, t332⟩, A240, H⟩ := H
                    replace H : (if t330 = true then (if t332 = true then (some (t331.toList == t325.toList)) else (some false)) else (some false)) = some r := H
                    have A24 := Aside0.mk A240
                    clear A240
                    by_cases c25 : t330 = true
                    · subst c25
                      have H1 : (if t332 = true then (some (t331.toList == t325.toList)) else (some false)) = some r := by rw [if_pos rfl] at H; exact H
                      clear H
                      have H := H1
                      clear H1
                      by_cases c26 : t332 = true
                      · subst c26
                        have H1 : (some (t331.toList == t325.toList)) = some r := by rw [if_pos rfl] at H; exact H
                        clear H
                        have H := H1
                        clear H1
                        obtain rfl := Option.some.inj H
                        go_wp2_with (first | ((with_reducible refine gate_callee (f := 18) rfl ?_); refine goesL_ (some 83) rfl rfl Try.func18 (by kernel_rfl) rfl #[.string t322, .int .i64 t323, .string (t324.extract 0 ((ji18) : Int).toNat)] rfl (by (try simp only [List.map_toArray, List.map_cons, List.map_nil]); first | done | (simp only [hji18]; rfl) | rfl | (simp only [List.length_drop, List.length_take]; rfl)) ?_; (with_reducible refine (impl_TextWrite.calls kj8 t322 t323 (t324.extract 0 ((ji18) : Int).toNat) t329 true _ A21.out).mono ?_); rintro e w27 ⟨rfl, hb⟩; refine ⟨_, rfl, ?_⟩; have n0_ := Aside0.mk (below_step (by repeat (first | (with_reducible first | exact HB.out | apply below_alloc | apply pw_below_drewN | apply below_drew1) | exact HB.out)) hb); clear HB; have HB := n0_; clear n0_; (try clear hb); (try clear hb2); (try clear hk); (try clear hi)) | ((with_reducible refine gate_callee (f := 18) rfl ?_); refine goesL_ (some 94) rfl rfl Try.func18 (by kernel_rfl) rfl #[.string t329, .int .i64 (wrap64 (t323 + (ji18))), .string (t324.extract ((ji18) : Int).toNat t324.size)] rfl (by (try simp only [List.map_toArray, List.map_cons, List.map_nil]); first | done | (simp only [hji18]; rfl) | rfl | (simp only [List.length_drop, List.length_take]; rfl)) ?_; (with_reducible refine (impl_TextWrite.calls kj8 t329 (wrap64 (t323 + (ji18))) (t324.extract ((ji18) : Int).toNat t324.size) t331 true _ A24.out).mono ?_); rintro e w28 ⟨rfl, hb⟩; refine ⟨_, rfl, ?_⟩; have n0_ := Aside0.mk (below_step (by repeat (first | (with_reducible first | exact HB.out | apply below_alloc | apply pw_below_drewN | apply below_drew1) | exact HB.out)) hb); clear HB; have HB := n0_; clear n0_; (try clear hb); (try clear hb2); (try clear hk); (try clear hi)))
                        go_ret
                        exact ⟨by first | rfl | (simp [errW_none, errW_some] <;> rfl) | (simp only [← hji18]; first | rfl | (simp [errW_none, errW_some] <;> rfl)) | (simp [*, errW_none, errW_some] <;> rfl), by repeat (first | (with_reducible first | exact HB.out | apply below_alloc | apply pw_below_drewN | apply below_drew1) | exact HB.out)⟩
                      · replace c26 := Bool.eq_false_iff.mpr c26
                        subst c26
                        have H1 : (some false) = some r := by rw [if_neg (show ¬ (false = true) by decide)] at H; exact H
                        clear H
                        have H := H1
                        clear H1
                        obtain rfl := Option.some.inj H
                        go_wp2_with (first | ((with_reducible refine gate_callee (f := 18) rfl ?_); refine goesL_ (some 83) rfl rfl Try.func18 (by kernel_rfl) rfl #[.string t322, .int .i64 t323, .string (t324.extract 0 ((ji18) : Int).toNat)] rfl (by (try simp only [List.map_toArray, List.map_cons, List.map_nil]); first | done | (simp only [hji18]; rfl) | rfl | (simp only [List.length_drop, List.length_take]; rfl)) ?_; (with_reducible refine (impl_TextWrite.calls kj8 t322 t323 (t324.extract 0 ((ji18) : Int).toNat) t329 true _ A21.out).mono ?_); rintro e w29 ⟨rfl, hb⟩; refine ⟨_, rfl, ?_⟩; have n0_ := Aside0.mk (below_step (by repeat (first | (with_reducible first | exact HB.out | apply below_alloc | apply pw_below_drewN | apply below_drew1) | exact HB.out)) hb); clear HB; have HB := n0_; clear n0_; (try clear hb); (try clear hb2); (try clear hk); (try clear hi)) | ((with_reducible refine gate_callee (f := 18) rfl ?_); refine goesL_ (some 94) rfl rfl Try.func18 (by kernel_rfl) rfl #[.string t329, .int .i64 (wrap64 (t323 + (ji18))), .string (t324.extract ((ji18) : Int).toNat t324.size)] rfl (by (try simp only [List.map_toArray, List.map_cons, List.map_nil]); first | done | (simp only [hji18]; rfl) | rfl | (simp only [List.length_drop, List.length_take]; rfl)) ?_; (with_reducible refine (impl_TextWrite.calls kj8 t329 (wrap64 (t323 + (ji18))) (t324.extract ((ji18) : Int).toNat t324.size) t331 false _ A24.out).mono ?_); rintro e w30 ⟨rfl, hb⟩; refine ⟨_, rfl, ?_⟩; have n0_ := Aside0.mk (below_step (by repeat (first | (with_reducible first | exact HB.out | apply below_alloc | apply pw_below_drewN | apply below_drew1) | exact HB.out)) hb); clear HB; have HB := n0_; clear n0_; (try clear hb); (try clear hb2); (try clear hk); (try clear hi)))
                        go_ret
                        exact ⟨by first | rfl | (simp [errW_none, errW_some] <;> rfl) | (simp only [← hji18]; first | rfl | (simp [errW_none, errW_some] <;> rfl)) | (simp [*, errW_none, errW_some] <;> rfl), by repeat (first | (with_reducible first | exact HB.out | apply below_alloc | apply pw_below_drewN | apply below_drew1) | exact HB.out)⟩
                    · replace c25 := Bool.eq_false_iff.mpr c25
                      subst c25
                      have H1 : (some false) = some r := by rw [if_neg (show ¬ (false = true) by decide)] at H; exact H
                      clear H
                      have H := H1
                      clear H1
                      obtain rfl := Option.some.inj H
                      go_wp2_with (first | ((with_reducible refine gate_callee (f := 18) rfl ?_); refine goesL_ (some 83) rfl rfl Try.func18 (by kernel_rfl) rfl #[.string t322, .int .i64 t323, .string (t324.extract 0 ((ji18) : Int).toNat)] rfl (by (try simp only [List.map_toArray, List.map_cons, List.map_nil]); first | done | (simp only [hji18]; rfl) | rfl | (simp only [List.length_drop, List.length_take]; rfl)) ?_; (with_reducible refine (impl_TextWrite.calls kj8 t322 t323 (t324.extract 0 ((ji18) : Int).toNat) t329 false _ A21.out).mono ?_); rintro e w31 ⟨rfl, hb⟩; refine ⟨_, rfl, ?_⟩; have n0_ := Aside0.mk (below_step (by repeat (first | (with_reducible first | exact HB.out | apply below_alloc | apply pw_below_drewN | apply below_drew1) | exact HB.out)) hb); clear HB; have HB := n0_; clear n0_; (try clear hb); (try clear hb2); (try clear hk); (try clear hi)) | ((with_reducible refine gate_callee (f := 18) rfl ?_); refine goesL_ (some 94) rfl rfl Try.func18 (by kernel_rfl) rfl #[.string t329, .int .i64 (wrap64 (t323 + (ji18))), .string (t324.extract ((ji18) : Int).toNat t324.size)] rfl (by (try simp only [List.map_toArray, List.map_cons, List.map_nil]); first | done | (simp only [hji18]; rfl) | rfl | (simp only [List.length_drop, List.length_take]; rfl)) ?_; (with_reducible refine (impl_TextWrite.calls kj8 t329 (wrap64 (t323 + (ji18))) (t324.extract ((ji18) : Int).toNat t324.size) t331 t332 _ A24.out).mono ?_); rintro e w32 ⟨rfl, hb⟩; refine ⟨_, rfl, ?_⟩; have n0_ := Aside0.mk (below_step (by repeat (first | (with_reducible first | exact HB.out | apply below_alloc | apply pw_below_drewN | apply below_drew1) | exact HB.out)) hb); clear HB; have HB := n0_; clear n0_; (try clear hb); (try clear hb2); (try clear hk); (try clear hi)))
                      go_ret
                      exact ⟨by first | rfl | (simp [errW_none, errW_some] <;> rfl) | (simp only [← hji18]; first | rfl | (simp [errW_none, errW_some] <;> rfl)) | (simp [*, errW_none, errW_some] <;> rfl), by repeat (first | (with_reducible first | exact HB.out | apply below_alloc | apply pw_below_drewN | apply below_drew1) | exact HB.out)⟩
                  · rw [if_neg c20] at H
                    exact absurd H (by simp)
                · rw [if_neg c19] at H
                  exact absurd H (by simp)

/-- THE ONE PURE STATEMENT of laws_FnTextSplit: yours. -/
def laws_FnTextSplit.Pure : Prop := ∀ (l0 : List Int) (l1 : List Int), l0.length ≤ maxLen → l0.length * 1 ≤ 140737488351232 → (∀ x ∈ l0, (Lit.int .u8 x).wf = true) → l1.length ≤ maxLen → l1.length * 1 ≤ 140737488351232 → (∀ x ∈ l1, (Lit.int .u8 x).wf = true) → ∃ k, laws_FnTextSplit.f k l0 l1 = some true
theorem laws_FnTextSplit.walk (P : laws_FnTextSplit.Pure) (a0 : Option Addr) (len0 cap0 : Nat) (z0 : List Int) (a1 : Option Addr) (len1 cap1 : Nat) (z1 : List Int) (w : World) (w0 : (a0 = none ∧ len0 = 0 ∧ cap0 = 0 ∧ z0 = []) ∨ ∃ x, a0 = some x ∧ len0 ≤ cap0 ∧ cap0 ≤ maxLen ∧ z0.length = cap0 ∧ (∀ i, i < z0.length → w.cell? (x.add i) = some (.int .u8 (z0.getD i 0))) ∧ ∀ n ∈ z0, (Lit.int .u8 n).wf = true) (y0 : len0 * 1 ≤ 140737488351232) (w1 : (a1 = none ∧ len1 = 0 ∧ cap1 = 0 ∧ z1 = []) ∨ ∃ x, a1 = some x ∧ len1 ≤ cap1 ∧ cap1 ≤ maxLen ∧ z1.length = cap1 ∧ (∀ i, i < z1.length → w.cell? (x.add i) = some (.int .u8 (z1.getD i 0))) ∧ ∀ n ∈ z1, (Lit.int .u8 n).wf = true) (y1 : len1 * 1 ≤ 140737488351232) :
    Calls Try.prog 8 #[.slice a0 len0 cap0, .slice a1 len1 cap1] w fun e w' => e = .returned (.bool true) ∧ Below w.heap.size w w' := by
  obtain ⟨l0, rfl, hr0, hm0, hw0, hc0⟩ := ReadsInt.ofRowC w0
  obtain ⟨l1, rfl, hr1, hm1, hw1, hc1⟩ := ReadsInt.ofRowC w1
  obtain ⟨k, h⟩ := P l0 l1 hm0 y0 hw0 hm1 y1 hw1
  refine (laws_FnTextSplit.calls k _ _ l0 _ _ l1 true w (Kd.C_of_reads (d := (0 : Int)) (h1 := fun _ => rfl) hr0) hc0 (Kd.C_of_reads (d := (0 : Int)) (h1 := fun _ => rfl) hr1) hc1 h).mono ?_
  rintro e w' ⟨rfl, hd⟩
  exact ⟨rfl, hd⟩

end Go.Proofs.Ytfomnpbhpncpaaa.Q
