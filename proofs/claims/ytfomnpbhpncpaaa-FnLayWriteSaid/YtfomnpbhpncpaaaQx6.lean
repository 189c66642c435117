/- Functions of the program as functions over numbers and lists, each with the proof that the call comes to just its answer. Conditions: the function answers. Told by a program of this session that runs the kit's print with own parts. -/
import Derived.Test.YtfomnpbhpncpaaaQx0
import Derived.Test.YtfomnpbhpncpaaaQx1
import Derived.Test.YtfomnpbhpncpaaaQx2
import Derived.Test.YtfomnpbhpncpaaaQx5
namespace Go.Proofs.Ytfomnpbhpncpaaa.Q
open Go.RowKit Go.Proofs.YtfomnpbhpncpaaaW.PrintWords Go.Proofs.YtfomnpbhpncpaaaW.PrintLast Go.Proofs.YtfomnpbhpncpaaaW.PrintMore
attribute [local go_sem] max2_int min2_int max_two min_two max_three min_three max_four min_four   -- for this text's walks alone
set_option linter.unusedVariables false
set_option linter.unusedSimpArgs false

/-! ### spec_l2Write: function 45 -/
def spec_l2Write.f (k : Nat) (a0 : ByteArray) (a1 : Int) (a2 : ByteArray) : Option (ByteArray) := (spec_l2Long.f k a0 a1).bind fun t114 => (if 0 ≤ a1 then (if a1 ≤ (t114.size : Int) then (if (t114.extract 0 (a1 : Int).toNat).size + a2.size ≤ 9223372036854775807 then ((spec_l1Min.f (t114.size : Int) (wrap64 (a1 + (a2.size : Int)))).bind fun t115 => (if 0 ≤ t115 then (if t115 ≤ (t114.size : Int) then (if ((t114.extract 0 (a1 : Int).toNat) ++ a2).size + (t114.extract (t115 : Int).toNat t114.size).size ≤ 9223372036854775807 then (some (((t114.extract 0 (a1 : Int).toNat) ++ a2) ++ (t114.extract (t115 : Int).toNat t114.size))) else (none)) else (none)) else (none))) else (none)) else (none)) else (none))
theorem spec_l2Write.mono : ∀ a0 a1 a2 k, LeO (spec_l2Write.f k a0 a1 a2) (spec_l2Write.f (k + 1) a0 a1 a2) := by
  intro a0 a1 a2 k
  unfold spec_l2Write.f
  repeat' first
      | (with_reducible exact spec_l2Long.mono _ _ _)
      | (with_reducible exact LeO.refl _)
      | (with_reducible exact LeO.none _)
      | (with_reducible refine LeO.ite ?_ ?_)
      | (with_reducible refine LeO.bind ?_ (fun _ => ?_))
      | exact spec_l2Long.mono _ _ _
      | exact LeO.none _
      | refine LeO.ite ?_ ?_
      | refine LeO.bind ?_ (fun _ => ?_)
set_option maxHeartbeats 8000000 in
set_option maxRecDepth 100000 in
theorem spec_l2Write.calls (k : Nat) (a0 : ByteArray) (a1 : Int) (a2 : ByteArray) (r : ByteArray) (w : World) (h : spec_l2Write.f k a0 a1 a2 = some r) :
    Calls Try.prog 45 #[.string a0, .int .i64 a1, .string a2] w fun e w' => e = .returned (.string r) ∧ Drawn0 w w' := by
  have H : ((spec_l2Long.f k a0 a1).bind fun t114 => (if 0 ≤ a1 then (if a1 ≤ (t114.size : Int) then (if (t114.extract 0 (a1 : Int).toNat).size + a2.size ≤ 9223372036854775807 then ((spec_l1Min.f (t114.size : Int) (wrap64 (a1 + (a2.size : Int)))).bind fun t115 => (if 0 ≤ t115 then (if t115 ≤ (t114.size : Int) then (if ((t114.extract 0 (a1 : Int).toNat) ++ a2).size + (t114.extract (t115 : Int).toNat t114.size).size ≤ 9223372036854775807 then (some (((t114.extract 0 (a1 : Int).toNat) ++ a2) ++ (t114.extract (t115 : Int).toNat t114.size))) else (none)) else (none)) else (none))) else (none)) else (none)) else (none))) = some r := h
  clear h
  replace H := Option.bind_eq_some_iff.mp H
  obtain ⟨t114, A40, H⟩ := H
  replace H : (if 0 ≤ a1 then (if a1 ≤ (t114.size : Int) then (if (t114.extract 0 (a1 : Int).toNat).size + a2.size ≤ 9223372036854775807 then ((spec_l1Min.f (t114.size : Int) (wrap64 (a1 + (a2.size : Int)))).bind fun t115 => (if 0 ≤ t115 then (if t115 ≤ (t114.size : Int) then (if ((t114.extract 0 (a1 : Int).toNat) ++ a2).size + (t114.extract (t115 : Int).toNat t114.size).size ≤ 9223372036854775807 then (some (((t114.extract 0 (a1 : Int).toNat) ++ a2) ++ (t114.extract (t115 : Int).toNat t114.size))) else (none)) else (none)) else (none))) else (none)) else (none)) else (none)) = some r := H
  have A4 := Aside0.mk A40
  clear A40
  by_cases c5 : 0 ≤ a1
  · rw [if_pos c5] at H
    have c5b0 := eq_true c5
    have c5b1 : decide (0 ≤ a1) = true := decide_eq_true c5
    clear c5
    by_cases c6 : a1 ≤ (t114.size : Int)
    · rw [if_pos c6] at H
      have c6b0 := eq_true c6
      have c6b1 : decide (a1 ≤ (t114.size : Int)) = true := decide_eq_true c6
      clear c6
      by_cases c7 : (t114.extract 0 (a1 : Int).toNat).size + a2.size ≤ 9223372036854775807
      · rw [if_pos c7] at H
        have c7b0 := eq_true c7
        have c7b1 : decide ((t114.extract 0 (a1 : Int).toNat).size + a2.size ≤ 9223372036854775807) = true := decide_eq_true c7
        try have c7b2 : (9223372036854775807 < (t114.extract 0 (a1 : Int).toNat).size + a2.size) = False := eq_false (Nat.not_lt.2 c7)
        try have c7b3 : (9223372036854775807 < (a1 : Int).toNat + a2.size) = False := by (have z_ := c7; simp only [ByteArray.size_append, ByteArray.size_extract] at z_; (try have g1_ := of_decide_eq_true c5b1); (try have g3_ := of_decide_eq_true c6b1); exact eq_false (by omega))
        replace H := Option.bind_eq_some_iff.mp H
        obtain ⟨t115, A80, H⟩ := H
        replace H : (if 0 ≤ t115 then (if t115 ≤ (t114.size : Int) then (if ((t114.extract 0 (a1 : Int).toNat) ++ a2).size + (t114.extract (t115 : Int).toNat t114.size).size ≤ 9223372036854775807 then (some (((t114.extract 0 (a1 : Int).toNat) ++ a2) ++ (t114.extract (t115 : Int).toNat t114.size))) else (none)) else (none)) else (none)) = some r := H
        have A8 := Aside0.mk A80
        clear A80
        by_cases c9 : 0 ≤ t115
        · rw [if_pos c9] at H
          have c9b0 := eq_true c9
          have c9b1 : decide (0 ≤ t115) = true := decide_eq_true c9
          clear c9
          by_cases c10 : t115 ≤ (t114.size : Int)
          · rw [if_pos c10] at H
            have c10b0 := eq_true c10
            have c10b1 : decide (t115 ≤ (t114.size : Int)) = true := decide_eq_true c10
            clear c10
            by_cases c11 : ((t114.extract 0 (a1 : Int).toNat) ++ a2).size + (t114.extract (t115 : Int).toNat t114.size).size ≤ 9223372036854775807
            · rw [if_pos c11] at H
              have c11b0 := eq_true c11
              have c11b1 : decide (((t114.extract 0 (a1 : Int).toNat) ++ a2).size + (t114.extract (t115 : Int).toNat t114.size).size ≤ 9223372036854775807) = true := decide_eq_true c11
              try have c11b2 : (9223372036854775807 < ((t114.extract 0 (a1 : Int).toNat) ++ a2).size + (t114.extract (t115 : Int).toNat t114.size).size) = False := eq_false (Nat.not_lt.2 c11)
              try have c11b3 : (9223372036854775807 < ((a1 : Int).toNat + (a2).size) + (t114.size - (t115 : Int).toNat)) = False := by (have z_ := c11; simp only [ByteArray.size_append, ByteArray.size_extract] at z_; (try have g1_ := of_decide_eq_true c5b1); (try have g3_ := of_decide_eq_true c6b1); (try have g5_ := of_decide_eq_true c7b1); (try have g8_ := of_decide_eq_true c9b1); (try have g10_ := of_decide_eq_true c10b1); exact eq_false (by omega))
              obtain rfl := Option.some.inj H
              go_enter Try.func45, Try.ntmps45
              go_wp2_with (first | (go_at_call 43; (with_reducible refine (spec_l2Long.calls k a0 a1 t114 _ A4.out).mono ?_); rintro e w' ⟨rfl, ⟨nd, rfl⟩⟩; (try first | exact ⟨rfl, _, World.drewN_drewN _ _ _⟩ | exact ⟨rfl, _, Eq.trans (World.drewN_drewN _ _ _) (congrArg (World.drewN _) (Nat.add_assoc _ _ _))⟩)) | (go_at_call 66; (with_reducible refine (spec_l1Min.calls (t114.size : Int) (wrap64 (a1 + (a2.size : Int))) t115 _ A8.out).mono ?_); rintro e w' ⟨rfl, ⟨nd, rfl⟩⟩; (try first | exact ⟨rfl, _, World.drewN_drewN _ _ _⟩ | exact ⟨rfl, _, Eq.trans (World.drewN_drewN _ _ _) (congrArg (World.drewN _) (Nat.add_assoc _ _ _))⟩)))
              repeat (go_quiet (first | (go_at_call 43; (with_reducible refine (spec_l2Long.calls k a0 a1 t114 _ A4.out).mono ?_); rintro e w' ⟨rfl, ⟨nd, rfl⟩⟩; (try first | exact ⟨rfl, _, World.drewN_drewN _ _ _⟩ | exact ⟨rfl, _, Eq.trans (World.drewN_drewN _ _ _) (congrArg (World.drewN _) (Nat.add_assoc _ _ _))⟩)) | (go_at_call 66; (with_reducible refine (spec_l1Min.calls (t114.size : Int) (wrap64 (a1 + (a2.size : Int))) t115 _ A8.out).mono ?_); rintro e w' ⟨rfl, ⟨nd, rfl⟩⟩; (try first | exact ⟨rfl, _, World.drewN_drewN _ _ _⟩ | exact ⟨rfl, _, Eq.trans (World.drewN_drewN _ _ _) (congrArg (World.drewN _) (Nat.add_assoc _ _ _))⟩))); try go_wp2_with (first | (go_at_call 43; (with_reducible refine (spec_l2Long.calls k a0 a1 t114 _ A4.out).mono ?_); rintro e w' ⟨rfl, ⟨nd, rfl⟩⟩; (try first | exact ⟨rfl, _, World.drewN_drewN _ _ _⟩ | exact ⟨rfl, _, Eq.trans (World.drewN_drewN _ _ _) (congrArg (World.drewN _) (Nat.add_assoc _ _ _))⟩)) | (go_at_call 66; (with_reducible refine (spec_l1Min.calls (t114.size : Int) (wrap64 (a1 + (a2.size : Int))) t115 _ A8.out).mono ?_); rintro e w' ⟨rfl, ⟨nd, rfl⟩⟩; (try first | exact ⟨rfl, _, World.drewN_drewN _ _ _⟩ | exact ⟨rfl, _, Eq.trans (World.drewN_drewN _ _ _) (congrArg (World.drewN _) (Nat.add_assoc _ _ _))⟩))))
              go_ret
              exact ⟨by first | rfl | (simp; done) | (simp [*]; done), by repeat (first | exact Drawn0.refl _ | apply Drawn0.step)⟩
            · rw [if_neg c11] at H
              exact absurd H (by simp)
          · rw [if_neg c10] at H
            exact absurd H (by simp)
        · rw [if_neg c9] at H
          exact absurd H (by simp)
      · rw [if_neg c7] at H
        exact absurd H (by simp)
    · rw [if_neg c6] at H
      exact absurd H (by simp)
  · rw [if_neg c5] at H
    exact absurd H (by simp)

/-! ### spec_TextWrite: function 17 -/
def spec_TextWrite.f (k : Nat) (a0 : ByteArray) (a1 : Int) (a2 : ByteArray) : Option (ByteArray × Bool) := (spec_TextOk.f k a0).bind fun t116 => (if t116 = true then (if a1 < 0 then (some (a0, false)) else (if a1 > 48 then (some (a0, false)) else ((spec_TextOk.f k a2).bind fun t117 => (if t117 = true then (if a2.toList = ([] : List UInt8) then (some (a0, false)) else (if (wrap64 (a1 + (a2.size : Int))) > 48 then (some (a0, false)) else ((spec_l2Write.f k a0 a1 a2).bind fun t118 => (some (t118, true))))) else (some (a0, false)))))) else (some ((⟨#[]⟩ : ByteArray), false)))
theorem spec_TextWrite.mono : ∀ a0 a1 a2 k, LeO (spec_TextWrite.f k a0 a1 a2) (spec_TextWrite.f (k + 1) a0 a1 a2) := by
  intro a0 a1 a2 k
  unfold spec_TextWrite.f
  repeat' first
      | (with_reducible exact spec_TextOk.mono _ _)
      | (with_reducible exact spec_l2Write.mono _ _ _ _)
      | (with_reducible exact LeO.refl _)
      | (with_reducible exact LeO.none _)
      | (with_reducible refine LeO.ite ?_ ?_)
      | (with_reducible refine LeO.bind ?_ (fun _ => ?_))
      | exact spec_TextOk.mono _ _
      | exact spec_l2Write.mono _ _ _ _
      | exact LeO.none _
      | refine LeO.ite ?_ ?_
      | refine LeO.bind ?_ (fun _ => ?_)
set_option maxHeartbeats 8000000 in
set_option maxRecDepth 100000 in
theorem spec_TextWrite.calls (k : Nat) (a0 : ByteArray) (a1 : Int) (a2 : ByteArray) (r1 : ByteArray) (r2 : Bool) (w : World) (h : spec_TextWrite.f k a0 a1 a2 = some (r1, r2)) :
    Calls Try.prog 17 #[.string a0, .int .i64 a1, .string a2] w fun e w' => e = .returned (.tuple #[.string r1, .bool r2]) ∧ Drawn0 w w' := by
  have H : ((spec_TextOk.f k a0).bind fun t116 => (if t116 = true then (if a1 < 0 then (some (a0, false)) else (if a1 > 48 then (some (a0, false)) else ((spec_TextOk.f k a2).bind fun t117 => (if t117 = true then (if a2.toList = ([] : List UInt8) then (some (a0, false)) else (if (wrap64 (a1 + (a2.size : Int))) > 48 then (some (a0, false)) else ((spec_l2Write.f k a0 a1 a2).bind fun t118 => (some (t118, true))))) else (some (a0, false)))))) else (some ((⟨#[]⟩ : ByteArray), false)))) = some (r1, r2) := h
  clear h
  replace H := Option.bind_eq_some_iff.mp H
  obtain ⟨t116, A40, H⟩ := H
  replace H : (if t116 = true then (if a1 < 0 then (some (a0, false)) else (if a1 > 48 then (some (a0, false)) else ((spec_TextOk.f k a2).bind fun t117 => (if t117 = true then (if a2.toList = ([] : List UInt8) then (some (a0, false)) else (if (wrap64 (a1 + (a2.size : Int))) > 48 then (some (a0, false)) else ((spec_l2Write.f k a0 a1 a2).bind fun t118 => (some (t118, true))))) else (some (a0, false)))))) else (some ((⟨#[]⟩ : ByteArray), false))) = some (r1, r2) := H
  have A4 := Aside0.mk A40
  clear A40
  by_cases c5 : t116 = true
  · subst c5
    have H1 : (if a1 < 0 then (some (a0, false)) else (if a1 > 48 then (some (a0, false)) else ((spec_TextOk.f k a2).bind fun t117 => (if t117 = true then (if a2.toList = ([] : List UInt8) then (some (a0, false)) else (if (wrap64 (a1 + (a2.size : Int))) > 48 then (some (a0, false)) else ((spec_l2Write.f k a0 a1 a2).bind fun t118 => (some (t118, true))))) else (some (a0, false)))))) = some (r1, r2) := by rw [if_pos rfl] at H; exact H
    clear H
    have H := H1
    clear H1
    by_cases c6 : a1 < 0
    · rw [if_pos c6] at H
      have c6b0 : decide (a1 < 0) = true := decide_eq_true c6
      clear c6
      simp only [Option.some.injEq, Prod.mk.injEq] at H
      obtain ⟨rfl, rfl⟩ := H
      go_enter Try.func17, Try.ntmps17
      go_wp2_with (first | ((with_reducible refine gate_callee (f := 27) rfl ?_); refine goesL_ (some 9) rfl rfl Try.func27 (by kernel_rfl) rfl #[.string a0] rfl (by (try simp only [List.map_toArray, List.map_cons, List.map_nil]); first | done | rfl | (simp only [List.length_drop, List.length_take]; rfl)) ?_; (with_reducible refine (spec_TextOk.calls k a0 true _ A4.out).mono ?_); rintro e w' ⟨rfl, ⟨nd, rfl⟩⟩; refine ⟨_, rfl, ?_⟩))
      go_ret2
      exact ⟨by first | rfl | (simp; done) | (simp [*]; done), by repeat (first | exact Drawn0.refl _ | apply Drawn0.step)⟩
    · rw [if_neg c6] at H
      have c6b0 : decide (a1 < 0) = false := decide_eq_false c6
      clear c6
      by_cases c7 : a1 > 48
      · rw [if_pos c7] at H
        have c7b0 : decide (48 < a1) = true := decide_eq_true c7
        clear c7
        simp only [Option.some.injEq, Prod.mk.injEq] at H
        obtain ⟨rfl, rfl⟩ := H
        go_enter Try.func17, Try.ntmps17
        go_wp2_with (first | ((with_reducible refine gate_callee (f := 27) rfl ?_); refine goesL_ (some 9) rfl rfl Try.func27 (by kernel_rfl) rfl #[.string a0] rfl (by (try simp only [List.map_toArray, List.map_cons, List.map_nil]); first | done | rfl | (simp only [List.length_drop, List.length_take]; rfl)) ?_; (with_reducible refine (spec_TextOk.calls k a0 true _ A4.out).mono ?_); rintro e w' ⟨rfl, ⟨nd, rfl⟩⟩; refine ⟨_, rfl, ?_⟩))
        go_ret2
        exact ⟨by first | rfl | (simp; done) | (simp [*]; done), by repeat (first | exact Drawn0.refl _ | apply Drawn0.step)⟩
      · rw [if_neg c7] at H
        have c7b0 : decide (48 < a1) = false := decide_eq_false c7
        clear c7
        replace H := Option.bind_eq_some_iff.mp H
        obtain ⟨t117, A80, H⟩ := H
        replace H : (if t117 = true then (if a2.toList = ([] : List UInt8) then (some (a0, false)) else (if (wrap64 (a1 + (a2.size : Int))) > 48 then (some (a0, false)) else ((spec_l2Write.f k a0 a1 a2).bind fun t118 => (some (t118, true))))) else (some (a0, false))) = some (r1, r2) := H
        have A8 := Aside0.mk A80
        clear A80
        by_cases c9 : t117 = true
        · subst c9
          have H1 : (if a2.toList = ([] : List UInt8) then (some (a0, false)) else (if (wrap64 (a1 + (a2.size : Int))) > 48 then (some (a0, false)) else ((spec_l2Write.f k a0 a1 a2).bind fun t118 => (some (t118, true))))) = some (r1, r2) := by rw [if_pos rfl] at H; exact H
          clear H
          have H := H1
          clear H1
          by_cases c10 : a2.toList = ([] : List UInt8)
          · rw [if_pos c10] at H
            have c10b0 : (a2.toList == ([] : List UInt8)) = true := beq_iff_eq.mpr c10
            have c10b1 : (a2.toList != ([] : List UInt8)) = false := bne_eq_false_iff_eq.mpr c10
            clear c10
            simp only [Option.some.injEq, Prod.mk.injEq] at H
            obtain ⟨rfl, rfl⟩ := H
            go_enter Try.func17, Try.ntmps17
            go_wp2_with (first | ((with_reducible refine gate_callee (f := 27) rfl ?_); refine goesL_ (some 9) rfl rfl Try.func27 (by kernel_rfl) rfl #[.string a0] rfl (by (try simp only [List.map_toArray, List.map_cons, List.map_nil]); first | done | rfl | (simp only [List.length_drop, List.length_take]; rfl)) ?_; (with_reducible refine (spec_TextOk.calls k a0 true _ A4.out).mono ?_); rintro e w' ⟨rfl, ⟨nd, rfl⟩⟩; refine ⟨_, rfl, ?_⟩) | (go_at_call 27; (with_reducible refine (spec_TextOk.calls k a2 true _ A8.out).mono ?_); rintro e w' ⟨rfl, ⟨nd, rfl⟩⟩))
            go_ret2
            exact ⟨by first | rfl | (simp; done) | (simp [*]; done), by repeat (first | exact Drawn0.refl _ | apply Drawn0.step)⟩
          · rw [if_neg c10] at H
            have c10b0 : (a2.toList == ([] : List UInt8)) = false := beq_eq_false_iff_ne.mpr c10
            have c10b1 : (a2.toList != ([] : List UInt8)) = true := bne_iff_ne.mpr c10
            by_cases c11 : (wrap64 (a1 + (a2.size : Int))) > 48
            · rw [if_pos c11] at H
              have c11b0 : decide (48 < (wrap64 (a1 + (a2.size : Int)))) = true := decide_eq_true c11
              clear c11
              simp only [Option.some.injEq, Prod.mk.injEq] at H
              obtain ⟨rfl, rfl⟩ := H
              go_enter Try.func17, Try.ntmps17
              go_wp2_with (first | ((with_reducible refine gate_callee (f := 27) rfl ?_); refine goesL_ (some 9) rfl rfl Try.func27 (by kernel_rfl) rfl #[.string a0] rfl (by (try simp only [List.map_toArray, List.map_cons, List.map_nil]); first | done | rfl | (simp only [List.length_drop, List.length_take]; rfl)) ?_; (with_reducible refine (spec_TextOk.calls k a0 true _ A4.out).mono ?_); rintro e w' ⟨rfl, ⟨nd, rfl⟩⟩; refine ⟨_, rfl, ?_⟩) | (go_at_call 27; (with_reducible refine (spec_TextOk.calls k a2 true _ A8.out).mono ?_); rintro e w' ⟨rfl, ⟨nd, rfl⟩⟩))
              go_ret2
              exact ⟨by first | rfl | (simp; done) | (simp [*]; done), by repeat (first | exact Drawn0.refl _ | apply Drawn0.step)⟩
            · rw [if_neg c11] at H
              have c11b0 : decide (48 < (wrap64 (a1 + (a2.size : Int)))) = false := decide_eq_false c11
              clear c11
              replace H := Option.bind_eq_some_iff.mp H
              obtain ⟨t118, A120, H⟩ := H
              replace H : (some (t118, true)) = some (r1, r2) := H
              have A12 := Aside0.mk A120
              clear A120
              simp only [Option.some.injEq, Prod.mk.injEq] at H
              obtain ⟨rfl, rfl⟩ := H
              go_enter Try.func17, Try.ntmps17
              go_wp2_with (first | ((with_reducible refine gate_callee (f := 27) rfl ?_); refine goesL_ (some 9) rfl rfl Try.func27 (by kernel_rfl) rfl #[.string a0] rfl (by (try simp only [List.map_toArray, List.map_cons, List.map_nil]); first | done | rfl | (simp only [List.length_drop, List.length_take]; rfl)) ?_; (with_reducible refine (spec_TextOk.calls k a0 true _ A4.out).mono ?_); rintro e w' ⟨rfl, ⟨nd, rfl⟩⟩; refine ⟨_, rfl, ?_⟩) | (go_at_call 27; (with_reducible refine (spec_TextOk.calls k a2 true _ A8.out).mono ?_); rintro e w' ⟨rfl, ⟨nd, rfl⟩⟩) | ((with_reducible refine gate_callee (f := 45) rfl ?_); refine goesL_ (some 37) rfl rfl Try.func45 (by kernel_rfl) rfl #[.string a0, .int .i64 a1, .string a2] rfl (by (try simp only [List.map_toArray, List.map_cons, List.map_nil]); first | done | rfl | (simp only [List.length_drop, List.length_take]; rfl)) ?_; (with_reducible refine (spec_l2Write.calls k a0 a1 a2 t118 _ A12.out).mono ?_); rintro e w' ⟨rfl, ⟨nd, rfl⟩⟩; refine ⟨_, rfl, ?_⟩))
              go_ret2
              exact ⟨by first | rfl | (simp; done) | (simp [*]; done), by repeat (first | exact Drawn0.refl _ | apply Drawn0.step)⟩
        · replace c9 := Bool.eq_false_iff.mpr c9
          subst c9
          have H1 : (some (a0, false)) = some (r1, r2) := by rw [if_neg (show ¬ (false = true) by decide)] at H; exact H
          clear H
          have H := H1
          clear H1
          simp only [Option.some.injEq, Prod.mk.injEq] at H
          obtain ⟨rfl, rfl⟩ := H
          go_enter Try.func17, Try.ntmps17
          go_wp2_with (first | ((with_reducible refine gate_callee (f := 27) rfl ?_); refine goesL_ (some 9) rfl rfl Try.func27 (by kernel_rfl) rfl #[.string a0] rfl (by (try simp only [List.map_toArray, List.map_cons, List.map_nil]); first | done | rfl | (simp only [List.length_drop, List.length_take]; rfl)) ?_; (with_reducible refine (spec_TextOk.calls k a0 true _ A4.out).mono ?_); rintro e w' ⟨rfl, ⟨nd, rfl⟩⟩; refine ⟨_, rfl, ?_⟩) | (go_at_call 27; (with_reducible refine (spec_TextOk.calls k a2 false _ A8.out).mono ?_); rintro e w' ⟨rfl, ⟨nd, rfl⟩⟩))
          go_ret2
          exact ⟨by first | rfl | (simp; done) | (simp [*]; done), by repeat (first | exact Drawn0.refl _ | apply Drawn0.step)⟩
  · replace c5 := Bool.eq_false_iff.mpr c5
    subst c5
    have H1 : (some ((⟨#[]⟩ : ByteArray), false)) = some (r1, r2) := by rw [if_neg (show ¬ (false = true) by decide)] at H; exact H
    clear H
    have H := H1
    clear H1
    simp only [Option.some.injEq, Prod.mk.injEq] at H
    obtain ⟨rfl, rfl⟩ := H
    go_enter Try.func17, Try.ntmps17
    go_wp2_with (first | ((with_reducible refine gate_callee (f := 27) rfl ?_); refine goesL_ (some 9) rfl rfl Try.func27 (by kernel_rfl) rfl #[.string a0] rfl (by (try simp only [List.map_toArray, List.map_cons, List.map_nil]); first | done | rfl | (simp only [List.length_drop, List.length_take]; rfl)) ?_; (with_reducible refine (spec_TextOk.calls k a0 false _ A4.out).mono ?_); rintro e w' ⟨rfl, ⟨nd, rfl⟩⟩; refine ⟨_, rfl, ?_⟩))
    go_ret2
    exact ⟨by first | rfl | (simp; done) | (simp [*]; done), by repeat (first | exact Drawn0.refl _ | apply Drawn0.step)⟩

end Go.Proofs.Ytfomnpbhpncpaaa.Q
