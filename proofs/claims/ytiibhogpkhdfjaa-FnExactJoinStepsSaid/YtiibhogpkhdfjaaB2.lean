/- Shared texts of this seat's claims, one behind the other. -/
import Derived.Test.YtiibhogpkhdfjaaK0
import Derived.Shelf.Abstract
import Derived.BigQuiet
import Derived.Maps.RangeWalk
import Derived.Test.YtiibhogpkhdfjaaB1
/-! F46 -/
namespace Go.Proofs.Ytiibhogpkhdfjaa.P
open Go.RowKit Go.Proofs.YtiibhogpkhdfjaaW.PrintWords Go.Proofs.YtiibhogpkhdfjaaW.PrintLast Go.Proofs.YtiibhogpkhdfjaaW.PrintMore
attribute [local go_sem] max2_int min2_int max_two min_two max_three min_three max_four min_four   -- for this text's walks alone
set_option linter.unusedVariables false
set_option linter.unusedSimpArgs false

/-! ### impl_in: function 46 -/
def impl_in.f (a0 : Int) (a1 : Int) (a2 : Int) : Option (Bool) := if a0 ≥ a1 then (some (decide (a0 ≤ a2))) else (some false)
set_option maxHeartbeats 8000000 in
set_option maxRecDepth 100000 in
theorem impl_in.calls (a0 : Int) (a1 : Int) (a2 : Int) (r : Bool) (w : World) (h : impl_in.f a0 a1 a2 = some r) :
    Calls Try.prog 46 #[.int .i64 a0, .int .i64 a1, .int .i64 a2] w fun e w' => e = .returned (.bool r) ∧ Drawn0 w w' := by
  have H : (if a0 ≥ a1 then (some (decide (a0 ≤ a2))) else (some false)) = some r := h
  clear h
  by_cases c4 : a0 ≥ a1
  · rw [if_pos c4] at H
    have c4b0 : decide (a1 ≤ a0) = true := decide_eq_true c4
    clear c4
    obtain rfl := Option.some.inj H
    go_enter Try.func46, Try.ntmps46
    go_wp2
    go_ret
    exact ⟨by first | rfl | (simp; done) | (simp [*]; done), by repeat (first | exact Drawn0.refl _ | apply Drawn0.step)⟩
  · rw [if_neg c4] at H
    have c4b0 : decide (a1 ≤ a0) = false := decide_eq_false c4
    clear c4
    obtain rfl := Option.some.inj H
    go_enter Try.func46, Try.ntmps46
    go_wp2
    go_ret
    exact ⟨by first | rfl | (simp; done) | (simp [*]; done), by repeat (first | exact Drawn0.refl _ | apply Drawn0.step)⟩

end Go.Proofs.Ytiibhogpkhdfjaa.P

/-! F89 -/
namespace Go.Proofs.Ytiibhogpkhdfjaa.P
open Go.RowKit Go.Proofs.YtiibhogpkhdfjaaW.PrintWords Go.Proofs.YtiibhogpkhdfjaaW.PrintLast Go.Proofs.YtiibhogpkhdfjaaW.PrintMore
attribute [local go_sem] max2_int min2_int max_two min_two max_three min_three max_four min_four   -- for this text's walks alone
set_option linter.unusedVariables false
set_option linter.unusedSimpArgs false

/-! ### impl_isSymbol: function 89 -/
def impl_isSymbol.f (a0 : Int) (a1 : Int) (a2 : Int) : Option (Bool) := (impl_in.f a0 (wrap64 (-a2)) (wrap64 (a1 - 1))).bind fun t101 => (some t101)
set_option maxHeartbeats 8000000 in
set_option maxRecDepth 100000 in
theorem impl_isSymbol.calls (a0 : Int) (a1 : Int) (a2 : Int) (r : Bool) (w : World) (h : impl_isSymbol.f a0 a1 a2 = some r) :
    Calls Try.prog 89 #[.int .i64 a0, .int .i64 a1, .int .i64 a2] w fun e w' => e = .returned (.bool r) ∧ Drawn0 w w' := by
  have H : ((impl_in.f a0 (wrap64 (-a2)) (wrap64 (a1 - 1))).bind fun t101 => (some t101)) = some r := h
  clear h
  replace H := Option.bind_eq_some_iff.mp H
  obtain ⟨t101, A40, H⟩ := H
  replace H : (some t101) = some r := H
  have A4 := Aside0.mk A40
  clear A40
  obtain rfl := Option.some.inj H
  go_enter Try.func89, Try.ntmps89
  go_wp2_with (first | ((with_reducible refine gate_callee (f := 46) rfl ?_); refine goesL_ (some 12) rfl rfl Try.func46 (by kernel_rfl) rfl #[.int .i64 a0, .int .i64 (wrap64 (-a2)), .int .i64 (wrap64 (a1 - 1))] rfl (by (try simp only [List.map_toArray, List.map_cons, List.map_nil]); first | done | rfl | (simp only [List.length_drop, List.length_take]; rfl)) ?_; (with_reducible refine (impl_in.calls a0 (wrap64 (-a2)) (wrap64 (a1 - 1)) t101 _ A4.out).mono ?_); rintro e w' ⟨rfl, ⟨nd, rfl⟩⟩; refine ⟨_, rfl, ?_⟩))
  go_ret
  exact ⟨by first | rfl | (simp; done) | (simp [*]; done), by repeat (first | exact Drawn0.refl _ | apply Drawn0.step)⟩

end Go.Proofs.Ytiibhogpkhdfjaa.P

/-! F39 -/
namespace Go.Proofs.Ytiibhogpkhdfjaa.P
open Go.RowKit Go.Proofs.YtiibhogpkhdfjaaW.PrintWords Go.Proofs.YtiibhogpkhdfjaaW.PrintLast Go.Proofs.YtiibhogpkhdfjaaW.PrintMore
attribute [local go_sem] max2_int min2_int max_two min_two max_three min_three max_four min_four   -- for this text's walks alone
set_option linter.unusedVariables false
set_option linter.unusedSimpArgs false

/-! ### spec_l1In: function 39 -/
def spec_l1In.f (a0 : Int) (a1 : Int) (a2 : Int) : Option (Bool) := if a0 ≥ a1 then (some (decide (a0 ≤ a2))) else (some false)
set_option maxHeartbeats 8000000 in
set_option maxRecDepth 100000 in
theorem spec_l1In.calls (a0 : Int) (a1 : Int) (a2 : Int) (r : Bool) (w : World) (h : spec_l1In.f a0 a1 a2 = some r) :
    Calls Try.prog 39 #[.int .i64 a0, .int .i64 a1, .int .i64 a2] w fun e w' => e = .returned (.bool r) ∧ Drawn0 w w' := by
  have H : (if a0 ≥ a1 then (some (decide (a0 ≤ a2))) else (some false)) = some r := h
  clear h
  by_cases c4 : a0 ≥ a1
  · rw [if_pos c4] at H
    have c4b0 : decide (a1 ≤ a0) = true := decide_eq_true c4
    clear c4
    obtain rfl := Option.some.inj H
    go_enter Try.func39, Try.ntmps39
    go_wp2
    go_ret
    exact ⟨by first | rfl | (simp; done) | (simp [*]; done), by repeat (first | exact Drawn0.refl _ | apply Drawn0.step)⟩
  · rw [if_neg c4] at H
    have c4b0 : decide (a1 ≤ a0) = false := decide_eq_false c4
    clear c4
    obtain rfl := Option.some.inj H
    go_enter Try.func39, Try.ntmps39
    go_wp2
    go_ret
    exact ⟨by first | rfl | (simp; done) | (simp [*]; done), by repeat (first | exact Drawn0.refl _ | apply Drawn0.step)⟩

end Go.Proofs.Ytiibhogpkhdfjaa.P

/-! F97 -/
namespace Go.Proofs.Ytiibhogpkhdfjaa.P
open Go.RowKit Go.Proofs.YtiibhogpkhdfjaaW.PrintWords Go.Proofs.YtiibhogpkhdfjaaW.PrintLast Go.Proofs.YtiibhogpkhdfjaaW.PrintMore
attribute [local go_sem] max2_int min2_int max_two min_two max_three min_three max_four min_four   -- for this text's walks alone
set_option linter.unusedVariables false
set_option linter.unusedSimpArgs false

/-! ### cmp_isNaN_int: function 97 -/
def cmp_isNaN_int.f (a0 : Int) : Option (Bool) := some (a0 != a0)
set_option maxHeartbeats 8000000 in
set_option maxRecDepth 100000 in
theorem cmp_isNaN_int.calls (a0 : Int) (r : Bool) (w : World) (h : cmp_isNaN_int.f a0 = some r) :
    Calls Try.prog 97 #[.int .i64 a0] w fun e w' => e = .returned (.bool r) ∧ Drawn0 w w' := by
  have H : (some (a0 != a0)) = some r := h
  clear h
  obtain rfl := Option.some.inj H
  go_enter Try.func97, Try.ntmps97
  go_wp2
  go_ret
  exact ⟨by first | rfl | (simp; done) | (simp [*]; done), by repeat (first | exact Drawn0.refl _ | apply Drawn0.step)⟩

end Go.Proofs.Ytiibhogpkhdfjaa.P

/-! F90 -/
namespace Go.Proofs.Ytiibhogpkhdfjaa.P
open Go.RowKit Go.Proofs.YtiibhogpkhdfjaaW.PrintWords Go.Proofs.YtiibhogpkhdfjaaW.PrintLast Go.Proofs.YtiibhogpkhdfjaaW.PrintMore
attribute [local go_sem] max2_int min2_int max_two min_two max_three min_three max_four min_four   -- for this text's walks alone
set_option linter.unusedVariables false
set_option linter.unusedSimpArgs false

/-! ### cmp_Compare_int: function 90 -/
def cmp_Compare_int.f (a0 : Int) (a1 : Int) : Option (Int) := (cmp_isNaN_int.f a0).bind fun t101 => ((cmp_isNaN_int.f a1).bind fun t102 => (if t101 = true then (if t102 = true then (some 0) else (some (-1))) else (if t102 = true then (some 1) else (if a0 < a1 then (some (-1)) else (if a0 > a1 then (some 1) else (some 0))))))
set_option maxHeartbeats 8000000 in
set_option maxRecDepth 100000 in
theorem cmp_Compare_int.calls (a0 : Int) (a1 : Int) (r : Int) (w : World) (h : cmp_Compare_int.f a0 a1 = some r) :
    Calls Try.prog 90 #[.int .i64 a0, .int .i64 a1] w fun e w' => e = .returned (.int .i64 r) ∧ Drawn0 w w' := by
  have H : ((cmp_isNaN_int.f a0).bind fun t101 => ((cmp_isNaN_int.f a1).bind fun t102 => (if t101 = true then (if t102 = true then (some 0) else (some (-1))) else (if t102 = true then (some 1) else (if a0 < a1 then (some (-1)) else (if a0 > a1 then (some 1) else (some 0))))))) = some r := h
  clear h
  replace H := Option.bind_eq_some_iff.mp H
  obtain ⟨t101, A30, H⟩ := H
  replace H : ((cmp_isNaN_int.f a1).bind fun t102 => (if t101 = true then (if t102 = true then (some 0) else (some (-1))) else (if t102 = true then (some 1) else (if a0 < a1 then (some (-1)) else (if a0 > a1 then (some 1) else (some 0)))))) = some r := H
  have A3 := Aside0.mk A30
  clear A30
  replace H := Option.bind_eq_some_iff.mp H
  obtain ⟨t102, A40, H⟩ := H
  replace H : (if t101 = true then (if t102 = true then (some 0) else (some (-1))) else (if t102 = true then (some 1) else (if a0 < a1 then (some (-1)) else (if a0 > a1 then (some 1) else (some 0))))) = some r := H
  have A4 := Aside0.mk A40
  clear A40
  by_cases c5 : t101 = true
  · subst c5
    have H1 : (if t102 = true then (some 0) else (some (-1))) = some r := by rw [if_pos rfl] at H; exact H
    clear H
    have H := H1
    clear H1
    by_cases c6 : t102 = true
    · subst c6
      have H1 : (some 0) = some r := by rw [if_pos rfl] at H; exact H
      clear H
      have H := H1
      clear H1
      obtain rfl := Option.some.inj H
      go_enter Try.func90, Try.ntmps90
      go_wp2_with (first | ((with_reducible refine gate_callee (f := 97) rfl ?_); refine goesL_ (some 8) rfl rfl Try.func97 (by kernel_rfl) rfl #[.int .i64 a0] rfl (by (try simp only [List.map_toArray, List.map_cons, List.map_nil]); first | done | rfl | (simp only [List.length_drop, List.length_take]; rfl)) ?_; (with_reducible refine (cmp_isNaN_int.calls a0 true _ A3.out).mono ?_); rintro e w' ⟨rfl, ⟨nd, rfl⟩⟩; refine ⟨_, rfl, ?_⟩) | ((with_reducible refine gate_callee (f := 97) rfl ?_); refine goesL_ (some 10) rfl rfl Try.func97 (by kernel_rfl) rfl #[.int .i64 a1] rfl (by (try simp only [List.map_toArray, List.map_cons, List.map_nil]); first | done | rfl | (simp only [List.length_drop, List.length_take]; rfl)) ?_; (with_reducible refine (cmp_isNaN_int.calls a1 true _ A4.out).mono ?_); rintro e w' ⟨rfl, ⟨nd, rfl⟩⟩; refine ⟨_, rfl, ?_⟩))
      go_ret
      exact ⟨by first | rfl | (simp; done) | (simp [*]; done), by repeat (first | exact Drawn0.refl _ | apply Drawn0.step)⟩
    · replace c6 := Bool.eq_false_iff.mpr c6
      subst c6
      have H1 : (some (-1)) = some r := by rw [if_neg (show ¬ (false = true) by decide)] at H; exact H
      clear H
      have H := H1
      clear H1
      obtain rfl := Option.some.inj H
      go_enter Try.func90, Try.ntmps90
      go_wp2_with (first | ((with_reducible refine gate_callee (f := 97) rfl ?_); refine goesL_ (some 8) rfl rfl Try.func97 (by kernel_rfl) rfl #[.int .i64 a0] rfl (by (try simp only [List.map_toArray, List.map_cons, List.map_nil]); first | done | rfl | (simp only [List.length_drop, List.length_take]; rfl)) ?_; (with_reducible refine (cmp_isNaN_int.calls a0 true _ A3.out).mono ?_); rintro e w' ⟨rfl, ⟨nd, rfl⟩⟩; refine ⟨_, rfl, ?_⟩) | ((with_reducible refine gate_callee (f := 97) rfl ?_); refine goesL_ (some 10) rfl rfl Try.func97 (by kernel_rfl) rfl #[.int .i64 a1] rfl (by (try simp only [List.map_toArray, List.map_cons, List.map_nil]); first | done | rfl | (simp only [List.length_drop, List.length_take]; rfl)) ?_; (with_reducible refine (cmp_isNaN_int.calls a1 false _ A4.out).mono ?_); rintro e w' ⟨rfl, ⟨nd, rfl⟩⟩; refine ⟨_, rfl, ?_⟩))
      go_ret
      exact ⟨by first | rfl | (simp; done) | (simp [*]; done), by repeat (first | exact Drawn0.refl _ | apply Drawn0.step)⟩
  · replace c5 := Bool.eq_false_iff.mpr c5
    subst c5
    have H1 : (if t102 = true then (some 1) else (if a0 < a1 then (some (-1)) else (if a0 > a1 then (some 1) else (some 0)))) = some r := by rw [if_neg (show ¬ (false = true) by decide)] at H; exact H
    clear H
    have H := H1
    clear H1
    by_cases c7 : t102 = true
    · subst c7
      have H1 : (some 1) = some r := by rw [if_pos rfl] at H; exact H
      clear H
      have H := H1
      clear H1
      obtain rfl := Option.some.inj H
      go_enter Try.func90, Try.ntmps90
      go_wp2_with (first | ((with_reducible refine gate_callee (f := 97) rfl ?_); refine goesL_ (some 8) rfl rfl Try.func97 (by kernel_rfl) rfl #[.int .i64 a0] rfl (by (try simp only [List.map_toArray, List.map_cons, List.map_nil]); first | done | rfl | (simp only [List.length_drop, List.length_take]; rfl)) ?_; (with_reducible refine (cmp_isNaN_int.calls a0 false _ A3.out).mono ?_); rintro e w' ⟨rfl, ⟨nd, rfl⟩⟩; refine ⟨_, rfl, ?_⟩) | ((with_reducible refine gate_callee (f := 97) rfl ?_); refine goesL_ (some 10) rfl rfl Try.func97 (by kernel_rfl) rfl #[.int .i64 a1] rfl (by (try simp only [List.map_toArray, List.map_cons, List.map_nil]); first | done | rfl | (simp only [List.length_drop, List.length_take]; rfl)) ?_; (with_reducible refine (cmp_isNaN_int.calls a1 true _ A4.out).mono ?_); rintro e w' ⟨rfl, ⟨nd, rfl⟩⟩; refine ⟨_, rfl, ?_⟩))
      go_ret
      exact ⟨by first | rfl | (simp; done) | (simp [*]; done), by repeat (first | exact Drawn0.refl _ | apply Drawn0.step)⟩
    · replace c7 := Bool.eq_false_iff.mpr c7
      subst c7
      have H1 : (if a0 < a1 then (some (-1)) else (if a0 > a1 then (some 1) else (some 0))) = some r := by rw [if_neg (show ¬ (false = true) by decide)] at H; exact H
      clear H
      have H := H1
      clear H1
      by_cases c8 : a0 < a1
      · rw [if_pos c8] at H
        have c8b0 : decide (a0 < a1) = true := decide_eq_true c8
        clear c8
        obtain rfl := Option.some.inj H
        go_enter Try.func90, Try.ntmps90
        go_wp2_with (first | ((with_reducible refine gate_callee (f := 97) rfl ?_); refine goesL_ (some 8) rfl rfl Try.func97 (by kernel_rfl) rfl #[.int .i64 a0] rfl (by (try simp only [List.map_toArray, List.map_cons, List.map_nil]); first | done | rfl | (simp only [List.length_drop, List.length_take]; rfl)) ?_; (with_reducible refine (cmp_isNaN_int.calls a0 false _ A3.out).mono ?_); rintro e w' ⟨rfl, ⟨nd, rfl⟩⟩; refine ⟨_, rfl, ?_⟩) | ((with_reducible refine gate_callee (f := 97) rfl ?_); refine goesL_ (some 10) rfl rfl Try.func97 (by kernel_rfl) rfl #[.int .i64 a1] rfl (by (try simp only [List.map_toArray, List.map_cons, List.map_nil]); first | done | rfl | (simp only [List.length_drop, List.length_take]; rfl)) ?_; (with_reducible refine (cmp_isNaN_int.calls a1 false _ A4.out).mono ?_); rintro e w' ⟨rfl, ⟨nd, rfl⟩⟩; refine ⟨_, rfl, ?_⟩))
        go_ret
        exact ⟨by first | rfl | (simp; done) | (simp [*]; done), by repeat (first | exact Drawn0.refl _ | apply Drawn0.step)⟩
      · rw [if_neg c8] at H
        have c8b0 : decide (a0 < a1) = false := decide_eq_false c8
        clear c8
        by_cases c9 : a0 > a1
        · rw [if_pos c9] at H
          have c9b0 : decide (a1 < a0) = true := decide_eq_true c9
          clear c9
          obtain rfl := Option.some.inj H
          go_enter Try.func90, Try.ntmps90
          go_wp2_with (first | ((with_reducible refine gate_callee (f := 97) rfl ?_); refine goesL_ (some 8) rfl rfl Try.func97 (by kernel_rfl) rfl #[.int .i64 a0] rfl (by (try simp only [List.map_toArray, List.map_cons, List.map_nil]); first | done | rfl | (simp only [List.length_drop, List.length_take]; rfl)) ?_; (with_reducible refine (cmp_isNaN_int.calls a0 false _ A3.out).mono ?_); rintro e w' ⟨rfl, ⟨nd, rfl⟩⟩; refine ⟨_, rfl, ?_⟩) | ((with_reducible refine gate_callee (f := 97) rfl ?_); refine goesL_ (some 10) rfl rfl Try.func97 (by kernel_rfl) rfl #[.int .i64 a1] rfl (by (try simp only [List.map_toArray, List.map_cons, List.map_nil]); first | done | rfl | (simp only [List.length_drop, List.length_take]; rfl)) ?_; (with_reducible refine (cmp_isNaN_int.calls a1 false _ A4.out).mono ?_); rintro e w' ⟨rfl, ⟨nd, rfl⟩⟩; refine ⟨_, rfl, ?_⟩))
          go_ret
          exact ⟨by first | rfl | (simp; done) | (simp [*]; done), by repeat (first | exact Drawn0.refl _ | apply Drawn0.step)⟩
        · rw [if_neg c9] at H
          have c9b0 : decide (a1 < a0) = false := decide_eq_false c9
          clear c9
          obtain rfl := Option.some.inj H
          go_enter Try.func90, Try.ntmps90
          go_wp2_with (first | ((with_reducible refine gate_callee (f := 97) rfl ?_); refine goesL_ (some 8) rfl rfl Try.func97 (by kernel_rfl) rfl #[.int .i64 a0] rfl (by (try simp only [List.map_toArray, List.map_cons, List.map_nil]); first | done | rfl | (simp only [List.length_drop, List.length_take]; rfl)) ?_; (with_reducible refine (cmp_isNaN_int.calls a0 false _ A3.out).mono ?_); rintro e w' ⟨rfl, ⟨nd, rfl⟩⟩; refine ⟨_, rfl, ?_⟩) | ((with_reducible refine gate_callee (f := 97) rfl ?_); refine goesL_ (some 10) rfl rfl Try.func97 (by kernel_rfl) rfl #[.int .i64 a1] rfl (by (try simp only [List.map_toArray, List.map_cons, List.map_nil]); first | done | rfl | (simp only [List.length_drop, List.length_take]; rfl)) ?_; (with_reducible refine (cmp_isNaN_int.calls a1 false _ A4.out).mono ?_); rintro e w' ⟨rfl, ⟨nd, rfl⟩⟩; refine ⟨_, rfl, ?_⟩))
          go_ret
          exact ⟨by first | rfl | (simp; done) | (simp [*]; done), by repeat (first | exact Drawn0.refl _ | apply Drawn0.step)⟩

end Go.Proofs.Ytiibhogpkhdfjaa.P

/-! F68 -/
namespace Go.Proofs.Ytiibhogpkhdfjaa.P
open Go.RowKit Go.Proofs.YtiibhogpkhdfjaaW.PrintWords Go.Proofs.YtiibhogpkhdfjaaW.PrintLast Go.Proofs.YtiibhogpkhdfjaaW.PrintMore
attribute [local go_sem] max2_int min2_int max_two min_two max_three min_three max_four min_four   -- for this text's walks alone
set_option linter.unusedVariables false
set_option linter.unusedSimpArgs false

/-! ### slices_Compare_int_int: function 68 -/
def slices_Compare_int_int.l0 : Nat → List Int → List Int → List Int → Int → Int → Option (Int)
  | 0, _, _, _, _, _ => none
  | k + 1, x0, x1, x9, x10, x11 => if x11 < x10 then (if 0 ≤ x11 then (if x11 < (x9.length : Int) then (if x11 ≥ (x1.length : Int) then (some 1) else (if x11 < (x1.length : Int) then ((cmp_Compare_int.f (rd x9 x11) (rd x1 x11)).bind fun t103 => (if t103 = 0 then (slices_Compare_int_int.l0 k x0 x1 x9 x10 (wrap64 (x11 + 1))) else (some t103))) else (none))) else (none)) else (none)) else (if (x0.length : Int) < (x1.length : Int) then (some (-1)) else (some 0))
def slices_Compare_int_int.f (k : Nat) (l0 : List Int) (l1 : List Int) : Option (Int) := slices_Compare_int_int.l0 k l0 l1 l0 (l0.length : Int) 0
theorem slices_Compare_int_int.mono_l : ∀ k, (∀ y0 y1 y2 y3 y4, LeO (slices_Compare_int_int.l0 k y0 y1 y2 y3 y4) (slices_Compare_int_int.l0 (k + 1) y0 y1 y2 y3 y4))
  | 0 => fun _ _ _ _ _ r h => by simp [slices_Compare_int_int.l0] at h
  | k + 1 => by
    have ih0 := slices_Compare_int_int.mono_l k
    · intro y0 y1 y2 y3 y4
      unfold slices_Compare_int_int.l0
      repeat' first
      | (with_reducible exact ih0 _ _ _ _ _)
      | (with_reducible exact LeO.refl _)
      | (with_reducible exact LeO.none _)
      | (with_reducible refine LeO.ite ?_ ?_)
      | (with_reducible refine LeO.bind ?_ (fun _ => ?_))
      | exact ih0 _ _ _ _ _
      | exact LeO.none _
      | refine LeO.ite ?_ ?_
      | refine LeO.bind ?_ (fun _ => ?_)
theorem slices_Compare_int_int.mono : ∀ a0 a1 k, LeO (slices_Compare_int_int.f k a0 a1) (slices_Compare_int_int.f (k + 1) a0 a1) := by
  intro a0 a1 k
  have ih0 := slices_Compare_int_int.mono_l k
  unfold slices_Compare_int_int.f
  repeat' first
      | (with_reducible exact ih0 _ _ _ _ _)
      | (with_reducible exact LeO.refl _)
      | (with_reducible exact LeO.none _)
      | (with_reducible refine LeO.ite ?_ ?_)
      | (with_reducible refine LeO.bind ?_ (fun _ => ?_))
      | exact ih0 _ _ _ _ _
      | exact LeO.none _
      | refine LeO.ite ?_ ?_
      | refine LeO.bind ?_ (fun _ => ?_)
set_option maxHeartbeats 8000000 in
set_option maxRecDepth 100000 in
theorem slices_Compare_int_int.calls (k : Nat) (A0 : Option Addr) (c0 : Nat) (l0 : List Int) (A1 : Option Addr) (c1 : Nat) (l1 : List Int) (r : Int) (w : World) (hr0 : Kd.C (Kd.int .i64) w A0 l0.length l0) (hc0 : l0.length ≤ c0) (hr1 : Kd.C (Kd.int .i64) w A1 l1.length l1) (hc1 : l1.length ≤ c1) (h : slices_Compare_int_int.f k l0 l1 = some r) :
    Calls Try.prog 68 #[.slice A0 l0.length c0, .slice A1 l1.length c1] w fun e w' => e = .returned (.int .i64 r) ∧ Drawn0 w w' := by
  have HR0 := Aside0.mk hr0
  have HC0 := Aside0.mk hc0
  clear hr0 hc0
  have HR1 := Aside0.mk hr1
  have HC1 := Aside0.mk hc1
  clear hr1 hc1
  have H : (slices_Compare_int_int.l0 k l0 l1 l0 (l0.length : Int) 0) = some r := h
  clear h
  have H' := Aside0.mk H
  clear H
  go_enter Try.func68, Try.ntmps68
  go_wp2
  go_loopg [11] k (fun kq v11 w' => ∃ (x11_1 : Int), v11 = .int .i64 x11_1 ∧ Aside0 (slices_Compare_int_int.l0 kq l0 l1 l0 (l0.length : Int) x11_1 = some r) ∧ Aside0 (kq ≤ k) ∧ Drawn0 w w')
  case atStart => exact ⟨(0), (by first | rfl | (simp; done) | (simp [*]; done)), H', ⟨Nat.le_refl _⟩, by repeat (first | exact Drawn0.refl _ | apply Drawn0.step)⟩
  case round =>
    clear H'
    try clear c1
    try clear p2
    obtain ⟨x11_1, rfl, HA, HK1, ⟨m1, rfl⟩⟩ := hrel
    cases gk with
    | zero => exact absurd HA.out (by simp [slices_Compare_int_int.l0])
    | succ k1 =>
      have H := HA.out
      clear HA
      simp only [slices_Compare_int_int.l0] at H
      by_cases c3 : x11_1 < (l0.length : Int)
      · rw [if_pos c3] at H
        have c3b0 : decide (x11_1 < (l0.length : Int)) = true := decide_eq_true c3
        clear c3
        by_cases c4 : 0 ≤ x11_1
        · rw [if_pos c4] at H
          have c4b0 : decide (0 ≤ x11_1) = true := decide_eq_true c4
          clear c4
          by_cases c5 : x11_1 < (l0.length : Int)
          · rw [if_pos c5] at H
            have c5b0 : decide (x11_1 < (l0.length : Int)) = true := decide_eq_true c5
            clear c5
            by_cases c6 : x11_1 ≥ (l1.length : Int)
            · rw [if_pos c6] at H
              have c6b0 : decide ((l1.length : Int) ≤ x11_1) = true := decide_eq_true c6
              clear c6
              obtain rfl := Option.some.inj H
              have p101 : 0 ≤ (x11_1 : Int) := of_decide_eq_true (by first | (with_reducible assumption) | assumption)
              have q101 : x11_1 < (l0.length : Int) := of_decide_eq_true (by first | (with_reducible assumption) | assumption)
              obtain ⟨ad101, e101, hx101_0⟩ := Kd.at_int HR0.out x11_1 p101 q101
              cases e101
              replace p101 := eq_true p101
              replace q101 := eq_true q101
              go_wp2
              go_ret
              exact ⟨by first | rfl | (simp; done) | (simp [*]; done), by repeat (first | exact Drawn0.refl _ | apply Drawn0.step)⟩
            · rw [if_neg c6] at H
              have c6b0 : decide ((l1.length : Int) ≤ x11_1) = false := decide_eq_false c6
              clear c6
              by_cases c7 : x11_1 < (l1.length : Int)
              · rw [if_pos c7] at H
                have c7b0 : decide (x11_1 < (l1.length : Int)) = true := decide_eq_true c7
                clear c7
                replace H := Option.bind_eq_some_iff.mp H
                obtain ⟨t103, A80, H⟩ := H
                replace H : (if t103 = 0 then (slices_Compare_int_int.l0 k1 l0 l1 l0 (l0.length : Int) (wrap64 (x11_1 + 1))) else (some t103)) = some r := H
                have A8 := Aside0.mk A80
                clear A80
                by_cases c9 : t103 = 0
                · rw [if_pos c9] at H
                  have c9b0 : (t103 == 0) = true := beq_iff_eq.mpr c9
                  have c9b1 : (t103 != 0) = false := bne_eq_false_iff_eq.mpr c9
                  clear c9
                  have H' := Aside0.mk H
                  clear H
                  have p101 : 0 ≤ (x11_1 : Int) := of_decide_eq_true (by first | (with_reducible assumption) | assumption)
                  have q101 : x11_1 < (l0.length : Int) := of_decide_eq_true (by first | (with_reducible assumption) | assumption)
                  obtain ⟨ad101, e101, hx101_0⟩ := Kd.at_int HR0.out x11_1 p101 q101
                  cases e101
                  replace p101 := eq_true p101
                  replace q101 := eq_true q101
                  have p102 : 0 ≤ (x11_1 : Int) := of_decide_eq_true (by first | (with_reducible assumption) | assumption)
                  have q102 : x11_1 < (l1.length : Int) := of_decide_eq_true (by first | (with_reducible assumption) | assumption)
                  obtain ⟨ad102, e102, hx102_0⟩ := Kd.at_int HR1.out x11_1 p102 q102
                  cases e102
                  replace p102 := eq_true p102
                  replace q102 := eq_true q102
                  go_wp2_with (first | ((with_reducible refine gate_callee (f := 90) rfl ?_); refine goesL_ (some 26) rfl rfl Try.func90 (by kernel_rfl) rfl #[.int .i64 (rd l0 x11_1), .int .i64 (rd l1 x11_1)] rfl (by (try simp only [List.map_toArray, List.map_cons, List.map_nil]); first | done | rfl | (simp only [List.length_drop, List.length_take]; rfl)) ?_; (with_reducible refine (cmp_Compare_int.calls (rd l0 x11_1) (rd l1 x11_1) t103 _ A8.out).mono ?_); rintro e w' ⟨rfl, ⟨nd, rfl⟩⟩; refine ⟨_, rfl, ?_⟩))
                  go_roundg k1
                  case measure => have := HK1.out; omega
                  case rel => exact ⟨(wrap64 (x11_1 + 1)), (by first | rfl | (simp; done) | (simp [*]; done)), H', ⟨by have := HK1.out; omega⟩, by repeat (first | exact Drawn0.refl _ | apply Drawn0.step)⟩
                · rw [if_neg c9] at H
                  have c9b0 : (t103 == 0) = false := beq_eq_false_iff_ne.mpr c9
                  have c9b1 : (t103 != 0) = true := bne_iff_ne.mpr c9
                  obtain rfl := Option.some.inj H
                  have p101 : 0 ≤ (x11_1 : Int) := of_decide_eq_true (by first | (with_reducible assumption) | assumption)
                  have q101 : x11_1 < (l0.length : Int) := of_decide_eq_true (by first | (with_reducible assumption) | assumption)
                  obtain ⟨ad101, e101, hx101_0⟩ := Kd.at_int HR0.out x11_1 p101 q101
                  cases e101
                  replace p101 := eq_true p101
                  replace q101 := eq_true q101
                  have p102 : 0 ≤ (x11_1 : Int) := of_decide_eq_true (by first | (with_reducible assumption) | assumption)
                  have q102 : x11_1 < (l1.length : Int) := of_decide_eq_true (by first | (with_reducible assumption) | assumption)
                  obtain ⟨ad102, e102, hx102_0⟩ := Kd.at_int HR1.out x11_1 p102 q102
                  cases e102
                  replace p102 := eq_true p102
                  replace q102 := eq_true q102
                  go_wp2_with (first | ((with_reducible refine gate_callee (f := 90) rfl ?_); refine goesL_ (some 26) rfl rfl Try.func90 (by kernel_rfl) rfl #[.int .i64 (rd l0 x11_1), .int .i64 (rd l1 x11_1)] rfl (by (try simp only [List.map_toArray, List.map_cons, List.map_nil]); first | done | rfl | (simp only [List.length_drop, List.length_take]; rfl)) ?_; (with_reducible refine (cmp_Compare_int.calls (rd l0 x11_1) (rd l1 x11_1) t103 _ A8.out).mono ?_); rintro e w' ⟨rfl, ⟨nd, rfl⟩⟩; refine ⟨_, rfl, ?_⟩))
                  go_ret
                  exact ⟨by first | rfl | (simp; done) | (simp [*]; done), by repeat (first | exact Drawn0.refl _ | apply Drawn0.step)⟩
              · rw [if_neg c7] at H
                exact absurd H (by simp)
          · rw [if_neg c5] at H
            exact absurd H (by simp)
        · rw [if_neg c4] at H
          exact absurd H (by simp)
      · rw [if_neg c3] at H
        have c3b0 : decide (x11_1 < (l0.length : Int)) = false := decide_eq_false c3
        clear c3
        by_cases c10 : (l0.length : Int) < (l1.length : Int)
        · rw [if_pos c10] at H
          have c10b0 : decide ((l0.length : Int) < (l1.length : Int)) = true := decide_eq_true c10
          have c10b1 : decide (l0.length < l1.length) = true := decide_eq_true (Int.ofNat_lt.mp c10)
          clear c10
          obtain rfl := Option.some.inj H
          go_wp2
          go_ret
          exact ⟨by first | rfl | (simp; done) | (simp [*]; done), by repeat (first | exact Drawn0.refl _ | apply Drawn0.step)⟩
        · rw [if_neg c10] at H
          have c10b0 : decide ((l0.length : Int) < (l1.length : Int)) = false := decide_eq_false c10
          have c10b1 : decide (l0.length < l1.length) = false := decide_eq_false (fun h => c10 (Int.ofNat_lt.mpr h))
          clear c10
          obtain rfl := Option.some.inj H
          go_wp2
          go_ret
          exact ⟨by first | rfl | (simp; done) | (simp [*]; done), by repeat (first | exact Drawn0.refl _ | apply Drawn0.step)⟩

end Go.Proofs.Ytiibhogpkhdfjaa.P

/-! F64 -/
namespace Go.Proofs.Ytiibhogpkhdfjaa.P
open Go.RowKit Go.Proofs.YtiibhogpkhdfjaaW.PrintWords Go.Proofs.YtiibhogpkhdfjaaW.PrintLast Go.Proofs.YtiibhogpkhdfjaaW.PrintMore
attribute [local go_sem] max2_int min2_int max_two min_two max_three min_three max_four min_four   -- for this text's walks alone
set_option linter.unusedVariables false
set_option linter.unusedSimpArgs false

/-! ### impl_areRising: function 64 -/
def impl_areRising.l0 : Nat → List Int → Int → List Int → Int → Int → Option (Bool)
  | 0, _, _, _, _, _ => none
  | k + 1, x0, x1, x7, x8, x9 => if x9 < x8 then (if 0 ≤ x9 then (if x9 < (x7.length : Int) then ((impl_in.f (rd x7 x9) 0 (wrap64 (x1 - 1))).bind fun t102 => (if t102 = true then (if x9 > 0 then (if 0 ≤ (wrap64 (x9 - 1)) then (if (wrap64 (x9 - 1)) < (x0.length : Int) then (if (rd x0 (wrap64 (x9 - 1))) ≥ (rd x7 x9) then (some false) else (impl_areRising.l0 k x0 x1 x7 x8 (wrap64 (x9 + 1)))) else (none)) else (none)) else (impl_areRising.l0 k x0 x1 x7 x8 (wrap64 (x9 + 1)))) else (some false))) else (none)) else (none)) else (some true)
def impl_areRising.f (k : Nat) (l0 : List Int) (a1 : Int) : Option (Bool) := impl_areRising.l0 k l0 a1 l0 (l0.length : Int) 0
theorem impl_areRising.mono_l : ∀ k, (∀ y0 y1 y2 y3 y4, LeO (impl_areRising.l0 k y0 y1 y2 y3 y4) (impl_areRising.l0 (k + 1) y0 y1 y2 y3 y4))
  | 0 => fun _ _ _ _ _ r h => by simp [impl_areRising.l0] at h
  | k + 1 => by
    have ih0 := impl_areRising.mono_l k
    · intro y0 y1 y2 y3 y4
      unfold impl_areRising.l0
      repeat' first
      | (with_reducible exact ih0 _ _ _ _ _)
      | (with_reducible exact LeO.refl _)
      | (with_reducible exact LeO.none _)
      | (with_reducible refine LeO.ite ?_ ?_)
      | (with_reducible refine LeO.bind ?_ (fun _ => ?_))
      | exact ih0 _ _ _ _ _
      | exact LeO.none _
      | refine LeO.ite ?_ ?_
      | refine LeO.bind ?_ (fun _ => ?_)
theorem impl_areRising.mono : ∀ a0 a1 k, LeO (impl_areRising.f k a0 a1) (impl_areRising.f (k + 1) a0 a1) := by
  intro a0 a1 k
  have ih0 := impl_areRising.mono_l k
  unfold impl_areRising.f
  repeat' first
      | (with_reducible exact ih0 _ _ _ _ _)
      | (with_reducible exact LeO.refl _)
      | (with_reducible exact LeO.none _)
      | (with_reducible refine LeO.ite ?_ ?_)
      | (with_reducible refine LeO.bind ?_ (fun _ => ?_))
      | exact ih0 _ _ _ _ _
      | exact LeO.none _
      | refine LeO.ite ?_ ?_
      | refine LeO.bind ?_ (fun _ => ?_)
set_option maxHeartbeats 8000000 in
set_option maxRecDepth 100000 in
theorem impl_areRising.calls (k : Nat) (A0 : Option Addr) (c0 : Nat) (l0 : List Int) (a1 : Int) (r : Bool) (w : World) (hr0 : Kd.C (Kd.int .i64) w A0 l0.length l0) (hc0 : l0.length ≤ c0) (h : impl_areRising.f k l0 a1 = some r) :
    Calls Try.prog 64 #[.slice A0 l0.length c0, .int .i64 a1] w fun e w' => e = .returned (.bool r) ∧ Drawn0 w w' := by
  have HR0 := Aside0.mk hr0
  have HC0 := Aside0.mk hc0
  clear hr0 hc0
  have H : (impl_areRising.l0 k l0 a1 l0 (l0.length : Int) 0) = some r := h
  clear h
  have H' := Aside0.mk H
  clear H
  go_enter Try.func64, Try.ntmps64
  go_wp2
  go_loopg [9] k (fun kq v9 w' => ∃ (x9_1 : Int), v9 = .int .i64 x9_1 ∧ Aside0 (impl_areRising.l0 kq l0 a1 l0 (l0.length : Int) x9_1 = some r) ∧ Aside0 (kq ≤ k) ∧ Drawn0 w w')
  case atStart => exact ⟨(0), (by first | rfl | (simp; done) | (simp [*]; done)), H', ⟨Nat.le_refl _⟩, by repeat (first | exact Drawn0.refl _ | apply Drawn0.step)⟩
  case round =>
    clear H'
    try clear p2
    obtain ⟨x9_1, rfl, HA, HK1, ⟨m1, rfl⟩⟩ := hrel
    cases gk with
    | zero => exact absurd HA.out (by simp [impl_areRising.l0])
    | succ k1 =>
      have H := HA.out
      clear HA
      simp only [impl_areRising.l0] at H
      by_cases c3 : x9_1 < (l0.length : Int)
      · rw [if_pos c3] at H
        have c3b0 : decide (x9_1 < (l0.length : Int)) = true := decide_eq_true c3
        clear c3
        by_cases c4 : 0 ≤ x9_1
        · rw [if_pos c4] at H
          have c4b0 : decide (0 ≤ x9_1) = true := decide_eq_true c4
          clear c4
          by_cases c5 : x9_1 < (l0.length : Int)
          · rw [if_pos c5] at H
            have c5b0 : decide (x9_1 < (l0.length : Int)) = true := decide_eq_true c5
            clear c5
            replace H := Option.bind_eq_some_iff.mp H
            obtain ⟨t102, A60, H⟩ := H
            replace H : (if t102 = true then (if x9_1 > 0 then (if 0 ≤ (wrap64 (x9_1 - 1)) then (if (wrap64 (x9_1 - 1)) < (l0.length : Int) then (if (rd l0 (wrap64 (x9_1 - 1))) ≥ (rd l0 x9_1) then (some false) else (impl_areRising.l0 k1 l0 a1 l0 (l0.length : Int) (wrap64 (x9_1 + 1)))) else (none)) else (none)) else (impl_areRising.l0 k1 l0 a1 l0 (l0.length : Int) (wrap64 (x9_1 + 1)))) else (some false)) = some r := H
            have A6 := Aside0.mk A60
            clear A60
            by_cases c7 : t102 = true
            · subst c7
              have H1 : (if x9_1 > 0 then (if 0 ≤ (wrap64 (x9_1 - 1)) then (if (wrap64 (x9_1 - 1)) < (l0.length : Int) then (if (rd l0 (wrap64 (x9_1 - 1))) ≥ (rd l0 x9_1) then (some false) else (impl_areRising.l0 k1 l0 a1 l0 (l0.length : Int) (wrap64 (x9_1 + 1)))) else (none)) else (none)) else (impl_areRising.l0 k1 l0 a1 l0 (l0.length : Int) (wrap64 (x9_1 + 1)))) = some r := by rw [if_pos rfl] at H; exact H
              clear H
              have H := H1
              clear H1
              by_cases c8 : x9_1 > 0
              · rw [if_pos c8] at H
                have c8b0 : decide (0 < x9_1) = true := decide_eq_true c8
                clear c8
                obtain ⟨ji9, hji9⟩ : ∃ j_ : Int, (wrap64 (x9_1 - 1)) = j_ := ⟨_, rfl⟩
                replace H : (if 0 ≤ (ji9) then (if (ji9) < (l0.length : Int) then (if (rd l0 (ji9)) ≥ (rd l0 x9_1) then (some false) else (impl_areRising.l0 k1 l0 a1 l0 (l0.length : Int) (wrap64 (x9_1 + 1)))) else (none)) else (none)) = some r := by first | (rw [hji9] at H; exact H) | (simp only [hji9] at H ⊢; exact H)
                (try rw [hji9] at A6)
                have hji9w : (IntKind.i64.wrap (x9_1 - 1)) = ji9 := (i64_w _).trans hji9
                by_cases c10 : 0 ≤ (ji9)
                · rw [if_pos c10] at H
                  have c10b0 : decide (0 ≤ (ji9)) = true := decide_eq_true c10
                  clear c10
                  by_cases c11 : (ji9) < (l0.length : Int)
                  · rw [if_pos c11] at H
                    have c11b0 : decide ((ji9) < (l0.length : Int)) = true := decide_eq_true c11
                    clear c11
                    by_cases c12 : (rd l0 (ji9)) ≥ (rd l0 x9_1)
                    · rw [if_pos c12] at H
                      have c12b0 : decide ((rd l0 x9_1) ≤ (rd l0 (ji9))) = true := decide_eq_true c12
                      clear c12
                      obtain rfl := Option.some.inj H
                      have p101 : 0 ≤ (x9_1 : Int) := of_decide_eq_true (by first | (with_reducible assumption) | assumption)
                      have q101 : x9_1 < (l0.length : Int) := of_decide_eq_true (by first | (with_reducible assumption) | assumption)
                      obtain ⟨ad101, e101, hx101_0⟩ := Kd.at_int HR0.out x9_1 p101 q101
                      cases e101
                      replace p101 := eq_true p101
                      replace q101 := eq_true q101
                      go_wp2_with (first | ((with_reducible refine gate_callee (f := 46) rfl ?_); refine goesL_ (some 17) rfl rfl Try.func46 (by kernel_rfl) rfl #[.int .i64 (rd l0 x9_1), .int .i64 0, .int .i64 (wrap64 (a1 - 1))] rfl (by (try simp only [List.map_toArray, List.map_cons, List.map_nil]); first | done | rfl | (simp only [List.length_drop, List.length_take]; rfl)) ?_; (with_reducible refine (impl_in.calls (rd l0 x9_1) 0 (wrap64 (a1 - 1)) true _ A6.out).mono ?_); rintro e w' ⟨rfl, ⟨nd, rfl⟩⟩; refine ⟨_, rfl, ?_⟩; have p103 : 0 ≤ ((ji9) : Int) := of_decide_eq_true (by first | (with_reducible assumption) | assumption); have q103 : (ji9) < (l0.length : Int) := of_decide_eq_true (by first | (with_reducible assumption) | assumption); obtain ⟨ad103, e103, hx103_0⟩ := Kd.at_int HR0.out (ji9) p103 q103; obtain rfl : ad101 = ad103 := (by injection e103); replace p103 := eq_true p103; replace q103 := eq_true q103))
                      go_ret
                      exact ⟨by first | rfl | (simp; done) | (simp only [← hji9] <;> (first | rfl | simp)) | (simp [*]; done), by repeat (first | exact Drawn0.refl _ | apply Drawn0.step)⟩
                    · rw [if_neg c12] at H
                      have c12b0 : decide ((rd l0 x9_1) ≤ (rd l0 (ji9))) = false := decide_eq_false c12
                      clear c12
                      have H' := Aside0.mk H
                      clear H
                      have p101 : 0 ≤ (x9_1 : Int) := of_decide_eq_true (by first | (with_reducible assumption) | assumption)
                      have q101 : x9_1 < (l0.length : Int) := of_decide_eq_true (by first | (with_reducible assumption) | assumption)
                      obtain ⟨ad101, e101, hx101_0⟩ := Kd.at_int HR0.out x9_1 p101 q101
                      cases e101
                      replace p101 := eq_true p101
                      replace q101 := eq_true q101
                      go_wp2_with (first | ((with_reducible refine gate_callee (f := 46) rfl ?_); refine goesL_ (some 17) rfl rfl Try.func46 (by kernel_rfl) rfl #[.int .i64 (rd l0 x9_1), .int .i64 0, .int .i64 (wrap64 (a1 - 1))] rfl (by (try simp only [List.map_toArray, List.map_cons, List.map_nil]); first | done | rfl | (simp only [List.length_drop, List.length_take]; rfl)) ?_; (with_reducible refine (impl_in.calls (rd l0 x9_1) 0 (wrap64 (a1 - 1)) true _ A6.out).mono ?_); rintro e w' ⟨rfl, ⟨nd, rfl⟩⟩; refine ⟨_, rfl, ?_⟩; have p103 : 0 ≤ ((ji9) : Int) := of_decide_eq_true (by first | (with_reducible assumption) | assumption); have q103 : (ji9) < (l0.length : Int) := of_decide_eq_true (by first | (with_reducible assumption) | assumption); obtain ⟨ad103, e103, hx103_0⟩ := Kd.at_int HR0.out (ji9) p103 q103; obtain rfl : ad101 = ad103 := (by injection e103); replace p103 := eq_true p103; replace q103 := eq_true q103))
                      go_roundg k1
                      case measure => have := HK1.out; omega
                      case rel => exact ⟨(wrap64 (x9_1 + 1)), (by first | rfl | (simp; done) | (simp [*]; done)), H', ⟨by have := HK1.out; omega⟩, by repeat (first | exact Drawn0.refl _ | apply Drawn0.step)⟩
                  · rw [if_neg c11] at H
                    exact absurd H (by simp)
                · rw [if_neg c10] at H
                  exact absurd H (by simp)
              · rw [if_neg c8] at H
                have c8b0 : decide (0 < x9_1) = false := decide_eq_false c8
                clear c8
                have H' := Aside0.mk H
                clear H
                have p101 : 0 ≤ (x9_1 : Int) := of_decide_eq_true (by first | (with_reducible assumption) | assumption)
                have q101 : x9_1 < (l0.length : Int) := of_decide_eq_true (by first | (with_reducible assumption) | assumption)
                obtain ⟨ad101, e101, hx101_0⟩ := Kd.at_int HR0.out x9_1 p101 q101
                cases e101
                replace p101 := eq_true p101
                replace q101 := eq_true q101
                go_wp2_with (first | ((with_reducible refine gate_callee (f := 46) rfl ?_); refine goesL_ (some 17) rfl rfl Try.func46 (by kernel_rfl) rfl #[.int .i64 (rd l0 x9_1), .int .i64 0, .int .i64 (wrap64 (a1 - 1))] rfl (by (try simp only [List.map_toArray, List.map_cons, List.map_nil]); first | done | rfl | (simp only [List.length_drop, List.length_take]; rfl)) ?_; (with_reducible refine (impl_in.calls (rd l0 x9_1) 0 (wrap64 (a1 - 1)) true _ A6.out).mono ?_); rintro e w' ⟨rfl, ⟨nd, rfl⟩⟩; refine ⟨_, rfl, ?_⟩))
                go_roundg k1
                case measure => have := HK1.out; omega
                case rel => exact ⟨(wrap64 (x9_1 + 1)), (by first | rfl | (simp; done) | (simp [*]; done)), H', ⟨by have := HK1.out; omega⟩, by repeat (first | exact Drawn0.refl _ | apply Drawn0.step)⟩
            · replace c7 := Bool.eq_false_iff.mpr c7
              subst c7
              have H1 : (some false) = some r := by rw [if_neg (show ¬ (false = true) by decide)] at H; exact H
              clear H
              have H := H1
              clear H1
              obtain rfl := Option.some.inj H
              have p101 : 0 ≤ (x9_1 : Int) := of_decide_eq_true (by first | (with_reducible assumption) | assumption)
              have q101 : x9_1 < (l0.length : Int) := of_decide_eq_true (by first | (with_reducible assumption) | assumption)
              obtain ⟨ad101, e101, hx101_0⟩ := Kd.at_int HR0.out x9_1 p101 q101
              cases e101
              replace p101 := eq_true p101
              replace q101 := eq_true q101
              go_wp2_with (first | ((with_reducible refine gate_callee (f := 46) rfl ?_); refine goesL_ (some 17) rfl rfl Try.func46 (by kernel_rfl) rfl #[.int .i64 (rd l0 x9_1), .int .i64 0, .int .i64 (wrap64 (a1 - 1))] rfl (by (try simp only [List.map_toArray, List.map_cons, List.map_nil]); first | done | rfl | (simp only [List.length_drop, List.length_take]; rfl)) ?_; (with_reducible refine (impl_in.calls (rd l0 x9_1) 0 (wrap64 (a1 - 1)) false _ A6.out).mono ?_); rintro e w' ⟨rfl, ⟨nd, rfl⟩⟩; refine ⟨_, rfl, ?_⟩))
              go_ret
              exact ⟨by first | rfl | (simp; done) | (simp [*]; done), by repeat (first | exact Drawn0.refl _ | apply Drawn0.step)⟩
          · rw [if_neg c5] at H
            exact absurd H (by simp)
        · rw [if_neg c4] at H
          exact absurd H (by simp)
      · rw [if_neg c3] at H
        have c3b0 : decide (x9_1 < (l0.length : Int)) = false := decide_eq_false c3
        clear c3
        obtain rfl := Option.some.inj H
        go_wp2
        go_ret
        exact ⟨by first | rfl | (simp; done) | (simp [*]; done), by repeat (first | exact Drawn0.refl _ | apply Drawn0.step)⟩

end Go.Proofs.Ytiibhogpkhdfjaa.P

/-! F41 -/
namespace Go.Proofs.Ytiibhogpkhdfjaa.P
open Go.RowKit Go.Proofs.YtiibhogpkhdfjaaW.PrintWords Go.Proofs.YtiibhogpkhdfjaaW.PrintLast Go.Proofs.YtiibhogpkhdfjaaW.PrintMore
attribute [local go_sem] max2_int min2_int max_two min_two max_three min_three max_four min_four   -- for this text's walks alone
set_option linter.unusedVariables false
set_option linter.unusedSimpArgs false

/-! ### spec_l1Rising: function 41 -/
def spec_l1Rising.l0 : Nat → List Int → Int → Int → List Int → Int → Int → Option (Bool)
  | 0, _, _, _, _, _, _ => none
  | k + 1, x0, x1, x2, x9, x10, x11 => if x11 < x10 then (if 0 ≤ x11 then (if x11 < (x9.length : Int) then ((spec_l1In.f (rd x9 x11) x1 x2).bind fun t102 => (if t102 = true then (if x11 > 0 then (if 0 ≤ (wrap64 (x11 - 1)) then (if (wrap64 (x11 - 1)) < (x0.length : Int) then (if (rd x0 (wrap64 (x11 - 1))) ≥ (rd x9 x11) then (some false) else (spec_l1Rising.l0 k x0 x1 x2 x9 x10 (wrap64 (x11 + 1)))) else (none)) else (none)) else (spec_l1Rising.l0 k x0 x1 x2 x9 x10 (wrap64 (x11 + 1)))) else (some false))) else (none)) else (none)) else (some true)
def spec_l1Rising.f (k : Nat) (l0 : List Int) (a1 : Int) (a2 : Int) : Option (Bool) := spec_l1Rising.l0 k l0 a1 a2 l0 (l0.length : Int) 0
theorem spec_l1Rising.mono_l : ∀ k, (∀ y0 y1 y2 y3 y4 y5, LeO (spec_l1Rising.l0 k y0 y1 y2 y3 y4 y5) (spec_l1Rising.l0 (k + 1) y0 y1 y2 y3 y4 y5))
  | 0 => fun _ _ _ _ _ _ r h => by simp [spec_l1Rising.l0] at h
  | k + 1 => by
    have ih0 := spec_l1Rising.mono_l k
    · intro y0 y1 y2 y3 y4 y5
      unfold spec_l1Rising.l0
      repeat' first
      | (with_reducible exact ih0 _ _ _ _ _ _)
      | (with_reducible exact LeO.refl _)
      | (with_reducible exact LeO.none _)
      | (with_reducible refine LeO.ite ?_ ?_)
      | (with_reducible refine LeO.bind ?_ (fun _ => ?_))
      | exact ih0 _ _ _ _ _ _
      | exact LeO.none _
      | refine LeO.ite ?_ ?_
      | refine LeO.bind ?_ (fun _ => ?_)
theorem spec_l1Rising.mono : ∀ a0 a1 a2 k, LeO (spec_l1Rising.f k a0 a1 a2) (spec_l1Rising.f (k + 1) a0 a1 a2) := by
  intro a0 a1 a2 k
  have ih0 := spec_l1Rising.mono_l k
  unfold spec_l1Rising.f
  repeat' first
      | (with_reducible exact ih0 _ _ _ _ _ _)
      | (with_reducible exact LeO.refl _)
      | (with_reducible exact LeO.none _)
      | (with_reducible refine LeO.ite ?_ ?_)
      | (with_reducible refine LeO.bind ?_ (fun _ => ?_))
      | exact ih0 _ _ _ _ _ _
      | exact LeO.none _
      | refine LeO.ite ?_ ?_
      | refine LeO.bind ?_ (fun _ => ?_)
set_option maxHeartbeats 8000000 in
set_option maxRecDepth 100000 in
theorem spec_l1Rising.calls (k : Nat) (A0 : Option Addr) (c0 : Nat) (l0 : List Int) (a1 : Int) (a2 : Int) (r : Bool) (w : World) (hr0 : Kd.C (Kd.int .i64) w A0 l0.length l0) (hc0 : l0.length ≤ c0) (h : spec_l1Rising.f k l0 a1 a2 = some r) :
    Calls Try.prog 41 #[.slice A0 l0.length c0, .int .i64 a1, .int .i64 a2] w fun e w' => e = .returned (.bool r) ∧ Drawn0 w w' := by
  have HR0 := Aside0.mk hr0
  have HC0 := Aside0.mk hc0
  clear hr0 hc0
  have H : (spec_l1Rising.l0 k l0 a1 a2 l0 (l0.length : Int) 0) = some r := h
  clear h
  have H' := Aside0.mk H
  clear H
  go_enter Try.func41, Try.ntmps41
  go_wp2
  go_loopg [11] k (fun kq v11 w' => ∃ (x11_1 : Int), v11 = .int .i64 x11_1 ∧ Aside0 (spec_l1Rising.l0 kq l0 a1 a2 l0 (l0.length : Int) x11_1 = some r) ∧ Aside0 (kq ≤ k) ∧ Drawn0 w w')
  case atStart => exact ⟨(0), (by first | rfl | (simp; done) | (simp [*]; done)), H', ⟨Nat.le_refl _⟩, by repeat (first | exact Drawn0.refl _ | apply Drawn0.step)⟩
  case round =>
    clear H'
    try clear p2
    obtain ⟨x11_1, rfl, HA, HK1, ⟨m1, rfl⟩⟩ := hrel
    cases gk with
    | zero => exact absurd HA.out (by simp [spec_l1Rising.l0])
    | succ k1 =>
      have H := HA.out
      clear HA
      simp only [spec_l1Rising.l0] at H
      by_cases c4 : x11_1 < (l0.length : Int)
      · rw [if_pos c4] at H
        have c4b0 : decide (x11_1 < (l0.length : Int)) = true := decide_eq_true c4
        clear c4
        by_cases c5 : 0 ≤ x11_1
        · rw [if_pos c5] at H
          have c5b0 : decide (0 ≤ x11_1) = true := decide_eq_true c5
          clear c5
          by_cases c6 : x11_1 < (l0.length : Int)
          · rw [if_pos c6] at H
            have c6b0 : decide (x11_1 < (l0.length : Int)) = true := decide_eq_true c6
            clear c6
            replace H := Option.bind_eq_some_iff.mp H
            obtain ⟨t102, A70, H⟩ := H
            replace H : (if t102 = true then (if x11_1 > 0 then (if 0 ≤ (wrap64 (x11_1 - 1)) then (if (wrap64 (x11_1 - 1)) < (l0.length : Int) then (if (rd l0 (wrap64 (x11_1 - 1))) ≥ (rd l0 x11_1) then (some false) else (spec_l1Rising.l0 k1 l0 a1 a2 l0 (l0.length : Int) (wrap64 (x11_1 + 1)))) else (none)) else (none)) else (spec_l1Rising.l0 k1 l0 a1 a2 l0 (l0.length : Int) (wrap64 (x11_1 + 1)))) else (some false)) = some r := H
            have A7 := Aside0.mk A70
            clear A70
            by_cases c8 : t102 = true
            · subst c8
              have H1 : (if x11_1 > 0 then (if 0 ≤ (wrap64 (x11_1 - 1)) then (if (wrap64 (x11_1 - 1)) < (l0.length : Int) then (if (rd l0 (wrap64 (x11_1 - 1))) ≥ (rd l0 x11_1) then (some false) else (spec_l1Rising.l0 k1 l0 a1 a2 l0 (l0.length : Int) (wrap64 (x11_1 + 1)))) else (none)) else (none)) else (spec_l1Rising.l0 k1 l0 a1 a2 l0 (l0.length : Int) (wrap64 (x11_1 + 1)))) = some r := by rw [if_pos rfl] at H; exact H
              clear H
              have H := H1
              clear H1
              by_cases c9 : x11_1 > 0
              · rw [if_pos c9] at H
                have c9b0 : decide (0 < x11_1) = true := decide_eq_true c9
                clear c9
                obtain ⟨ji10, hji10⟩ : ∃ j_ : Int, (wrap64 (x11_1 - 1)) = j_ := ⟨_, rfl⟩
                replace H : (if 0 ≤ (ji10) then (if (ji10) < (l0.length : Int) then (if (rd l0 (ji10)) ≥ (rd l0 x11_1) then (some false) else (spec_l1Rising.l0 k1 l0 a1 a2 l0 (l0.length : Int) (wrap64 (x11_1 + 1)))) else (none)) else (none)) = some r := by first | (rw [hji10] at H; exact H) | (simp only [hji10] at H ⊢; exact H)
                (try rw [hji10] at A7)
                have hji10w : (IntKind.i64.wrap (x11_1 - 1)) = ji10 := (i64_w _).trans hji10
                by_cases c11 : 0 ≤ (ji10)
                · rw [if_pos c11] at H
                  have c11b0 : decide (0 ≤ (ji10)) = true := decide_eq_true c11
                  clear c11
                  by_cases c12 : (ji10) < (l0.length : Int)
                  · rw [if_pos c12] at H
                    have c12b0 : decide ((ji10) < (l0.length : Int)) = true := decide_eq_true c12
                    clear c12
                    by_cases c13 : (rd l0 (ji10)) ≥ (rd l0 x11_1)
                    · rw [if_pos c13] at H
                      have c13b0 : decide ((rd l0 x11_1) ≤ (rd l0 (ji10))) = true := decide_eq_true c13
                      clear c13
                      obtain rfl := Option.some.inj H
                      have p101 : 0 ≤ (x11_1 : Int) := of_decide_eq_true (by first | (with_reducible assumption) | assumption)
                      have q101 : x11_1 < (l0.length : Int) := of_decide_eq_true (by first | (with_reducible assumption) | assumption)
                      obtain ⟨ad101, e101, hx101_0⟩ := Kd.at_int HR0.out x11_1 p101 q101
                      cases e101
                      replace p101 := eq_true p101
                      replace q101 := eq_true q101
                      go_wp2_with (first | ((with_reducible refine gate_callee (f := 39) rfl ?_); refine goesL_ (some 19) rfl rfl Try.func39 (by kernel_rfl) rfl #[.int .i64 (rd l0 x11_1), .int .i64 a1, .int .i64 a2] rfl (by (try simp only [List.map_toArray, List.map_cons, List.map_nil]); first | done | rfl | (simp only [List.length_drop, List.length_take]; rfl)) ?_; (with_reducible refine (spec_l1In.calls (rd l0 x11_1) a1 a2 true _ A7.out).mono ?_); rintro e w' ⟨rfl, ⟨nd, rfl⟩⟩; refine ⟨_, rfl, ?_⟩; have p103 : 0 ≤ ((ji10) : Int) := of_decide_eq_true (by first | (with_reducible assumption) | assumption); have q103 : (ji10) < (l0.length : Int) := of_decide_eq_true (by first | (with_reducible assumption) | assumption); obtain ⟨ad103, e103, hx103_0⟩ := Kd.at_int HR0.out (ji10) p103 q103; obtain rfl : ad101 = ad103 := (by injection e103); replace p103 := eq_true p103; replace q103 := eq_true q103))
                      go_ret
                      exact ⟨by first | rfl | (simp; done) | (simp only [← hji10] <;> (first | rfl | simp)) | (simp [*]; done), by repeat (first | exact Drawn0.refl _ | apply Drawn0.step)⟩
                    · rw [if_neg c13] at H
                      have c13b0 : decide ((rd l0 x11_1) ≤ (rd l0 (ji10))) = false := decide_eq_false c13
                      clear c13
                      have H' := Aside0.mk H
                      clear H
                      have p101 : 0 ≤ (x11_1 : Int) := of_decide_eq_true (by first | (with_reducible assumption) | assumption)
                      have q101 : x11_1 < (l0.length : Int) := of_decide_eq_true (by first | (with_reducible assumption) | assumption)
                      obtain ⟨ad101, e101, hx101_0⟩ := Kd.at_int HR0.out x11_1 p101 q101
                      cases e101
                      replace p101 := eq_true p101
                      replace q101 := eq_true q101
                      go_wp2_with (first | ((with_reducible refine gate_callee (f := 39) rfl ?_); refine goesL_ (some 19) rfl rfl Try.func39 (by kernel_rfl) rfl #[.int .i64 (rd l0 x11_1), .int .i64 a1, .int .i64 a2] rfl (by (try simp only [List.map_toArray, List.map_cons, List.map_nil]); first | done | rfl | (simp only [List.length_drop, List.length_take]; rfl)) ?_; (with_reducible refine (spec_l1In.calls (rd l0 x11_1) a1 a2 true _ A7.out).mono ?_); rintro e w' ⟨rfl, ⟨nd, rfl⟩⟩; refine ⟨_, rfl, ?_⟩; have p103 : 0 ≤ ((ji10) : Int) := of_decide_eq_true (by first | (with_reducible assumption) | assumption); have q103 : (ji10) < (l0.length : Int) := of_decide_eq_true (by first | (with_reducible assumption) | assumption); obtain ⟨ad103, e103, hx103_0⟩ := Kd.at_int HR0.out (ji10) p103 q103; obtain rfl : ad101 = ad103 := (by injection e103); replace p103 := eq_true p103; replace q103 := eq_true q103))
                      go_roundg k1
                      case measure => have := HK1.out; omega
                      case rel => exact ⟨(wrap64 (x11_1 + 1)), (by first | rfl | (simp; done) | (simp [*]; done)), H', ⟨by have := HK1.out; omega⟩, by repeat (first | exact Drawn0.refl _ | apply Drawn0.step)⟩
                  · rw [if_neg c12] at H
                    exact absurd H (by simp)
                · rw [if_neg c11] at H
                  exact absurd H (by simp)
              · rw [if_neg c9] at H
                have c9b0 : decide (0 < x11_1) = false := decide_eq_false c9
                clear c9
                have H' := Aside0.mk H
                clear H
                have p101 : 0 ≤ (x11_1 : Int) := of_decide_eq_true (by first | (with_reducible assumption) | assumption)
                have q101 : x11_1 < (l0.length : Int) := of_decide_eq_true (by first | (with_reducible assumption) | assumption)
                obtain ⟨ad101, e101, hx101_0⟩ := Kd.at_int HR0.out x11_1 p101 q101
                cases e101
                replace p101 := eq_true p101
                replace q101 := eq_true q101
                go_wp2_with (first | ((with_reducible refine gate_callee (f := 39) rfl ?_); refine goesL_ (some 19) rfl rfl Try.func39 (by kernel_rfl) rfl #[.int .i64 (rd l0 x11_1), .int .i64 a1, .int .i64 a2] rfl (by (try simp only [List.map_toArray, List.map_cons, List.map_nil]); first | done | rfl | (simp only [List.length_drop, List.length_take]; rfl)) ?_; (with_reducible refine (spec_l1In.calls (rd l0 x11_1) a1 a2 true _ A7.out).mono ?_); rintro e w' ⟨rfl, ⟨nd, rfl⟩⟩; refine ⟨_, rfl, ?_⟩))
                go_roundg k1
                case measure => have := HK1.out; omega
                case rel => exact ⟨(wrap64 (x11_1 + 1)), (by first | rfl | (simp; done) | (simp [*]; done)), H', ⟨by have := HK1.out; omega⟩, by repeat (first | exact Drawn0.refl _ | apply Drawn0.step)⟩
            · replace c8 := Bool.eq_false_iff.mpr c8
              subst c8
              have H1 : (some false) = some r := by rw [if_neg (show ¬ (false = true) by decide)] at H; exact H
              clear H
              have H := H1
              clear H1
              obtain rfl := Option.some.inj H
              have p101 : 0 ≤ (x11_1 : Int) := of_decide_eq_true (by first | (with_reducible assumption) | assumption)
              have q101 : x11_1 < (l0.length : Int) := of_decide_eq_true (by first | (with_reducible assumption) | assumption)
              obtain ⟨ad101, e101, hx101_0⟩ := Kd.at_int HR0.out x11_1 p101 q101
              cases e101
              replace p101 := eq_true p101
              replace q101 := eq_true q101
              go_wp2_with (first | ((with_reducible refine gate_callee (f := 39) rfl ?_); refine goesL_ (some 19) rfl rfl Try.func39 (by kernel_rfl) rfl #[.int .i64 (rd l0 x11_1), .int .i64 a1, .int .i64 a2] rfl (by (try simp only [List.map_toArray, List.map_cons, List.map_nil]); first | done | rfl | (simp only [List.length_drop, List.length_take]; rfl)) ?_; (with_reducible refine (spec_l1In.calls (rd l0 x11_1) a1 a2 false _ A7.out).mono ?_); rintro e w' ⟨rfl, ⟨nd, rfl⟩⟩; refine ⟨_, rfl, ?_⟩))
              go_ret
              exact ⟨by first | rfl | (simp; done) | (simp [*]; done), by repeat (first | exact Drawn0.refl _ | apply Drawn0.step)⟩
          · rw [if_neg c6] at H
            exact absurd H (by simp)
        · rw [if_neg c5] at H
          exact absurd H (by simp)
      · rw [if_neg c4] at H
        have c4b0 : decide (x11_1 < (l0.length : Int)) = false := decide_eq_false c4
        clear c4
        obtain rfl := Option.some.inj H
        go_wp2
        go_ret
        exact ⟨by first | rfl | (simp; done) | (simp [*]; done), by repeat (first | exact Drawn0.refl _ | apply Drawn0.step)⟩

end Go.Proofs.Ytiibhogpkhdfjaa.P

/-! F62 -/
namespace Go.Proofs.Ytiibhogpkhdfjaa.P
open Go.RowKit Go.Proofs.YtiibhogpkhdfjaaW.PrintWords Go.Proofs.YtiibhogpkhdfjaaW.PrintLast Go.Proofs.YtiibhogpkhdfjaaW.PrintMore
attribute [local go_sem] max2_int min2_int max_two min_two max_three min_three max_four min_four   -- for this text's walks alone
set_option linter.unusedVariables false
set_option linter.unusedSimpArgs false

/-! ### spec_l5Less: function 62 -/
def spec_l5Less.l0 : Nat → List Int → List Int → Int → Int → Option (Bool)
  | 0, _, _, _, _ => none
  | k + 1, x0, x1, x7, x8 => if x8 < x7 then (if 0 ≤ x8 then (if x8 < (x0.length : Int) then (if x8 < (x1.length : Int) then (if (rd x0 x8) = (rd x1 x8) then (spec_l5Less.l0 k x0 x1 x7 (wrap64 (x8 + 1))) else (some (decide ((rd x0 x8) < (rd x1 x8))))) else (none)) else (none)) else (none)) else (some false)
def spec_l5Less.f (k : Nat) (l0 : List Int) (l1 : List Int) : Option (Bool) := spec_l5Less.l0 k l0 l1 (l0.length : Int) 0
theorem spec_l5Less.mono_l : ∀ k, (∀ y0 y1 y2 y3, LeO (spec_l5Less.l0 k y0 y1 y2 y3) (spec_l5Less.l0 (k + 1) y0 y1 y2 y3))
  | 0 => fun _ _ _ _ r h => by simp [spec_l5Less.l0] at h
  | k + 1 => by
    have ih0 := spec_l5Less.mono_l k
    · intro y0 y1 y2 y3
      unfold spec_l5Less.l0
      repeat' first
      | (with_reducible exact ih0 _ _ _ _)
      | (with_reducible exact LeO.refl _)
      | (with_reducible exact LeO.none _)
      | (with_reducible refine LeO.ite ?_ ?_)
      | (with_reducible refine LeO.bind ?_ (fun _ => ?_))
      | exact ih0 _ _ _ _
      | exact LeO.none _
      | refine LeO.ite ?_ ?_
      | refine LeO.bind ?_ (fun _ => ?_)
theorem spec_l5Less.mono : ∀ a0 a1 k, LeO (spec_l5Less.f k a0 a1) (spec_l5Less.f (k + 1) a0 a1) := by
  intro a0 a1 k
  have ih0 := spec_l5Less.mono_l k
  unfold spec_l5Less.f
  repeat' first
      | (with_reducible exact ih0 _ _ _ _)
      | (with_reducible exact LeO.refl _)
      | (with_reducible exact LeO.none _)
      | (with_reducible refine LeO.ite ?_ ?_)
      | (with_reducible refine LeO.bind ?_ (fun _ => ?_))
      | exact ih0 _ _ _ _
      | exact LeO.none _
      | refine LeO.ite ?_ ?_
      | refine LeO.bind ?_ (fun _ => ?_)
set_option maxHeartbeats 8000000 in
set_option maxRecDepth 100000 in
theorem spec_l5Less.calls (k : Nat) (A0 : Option Addr) (c0 : Nat) (l0 : List Int) (A1 : Option Addr) (c1 : Nat) (l1 : List Int) (r : Bool) (w : World) (hr0 : Kd.C (Kd.int .i64) w A0 l0.length l0) (hc0 : l0.length ≤ c0) (hr1 : Kd.C (Kd.int .i64) w A1 l1.length l1) (hc1 : l1.length ≤ c1) (h : spec_l5Less.f k l0 l1 = some r) :
    Calls Try.prog 62 #[.slice A0 l0.length c0, .slice A1 l1.length c1] w fun e w' => e = .returned (.bool r) ∧ Drawn0 w w' := by
  have HR0 := Aside0.mk hr0
  have HC0 := Aside0.mk hc0
  clear hr0 hc0
  have HR1 := Aside0.mk hr1
  have HC1 := Aside0.mk hc1
  clear hr1 hc1
  have H : (spec_l5Less.l0 k l0 l1 (l0.length : Int) 0) = some r := h
  clear h
  have H' := Aside0.mk H
  clear H
  go_enter Try.func62, Try.ntmps62
  go_wp2
  repeat (go_quiet (fail); try go_wp2)
  go_loopg [8] k (fun kq v8 w' => ∃ (x8_1 : Int), v8 = .int .i64 x8_1 ∧ Aside0 (spec_l5Less.l0 kq l0 l1 (l0.length : Int) x8_1 = some r) ∧ Aside0 (kq ≤ k) ∧ Drawn0 w w')
  case atStart => exact ⟨(0), (by first | rfl | (simp; done) | (simp [*]; done)), H', ⟨Nat.le_refl _⟩, by repeat (first | exact Drawn0.refl _ | apply Drawn0.step)⟩
  case round =>
    clear H'
    try clear c1
    try clear p2
    obtain ⟨x8_1, rfl, HA, HK1, ⟨m1, rfl⟩⟩ := hrel
    cases gk with
    | zero => exact absurd HA.out (by simp [spec_l5Less.l0])
    | succ k1 =>
      have H := HA.out
      clear HA
      simp only [spec_l5Less.l0] at H
      by_cases c3 : x8_1 < (l0.length : Int)
      · rw [if_pos c3] at H
        have c3b0 : decide (x8_1 < (l0.length : Int)) = true := decide_eq_true c3
        clear c3
        by_cases c4 : 0 ≤ x8_1
        · rw [if_pos c4] at H
          have c4b0 : decide (0 ≤ x8_1) = true := decide_eq_true c4
          clear c4
          by_cases c5 : x8_1 < (l0.length : Int)
          · rw [if_pos c5] at H
            have c5b0 : decide (x8_1 < (l0.length : Int)) = true := decide_eq_true c5
            clear c5
            by_cases c6 : x8_1 < (l1.length : Int)
            · rw [if_pos c6] at H
              have c6b0 : decide (x8_1 < (l1.length : Int)) = true := decide_eq_true c6
              clear c6
              by_cases c7 : (rd l0 x8_1) = (rd l1 x8_1)
              · rw [if_pos c7] at H
                have c7b0 : ((rd l0 x8_1) == (rd l1 x8_1)) = true := beq_iff_eq.mpr c7
                have c7b1 : ((rd l0 x8_1) != (rd l1 x8_1)) = false := bne_eq_false_iff_eq.mpr c7
                clear c7
                have H' := Aside0.mk H
                clear H
                have p101 : 0 ≤ (x8_1 : Int) := of_decide_eq_true (by first | (with_reducible assumption) | assumption)
                have q101 : x8_1 < (l0.length : Int) := of_decide_eq_true (by first | (with_reducible assumption) | assumption)
                obtain ⟨ad101, e101, hx101_0⟩ := Kd.at_int HR0.out x8_1 p101 q101
                cases e101
                replace p101 := eq_true p101
                replace q101 := eq_true q101
                have p102 : 0 ≤ (x8_1 : Int) := of_decide_eq_true (by first | (with_reducible assumption) | assumption)
                have q102 : x8_1 < (l1.length : Int) := of_decide_eq_true (by first | (with_reducible assumption) | assumption)
                obtain ⟨ad102, e102, hx102_0⟩ := Kd.at_int HR1.out x8_1 p102 q102
                cases e102
                replace p102 := eq_true p102
                replace q102 := eq_true q102
                go_wp2
                repeat (go_quiet (fail); try go_wp2)
                go_roundg k1
                case measure => have := HK1.out; omega
                case rel => exact ⟨(wrap64 (x8_1 + 1)), (by first | rfl | (simp; done) | (simp [*]; done)), H', ⟨by have := HK1.out; omega⟩, by repeat (first | exact Drawn0.refl _ | apply Drawn0.step)⟩
              · rw [if_neg c7] at H
                have c7b0 : ((rd l0 x8_1) == (rd l1 x8_1)) = false := beq_eq_false_iff_ne.mpr c7
                have c7b1 : ((rd l0 x8_1) != (rd l1 x8_1)) = true := bne_iff_ne.mpr c7
                obtain rfl := Option.some.inj H
                have p101 : 0 ≤ (x8_1 : Int) := of_decide_eq_true (by first | (with_reducible assumption) | assumption)
                have q101 : x8_1 < (l0.length : Int) := of_decide_eq_true (by first | (with_reducible assumption) | assumption)
                obtain ⟨ad101, e101, hx101_0⟩ := Kd.at_int HR0.out x8_1 p101 q101
                cases e101
                replace p101 := eq_true p101
                replace q101 := eq_true q101
                have p102 : 0 ≤ (x8_1 : Int) := of_decide_eq_true (by first | (with_reducible assumption) | assumption)
                have q102 : x8_1 < (l1.length : Int) := of_decide_eq_true (by first | (with_reducible assumption) | assumption)
                obtain ⟨ad102, e102, hx102_0⟩ := Kd.at_int HR1.out x8_1 p102 q102
                cases e102
                replace p102 := eq_true p102
                replace q102 := eq_true q102
                have p103 : 0 ≤ (x8_1 : Int) := of_decide_eq_true (by first | (with_reducible assumption) | assumption)
                have q103 : x8_1 < (l0.length : Int) := of_decide_eq_true (by first | (with_reducible assumption) | assumption)
                obtain ⟨ad103, e103, hx103_0⟩ := Kd.at_int HR0.out x8_1 p103 q103
                obtain rfl : ad101 = ad103 := (by injection e103)
                replace p103 := eq_true p103
                replace q103 := eq_true q103
                have p104 : 0 ≤ (x8_1 : Int) := of_decide_eq_true (by first | (with_reducible assumption) | assumption)
                have q104 : x8_1 < (l1.length : Int) := of_decide_eq_true (by first | (with_reducible assumption) | assumption)
                obtain ⟨ad104, e104, hx104_0⟩ := Kd.at_int HR1.out x8_1 p104 q104
                obtain rfl : ad102 = ad104 := (by injection e104)
                replace p104 := eq_true p104
                replace q104 := eq_true q104
                go_wp2
                repeat (go_quiet (fail); try go_wp2)
                go_ret
                exact ⟨by first | rfl | (simp; done) | (simp [*]; done), by repeat (first | exact Drawn0.refl _ | apply Drawn0.step)⟩
            · rw [if_neg c6] at H
              exact absurd H (by simp)
          · rw [if_neg c5] at H
            exact absurd H (by simp)
        · rw [if_neg c4] at H
          exact absurd H (by simp)
      · rw [if_neg c3] at H
        have c3b0 : decide (x8_1 < (l0.length : Int)) = false := decide_eq_false c3
        clear c3
        obtain rfl := Option.some.inj H
        go_wp2
        repeat (go_quiet (fail); try go_wp2)
        go_ret
        exact ⟨by first | rfl | (simp; done) | (simp [*]; done), by repeat (first | exact Drawn0.refl _ | apply Drawn0.step)⟩

end Go.Proofs.Ytiibhogpkhdfjaa.P

/-! F63 -/
namespace Go.Proofs.Ytiibhogpkhdfjaa.P
open Go.RowKit Go.Proofs.YtiibhogpkhdfjaaW.PrintWords Go.Proofs.YtiibhogpkhdfjaaW.PrintLast Go.Proofs.YtiibhogpkhdfjaaW.PrintMore
attribute [local go_sem] max2_int min2_int max_two min_two max_three min_three max_four min_four   -- for this text's walks alone
set_option linter.unusedVariables false
set_option linter.unusedSimpArgs false

/-! ### spec_l5Symbol: function 63 -/
def spec_l5Symbol.f (a0_0 : Int) (a0_1 : Int) (l0_2 : List (List Int)) (l0_3 : List (List Int)) (l0_4 : List Int) (l0_5 : List (List Int)) (a1 : Int) : Option (Bool) := (spec_l1In.f a1 (wrap64 (-a0_1)) (wrap64 (a0_0 - 1))).bind fun t102 => (some t102)
set_option maxHeartbeats 8000000 in
set_option maxRecDepth 100000 in
theorem spec_l5Symbol.calls (a0_0 : Int) (a0_1 : Int) (A0_2 : Option Addr) (c0_2 : Nat) (l0_2 : List (List Int)) (A0_3 : Option Addr) (c0_3 : Nat) (l0_3 : List (List Int)) (A0_4 : Option Addr) (c0_4 : Nat) (l0_4 : List Int) (A0_5 : Option Addr) (c0_5 : Nat) (l0_5 : List (List Int)) (a1 : Int) (r : Bool) (w : World) (hr0_2 : Kd.C (Kd.slice 3 (Kd.int .i64)) w A0_2 l0_2.length l0_2) (hc0_2 : l0_2.length ≤ c0_2) (hr0_3 : Kd.C (Kd.slice 3 (Kd.int .i64)) w A0_3 l0_3.length l0_3) (hc0_3 : l0_3.length ≤ c0_3) (hr0_4 : Kd.C (Kd.int .i64) w A0_4 l0_4.length l0_4) (hc0_4 : l0_4.length ≤ c0_4) (hr0_5 : Kd.C (Kd.slice 3 (Kd.int .i64)) w A0_5 l0_5.length l0_5) (hc0_5 : l0_5.length ≤ c0_5) (h : spec_l5Symbol.f a0_0 a0_1 l0_2 l0_3 l0_4 l0_5 a1 = some r) :
    Calls Try.prog 63 #[.agg #[.int .i64 a0_0, .int .i64 a0_1, .slice A0_2 l0_2.length c0_2, .slice A0_3 l0_3.length c0_3, .slice A0_4 l0_4.length c0_4, .slice A0_5 l0_5.length c0_5], .int .i64 a1] w fun e w' => e = .returned (.bool r) ∧ Below w.heap.size w w' := by
  have hu28 := Try.underlying28
  have HR0_2 := Aside0.mk hr0_2
  have HC0_2 := Aside0.mk hc0_2
  clear hr0_2 hc0_2
  have HR0_3 := Aside0.mk hr0_3
  have HC0_3 := Aside0.mk hc0_3
  clear hr0_3 hc0_3
  have HR0_4 := Aside0.mk hr0_4
  have HC0_4 := Aside0.mk hc0_4
  clear hr0_4 hc0_4
  have HR0_5 := Aside0.mk hr0_5
  have HC0_5 := Aside0.mk hc0_5
  clear hr0_5 hc0_5
  have HB := Aside0.mk (Below.refl w.heap.size w)
  have H : ((spec_l1In.f a1 (wrap64 (-a0_1)) (wrap64 (a0_0 - 1))).bind fun t102 => (some t102)) = some r := h
  clear h
  replace H := Option.bind_eq_some_iff.mp H
  obtain ⟨t102, A30, H⟩ := H
  replace H : (some t102) = some r := H
  have A3 := Aside0.mk A30
  clear A30
  obtain rfl := Option.some.inj H
  go_enter Try.func63, Try.ntmps63
  go_wp2_with (first | ((with_reducible refine gate_dst (N := 2) rfl ?_); refine box_event ?hg (N := 2) ?hd (cs := #[.int .i64 a0_0, .int .i64 a0_1, .slice A0_2 l0_2.length c0_2, .slice A0_3 l0_3.length c0_3, .slice A0_4 l0_4.length c0_4, .slice A0_5 l0_5.length c0_5]) (t := 28) ?hr ?_; (case hd => rfl); (case hg => rfl); (case hr => first | (go_simp; done) | (go_simp; rfl)); intro gb101 hg w4 hbox hb; have n0_ := Aside0.mk (below_step (by repeat (first | (with_reducible first | exact HB.out | apply below_alloc | apply pw_below_drewN | apply below_drew1) | exact HB.out)) hb); have n1_ := Aside0.mk (hbox); have n2_ := Aside0.mk ((by rw [hg]; exact (below_size (by repeat (first | (with_reducible first | exact HB.out | apply below_alloc | apply pw_below_drewN | apply below_drew1) | exact HB.out))) : w.heap.size ≤ gb101)); have n3_ := Aside0.mk ((by rw [hg]; exact (below_size (by repeat (first | (with_reducible first | exact HB.out | apply below_alloc | apply pw_below_drewN | apply below_drew1) | exact HB.out))) : w.heap.size ≤ gb101)); clear HB; have HB := n0_; have BK101 := n1_; have GW101 := n2_; have GE101 := n3_; clear n0_ n1_ n2_ n3_; clear hb hbox hg; have hcz5_0 : w4.cell? ⟨gb101, 0, none⟩ = some (.int .i64 a0_0) := (blk_cell BK101.out 0).trans rfl; have hcz5_1 : w4.cell? ⟨gb101, 1, none⟩ = some (.int .i64 a0_1) := (blk_cell BK101.out 1).trans rfl; have hcz5_2 : w4.cell? ⟨gb101, 2, none⟩ = some (.slice A0_2 l0_2.length c0_2) := (blk_cell BK101.out 2).trans rfl; have hcz5_3 : w4.cell? ⟨gb101, 3, none⟩ = some (.slice A0_3 l0_3.length c0_3) := (blk_cell BK101.out 3).trans rfl; have hcz5_4 : w4.cell? ⟨gb101, 4, none⟩ = some (.slice A0_4 l0_4.length c0_4) := (blk_cell BK101.out 4).trans rfl; have hcz5_5 : w4.cell? ⟨gb101, 5, none⟩ = some (.slice A0_5 l0_5.length c0_5) := (blk_cell BK101.out 5).trans rfl; have hfz5_0 := blk_frozen BK101.out 0; have hfz5_1 := blk_frozen BK101.out 1; have hfz5_2 := blk_frozen BK101.out 2; have hfz5_3 := blk_frozen BK101.out 3; have hfz5_4 := blk_frozen BK101.out 4; have hfz5_5 := blk_frozen BK101.out 5) | ((with_reducible refine gate_callee (f := 39) rfl ?_); refine goesL_ (some 12) rfl rfl Try.func39 (by kernel_rfl) rfl #[.int .i64 a1, .int .i64 (wrap64 (-a0_1)), .int .i64 (wrap64 (a0_0 - 1))] rfl (by (try simp only [List.map_toArray, List.map_cons, List.map_nil]); first | done | rfl | (simp only [List.length_drop, List.length_take]; rfl)) ?_; (with_reducible refine (spec_l1In.calls a1 (wrap64 (-a0_1)) (wrap64 (a0_0 - 1)) t102 _ A3.out).mono ?_); rintro e w' ⟨rfl, ⟨nd, rfl⟩⟩; refine ⟨_, rfl, ?_⟩))
  go_ret
  exact ⟨by first | rfl | (simp [errW_none, errW_some] <;> rfl) | (simp [*, errW_none, errW_some] <;> rfl), by repeat (first | (with_reducible first | exact HB.out | apply below_alloc | apply pw_below_drewN | apply below_drew1 | refine below_set ?_ GE101.out) | exact HB.out)⟩

end Go.Proofs.Ytiibhogpkhdfjaa.P

/-! Ha -/
/- slices.IndexFunc and slices.ContainsFunc over whole numbers at whatever predicate; the program's areSymbols and isWord. -/
namespace Go.Proofs.Ytiibhogpkhdfjaa.P
open Go.RowKit Go.Proofs.YtiibhogpkhdfjaaW.PrintWords Go.Proofs.YtiibhogpkhdfjaaW.PrintLast Go.Proofs.YtiibhogpkhdfjaaW.PrintMore
set_option linter.unusedVariables false
set_option linter.unusedSimpArgs false

/-- The place of the first element of which p holds, -1 where there is none. -/
def idxF {α : Type} (p : α → Bool) (l : List α) : Int := if l.any p = true then (l.findIdx p : Int) else -1
theorem idxF_hit {α : Type} (p : α → Bool) (l : List α) (d : α) (i : Nat) (hi : i < l.length) (h : p (l.getD i d) = true) (hb : ∀ j, j < i → p (l.getD j d) = false) : idxF p l = i := by
  have hg : ∀ j (hj : j < l.length), l.getD j d = l[j] := fun j hj => by rw [List.getD_eq_getElem?_getD, List.getElem?_eq_getElem hj]; rfl
  have hany : l.any p = true := List.any_eq_true.mpr ⟨l[i], List.getElem_mem hi, by rw [← hg i hi]; exact h⟩
  unfold idxF
  rw [if_pos hany]
  have : l.findIdx p = i := (List.findIdx_eq hi).mpr ⟨by rw [← hg i hi]; exact h, fun j hj => by rw [← hg j (by omega)]; exact hb j hj⟩
  rw [this]
theorem idxF_miss {α : Type} (p : α → Bool) (l : List α) (d : α) (hb : ∀ j, j < l.length → p (l.getD j d) = false) : idxF p l = -1 := by
  unfold idxF
  rw [if_neg]
  intro h
  obtain ⟨x, hx, hp⟩ := List.any_eq_true.mp h
  obtain ⟨j, hj, rfl⟩ := List.getElem_of_mem hx
  have := hb j hj
  rw [List.getD_eq_getElem?_getD, List.getElem?_eq_getElem hj] at this
  simp at this
  rw [this] at hp
  cases hp
theorem idxF_any {α : Type} (p : α → Bool) (l : List α) : decide (0 ≤ idxF p l) = l.any p := by
  unfold idxF
  cases h : l.any p <;> simp <;> omega

theorem drawn_below {w w' : World} (h : Drawn0 w w') : Below w.heap.size w w' := by
  obtain ⟨n, rfl⟩ := h
  exact pw_below_drewN (Below.refl _ _) n

/-- What is asked of a predicate over whole numbers. -/
def PredI (g : Nat) (lb : Array Value) (p : Int → Bool) (w : World) : Prop :=
  ∀ (W : World) (x : Int), Below w.heap.size w W → Calls Try.prog g (#[.int .i64 x] ++ lb) W fun e w' => e = .returned (.bool (p x)) ∧ Below W.heap.size W w'

set_option maxHeartbeats 2000000 in
set_option maxRecDepth 100000 in
theorem indexFunc_int (g : Nat) (lb : Array Value) (eg : ∀ args w, (callFunc g args).run Try.prog w = .ok (.enter g args) w) (p : Int → Bool) (A : Option Addr) (c : Nat) (l : List Int) (w : World)
    (hr : Kd.C (Kd.int .i64) w A l.length l) (hc : l.length ≤ c) (hp : PredI g lb p w) :
    Calls Try.prog 91 #[.slice A l.length c, .func (.func g) #[] lb] w fun e w' => e = .returned (.int .i64 (idxF p l)) ∧ Below w.heap.size w w' := by
  have hmax : l.length ≤ 9223372036854775807 := hr.2.1
  go_enter Try.func91, Try.ntmps91
  go_wp2
  go_loopg [5, 8] l.length (fun gg _ s8 wr => ∃ kk : Nat, kk ≤ l.length ∧ l.length - kk ≤ gg ∧ s8 = .int .i64 kk ∧ Aside0 (Below w.heap.size w wr) ∧ Aside0 (∀ j, j < kk → p (l.getD j 0) = false))
  case atStart => exact ⟨0, Nat.zero_le _, by omega, rfl, ⟨Below.refl _ w⟩, ⟨fun j hj => absurd hj (Nat.not_lt_zero _)⟩⟩
  case round =>
    obtain ⟨kk, hkk, hg, rfl, BW, A0⟩ := hrel
    by_cases hlt : kk < l.length
    · obtain ⟨ad, e, hx⟩ := Kd.at_int (Kd.C_below hr BW.out) (kk : Int) (by omega) (by omega)
      subst e
      have hx2 : wr.cell? (ad.add kk) = some (.int .i64 (rd l kk)) := by simpa using hx
      have hcall := hp wr (rd l kk) BW.out
      have hB := Aside0.mk (show l.getD kk 0 = rd l kk from rfl)
      have L := Aside0.mk hlt
      have hd : decide (kk < l.length) = true := decide_eq_true hlt
      clear hx hp hr
      generalize rd l kk = y at hcall hB hx2
      cases hq : p y with
      | true =>
        rw [hq] at hcall
        have Q := Aside0.mk hq
        clear hq
        go_wp2_with fail
        refine hcall.mono ?_
        rintro e w' ⟨rfl, hb'⟩
        clear hcall hd eg hlt
        go_wp2
        go_ret
        refine ⟨?_, below_step BW.out hb'⟩
        rw [idxF_hit p l 0 kk L.out (by rw [hB.out]; exact Q.out) A0.out]; rfl
      | false =>
        rw [hq] at hcall
        have Q := Aside0.mk hq
        clear hq
        go_wp2_with fail
        refine hcall.mono ?_
        rintro e w' ⟨rfl, hb'⟩
        clear hcall hd eg
        go_wp2
        go_roundg (l.length - (kk + 1))
        case measure => have := L.out; omega
        case rel =>
          refine ⟨kk + 1, by have := L.out; omega, by omega, by go_num, ⟨below_step BW.out hb'⟩, ⟨fun j hj => ?_⟩⟩
          by_cases ej : j = kk
          · subst ej
            rw [hB.out]; exact Q.out
          · exact A0.out j (by omega)
    · have hd : decide (kk < l.length) = false := decide_eq_false hlt
      have L := Aside0.mk (show kk = l.length by omega)
      clear hp hr hlt
      go_wp2
      go_ret
      refine ⟨?_, BW.out⟩
      rw [idxF_miss p l 0 (by have := A0.out; rw [L.out] at this; exact this)]; rfl

set_option maxHeartbeats 2000000 in
theorem containsFunc_int (g : Nat) (lb : Array Value) (eg : ∀ args w, (callFunc g args).run Try.prog w = .ok (.enter g args) w) (p : Int → Bool) (A : Option Addr) (c : Nat) (l : List Int) (w : World)
    (hr : Kd.C (Kd.int .i64) w A l.length l) (hc : l.length ≤ c) (hp : PredI g lb p w) :
    Calls Try.prog 71 #[.slice A l.length c, .func (.func g) #[] lb] w fun e w' => e = .returned (.bool (l.any p)) ∧ Below w.heap.size w w' := by
  have H := indexFunc_int g lb eg p A c l w hr hc hp
  have hz := Aside0.mk (idxF_any p l)
  generalize idxF p l = i at H hz
  go_enter Try.func71, Try.ntmps71
  go_wp2_with (go_at_call 91; refine H.mono ?_; rintro e w' ⟨rfl, hb'⟩)
  go_ret
  exact ⟨by rw [← hz.out]; rfl, hb'⟩

/-- Is a number a symbol? -/
def symB (nons toks x : Int) : Bool := decide (wrap64 (-toks) ≤ x ∧ x ≤ wrap64 (nons - 1))
theorem impl_in_eq (a b c : Int) : impl_in.f a b c = some (decide (b ≤ a ∧ a ≤ c)) := by
  unfold impl_in.f
  by_cases h : a ≥ b
  · rw [if_pos h]; congr 2; simp; omega
  · rw [if_neg h]; simp; omega
theorem impl_isSymbol_eq (x nons toks : Int) : impl_isSymbol.f x nons toks = some (symB nons toks x) := by
  unfold impl_isSymbol.f symB
  rw [impl_in_eq]; rfl

set_option maxHeartbeats 2000000 in
theorem pred_sym (nons toks : Int) (B C : Nat) (w : World) (hB : B < w.heap.size) (hC : C < w.heap.size) (hcB : w.cell? ⟨B, 0, none⟩ = some (.int .i64 nons)) (hcC : w.cell? ⟨C, 0, none⟩ = some (.int .i64 toks)) :
    PredI 88 #[.pointer (some ⟨B, 0, none⟩), .pointer (some ⟨C, 0, none⟩)] (fun x => !symB nons toks x) w := fun W x hb => by
  have h1 : W.cell? ⟨B, 0, none⟩ = some (.int .i64 nons) := (hb.cell (p := ⟨B, 0, none⟩) hB).trans hcB
  have h2 : W.cell? ⟨C, 0, none⟩ = some (.int .i64 toks) := (hb.cell (p := ⟨C, 0, none⟩) hC).trans hcC
  have hc := fun w => impl_isSymbol.calls x nons toks _ w (impl_isSymbol_eq x nons toks)
  clear hb hcB hcC
  show Calls Try.prog 88 #[.int .i64 x, .pointer (some ⟨B, 0, none⟩), .pointer (some ⟨C, 0, none⟩)] W fun e w' => e = .returned (.bool (!symB nons toks x)) ∧ Below W.heap.size W w'
  generalize symB nons toks x = b at hc ⊢
  go_enter Try.func88, Try.ntmps88
  go_wp2_with (go_at_call 89; refine (hc _).mono ?_; rintro e w' ⟨rfl, hd⟩)
  go_ret
  exact ⟨rfl, drawn_below hd⟩

def impl_areSymbols.f (l0 : List Int) (a1 a2 : Int) : Option Bool := some (!(l0.any fun x => !symB a1 a2 x))
set_option maxHeartbeats 2000000 in
theorem impl_areSymbols.calls (A0 : Option Addr) (c0 : Nat) (l0 : List Int) (a1 a2 : Int) (r : Bool) (w : World) (hr0 : Kd.C (Kd.int .i64) w A0 l0.length l0) (hc0 : l0.length ≤ c0) (h : impl_areSymbols.f l0 a1 a2 = some r) :
    Calls Try.prog 67 #[.slice A0 l0.length c0, .int .i64 a1, .int .i64 a2] w fun e w' => e = .returned (.bool r) ∧ Below w.heap.size w w' := by
  obtain rfl := Option.some.inj h
  clear h
  have eg : ∀ args w, (callFunc 88 args).run Try.prog w = .ok (.enter 88 args) w := enters_of Try.func88 (by kernel_rfl) rfl
  have H := Aside0.mk fun (W : World) (B C : Nat) (hW : Below w.heap.size w W) (hB : B < W.heap.size) (hC : C < W.heap.size) (hcB : W.cell? ⟨B, 0, none⟩ = some (.int .i64 a1)) (hcC : W.cell? ⟨C, 0, none⟩ = some (.int .i64 a2)) =>
    containsFunc_int _ #[.pointer (some ⟨B, 0, none⟩), .pointer (some ⟨C, 0, none⟩)] eg (fun x => !symB a1 a2 x) A0 c0 l0 W (Kd.C_below hr0 hW) hc0 (pred_sym a1 a2 B C W hB hC hcB hcC)
  clear hr0 hc0
  generalize (l0.any fun x => !symB a1 a2 x) = b at H ⊢
  go_enter Try.func67, Try.ntmps67
  go_wp2_with (go_at_call 71; refine (H.out _ _ _ (by repeat (first | exact Below.refl _ _ | apply below_alloc)) (by simp <;> omega) (by simp <;> omega) (by simp) (by simp)).mono ?_; rintro e w' ⟨rfl, hb'⟩)
  go_ret
  exact ⟨rfl, below_step (by repeat (first | exact Below.refl _ _ | apply below_alloc)) hb'⟩
end Go.Proofs.Ytiibhogpkhdfjaa.P

/-! Hv -/
/- slices.IndexFunc and slices.ContainsFunc over rows of numbers at whatever predicate. -/
namespace Go.Proofs.Ytiibhogpkhdfjaa.P
open Go.RowKit Go.Proofs.YtiibhogpkhdfjaaW.PrintWords Go.Proofs.YtiibhogpkhdfjaaW.PrintLast Go.Proofs.YtiibhogpkhdfjaaW.PrintMore
set_option linter.unusedVariables false
set_option linter.unusedSimpArgs false

/-- What is asked of a predicate over rows of numbers. -/
def PredL (g : Nat) (lb : Array Value) (p : List Int → Bool) (w : World) : Prop :=
  ∀ (W : World) (x : List Int) (A : Option Addr) (c : Nat), Below w.heap.size w W → x.length ≤ c → Kd.C (Kd.int .i64) W A x.length x →
    Calls Try.prog g (#[.slice A x.length c] ++ lb) W fun e w' => e = .returned (.bool (p x)) ∧ Below W.heap.size W w'

set_option maxHeartbeats 2000000 in
set_option maxRecDepth 100000 in
theorem indexFunc_row (g : Nat) (lb : Array Value) (eg : ∀ args w, (callFunc g args).run Try.prog w = .ok (.enter g args) w) (p : List Int → Bool) (A : Option Addr) (c : Nat) (l : List (List Int)) (w : World)
    (hr : Kd.C (Kd.slice 3 (Kd.int .i64)) w A l.length l) (hc : l.length ≤ c) (hp : PredL g lb p w) :
    Calls Try.prog 87 #[.slice A l.length c, .func (.func g) #[] lb] w fun e w' => e = .returned (.int .i64 (idxF p l)) ∧ Below w.heap.size w w' := by
  have hmax : l.length ≤ 9223372036854775807 := hr.2.1
  go_enter Try.func87, Try.ntmps87
  go_wp2
  go_loopg [5, 8] l.length (fun gg _ s8 wr => ∃ kk : Nat, kk ≤ l.length ∧ l.length - kk ≤ gg ∧ s8 = .int .i64 kk ∧ Aside0 (Below w.heap.size w wr) ∧ Aside0 (∀ j, j < kk → p (l.getD j []) = false))
  case atStart => exact ⟨0, Nat.zero_le _, by omega, rfl, ⟨Below.refl _ w⟩, ⟨fun j hj => absurd hj (Nat.not_lt_zero _)⟩⟩
  case round =>
    obtain ⟨kk, hkk, hg, rfl, BW, A0⟩ := hrel
    by_cases hlt : kk < l.length
    · obtain ⟨ad, A1, c1, e, hx0, hl1, hi1⟩ := at_L1 (Kd.C_below hr BW.out) (kk : Int) (by omega) (by omega)
      subst e
      have hx2 : wr.cell? (ad.add kk) = some (.slice A1 (rd_L1 l kk).length c1) := by simpa using hx0
      have hcall := hp wr (rd_L1 l kk) A1 c1 BW.out hl1 hi1
      have hB := Aside0.mk (show l.getD kk [] = rd_L1 l kk from rfl)
      have L := Aside0.mk hlt
      have hd : decide (kk < l.length) = true := decide_eq_true hlt
      clear hx0 hp hr hl1 hi1
      generalize rd_L1 l kk = y at hcall hB hx2
      cases hq : p y with
      | true =>
        rw [hq] at hcall
        have Q := Aside0.mk hq
        clear hq
        go_wp2_with fail
        refine hcall.mono ?_
        rintro e w' ⟨rfl, hb'⟩
        clear hcall hd eg hlt
        go_wp2
        go_ret
        refine ⟨?_, below_step BW.out hb'⟩
        rw [idxF_hit p l [] kk L.out (by rw [hB.out]; exact Q.out) A0.out]; rfl
      | false =>
        rw [hq] at hcall
        have Q := Aside0.mk hq
        clear hq
        go_wp2_with fail
        refine hcall.mono ?_
        rintro e w' ⟨rfl, hb'⟩
        clear hcall hd eg
        go_wp2
        go_roundg (l.length - (kk + 1))
        case measure => have := L.out; omega
        case rel =>
          refine ⟨kk + 1, by have := L.out; omega, by omega, by go_num, ⟨below_step BW.out hb'⟩, ⟨fun j hj => ?_⟩⟩
          by_cases ej : j = kk
          · subst ej
            rw [hB.out]; exact Q.out
          · exact A0.out j (by omega)
    · have hd : decide (kk < l.length) = false := decide_eq_false hlt
      have L := Aside0.mk (show kk = l.length by omega)
      clear hp hr hlt
      go_wp2
      go_ret
      refine ⟨?_, BW.out⟩
      rw [idxF_miss p l [] (by have := A0.out; rw [L.out] at this; exact this)]; rfl

set_option maxHeartbeats 2000000 in
theorem containsFunc_row (g : Nat) (lb : Array Value) (eg : ∀ args w, (callFunc g args).run Try.prog w = .ok (.enter g args) w) (p : List Int → Bool) (A : Option Addr) (c : Nat) (l : List (List Int)) (w : World)
    (hr : Kd.C (Kd.slice 3 (Kd.int .i64)) w A l.length l) (hc : l.length ≤ c) (hp : PredL g lb p w) :
    Calls Try.prog 65 #[.slice A l.length c, .func (.func g) #[] lb] w fun e w' => e = .returned (.bool (l.any p)) ∧ Below w.heap.size w w' := by
  have H := indexFunc_row g lb eg p A c l w hr hc hp
  have hz := Aside0.mk (idxF_any p l)
  generalize idxF p l = i at H hz
  go_enter Try.func65, Try.ntmps65
  go_wp2_with (go_at_call 87; refine H.mono ?_; rintro e w' ⟨rfl, hb'⟩)
  go_ret
  exact ⟨by rw [← hz.out]; rfl, hb'⟩
end Go.Proofs.Ytiibhogpkhdfjaa.P

/-! Lat -/
/- A region that draws its order, whose operations only read and whose callees may make memory of their own: walked once, in the order of the text, in worlds in which all that lay at its begin lies unturned. -/
namespace Go.Proofs.Ytiibhogpkhdfjaa.P
open Go.RowKit Go.Proofs.YtiibhogpkhdfjaaW.PrintWords Go.Proofs.YtiibhogpkhdfjaaW.PrintLast Go.Proofs.YtiibhogpkhdfjaaW.PrintMore
set_option linter.unusedVariables false
set_option linter.unusedSimpArgs false

/-- A world in which all that lay in w lies unturned. -/
structure Later (w : World) where
  v : World
  below : Below w.heap.size w v

instance (w : World) : Inhabited (Later w) := ⟨⟨w, Below.refl _ w⟩⟩

theorem wp_region_later {P : Program} {id : Nat} {Q : Exit → Act → World → Prop} {a : Act} {w : World} {l : List Oper} (hm : P.follows .mixedOrders = true) (hB : Region.lexB .any l.toArray = true)
    (h : wpQuiet P l.toArray (fun w' => ∃ p : Later w, w' = p.v) (fun a' => ∀ w', (∃ p : Later w, w' = p.v) → Q .normal a' w') l a) : (Code.region id l.toArray true).wp P Q a w :=
  wp_region_quiet (C := fun w' => ∃ p : Later w, w' = p.v) hm hB ⟨⟨w.drew, (Below.refl _ w).drew⟩, rfl⟩ (by simpa using h)

theorem Later.call {P : Program} {f : FuncId} {args : Array Value} {w : World} {p : Later w} {v : Value}
    (h : Calls P f args p.v fun e w' => e = .returned v ∧ Below p.v.heap.size p.v w') : Calls P f args p.v fun e w'' => e = .returned v ∧ ∃ p' : Later w, w'' = p'.v :=
  h.mono fun e w' ⟨he, hb⟩ => ⟨he, ⟨w', p.below.trans (hb.mono p.below.size)⟩, rfl⟩
theorem Later.callD {P : Program} {f : FuncId} {args : Array Value} {w : World} {p : Later w} {v : Value}
    (h : Calls P f args p.v fun e w' => e = .returned v ∧ Drawn0 p.v w') : Calls P f args p.v fun e w'' => e = .returned v ∧ ∃ p' : Later w, w'' = p'.v :=
  Later.call (h.mono fun e w' ⟨he, n, hn⟩ => ⟨he, by subst hn; exact pw_below_drewN (Below.refl _ _) n⟩)

/-- A cell of w, in every such world. -/
theorem Later.cell {w : World} {a : Addr} {v : Value} (h : w.cell? a = some v) (p : Later w) : p.v.cell? a = some v := (p.below.cell (World.block_lt_of_cell? w _ h)).trans h
end Go.Proofs.Ytiibhogpkhdfjaa.P

/-! Map -/
/- A map of slices that the call makes out of two entries and ranges over: its laws at the operations. -/
namespace Go.Proofs.Ytiibhogpkhdfjaa.P
open Go.RowKit Go.Proofs.YtiibhogpkhdfjaaW.PrintWords Go.Proofs.YtiibhogpkhdfjaaW.PrintLast Go.Proofs.YtiibhogpkhdfjaaW.PrintMore
open Go.Maps (Keyed)
set_option linter.unusedVariables false
set_option linter.unusedSimpArgs false

/-- Each element reads as itself. -/
def asIs (v : Value) : Option (DataW Value × List MemPlace) := some (.held v, [])

section
variable {P : Program} {w : World} {ops : Array Oper} {rest : List Oper} {o : Oper} {a : Act} {Q : Exit → Act → World → Prop}
theorem made_event (hg : o.guard = none) (t k : TypeId) (hop : o.op = Op.makeMap t none)
    (hK : ∀ b, b = w.heap.size → ∀ w', w'.ownsMap P k asIs b 0 (.map []) → w.grownBy w' none → wpList P ops Q rest (a.put o.dst (.map (some b))) w') : wpList P ops Q (o :: rest) a w := by
  refine wpList_plain hg fun K' hK' => ?_
  have hmm := @run_makeMap P
  unfold Oper.wp
  simp [execOp, hop, hmm, Result.andThen]
  exact hK' _ _ (hK _ rfl _ (World.ownsMap_made w P k asIs) (World.grownBy_alloc w _ none))
theorem insert_event (hg : o.guard = none) (m x v : Operand) (t : TypeId) (hop : o.op = Op.insert t m x v)
    (k e : TypeId) (K : Keyed P k) (ht : P.underlying t = some (.map k e)) (b n : Nat) (D : DataW Value)
    (hm : a.eval m = .map (some b)) (hown : w.ownsMap P k asIs b n D) (hn : n < maxLen) (key val : Value) (kl : Lit) (hx : a.eval x = key) (hv : a.eval v = val) (hkey : keyOf P k key = some kl)
    (hK : ∀ w', w'.ownsMap P k asIs b (n + 1) (D.put kl (.held val)) → w.grownBy w' (some b) → wpList P ops Q rest (a.put o.dst undef) w') :
    wpList P ops Q (o :: rest) a w := by
  refine wpList_plain hg fun K' hK' => ?_
  obtain ⟨w', hrun, r1, r2⟩ := hown.update K ht hn hkey (val := val) (d := .held val) (ps := []) rfl
  unfold Oper.wp
  simp [execOp, hop, hm, hx, hv, hrun, Result.andThen]
  exact hK' _ _ (hK w' r1 r2)
end

/-- Two entries: key 3 and key 2. -/
def two (v3 v2 : Value) : DataW Value := ((DataW.map []).put (.int .i64 3) (.held v3)).put (.int .i64 2) (.held v2)
theorem two_map0 : Maps.IsMap (DataW.map [] : DataW Value) := ⟨[], rfl⟩
theorem two_keys (v3 v2 : Value) (kl : Lit) (h : Maps.has (two v3 v2) kl = true) : kl = .int .i64 3 ∨ kl = .int .i64 2 := by
  by_cases h2 : kl = .int .i64 2
  · exact .inr h2
  · by_cases h3 : kl = .int .i64 3
    · exact .inl h3
    · unfold two at h
      rw [Maps.has_put_other h2, Maps.has_put_other h3] at h
      cases h
theorem two_at3 (v3 v2 : Value) (z : DataW Value) : (two v3 v2).atKey (.int .i64 3) z = .held v3 := by
  unfold two
  rw [Maps.atKey_put_other (fun h => by cases h), Maps.atKey_put_same (k := .int .i64 3) two_map0 trivial]
theorem two_at2 (v3 v2 : Value) (z : DataW Value) : (two v3 v2).atKey (.int .i64 2) z = .held v2 := by
  exact Maps.atKey_put_same (k := .int .i64 2) ⟨_, rfl⟩ trivial _ _
/-- What is known of a world grown from one in which a block lay. -/
theorem blk_grown {w w' : World} {row : Option Nat} {g : Nat} {o : Obj} (h : w.heap[g]? = some o) (hg : w.grownBy w' row) (hne : row ≠ some g) : w'.heap[g]? = some o := by
  have hlt : g < w.heap.size := blk_lt h
  rw [hg.block g hlt (fun e => hne e.symm)]; exact h
theorem grown_of_below {w w' : World} (h : Below w.heap.size w w') : w.grownBy w' none := ⟨h.os, h.tape, h.output, h.size, fun i hi _ => h.block i hi⟩
theorem below_of_grown {w w' : World} (h : w.grownBy w' none) : Below w.heap.size w w' := (Below.refl _ w).grown h (Nat.le_refl _) (fun k hk => by cases hk)
end Go.Proofs.Ytiibhogpkhdfjaa.P

/-! Pe -/
/- Plain lists: how rows of numbers compare; which rows rise; what a good binary grammar is. -/
namespace Go.Proofs.Ytiibhogpkhdfjaa.P
open Go.RowKit Go.Proofs.YtiibhogpkhdfjaaW.PrintWords
set_option linter.unusedVariables false
set_option linter.unusedSimpArgs false

/-- Which of two rows comes first: -1, 0 or 1. -/
def cmpL : List Int → List Int → Int
  | [], [] => 0
  | [], _ :: _ => -1
  | _ :: _, [] => 1
  | a :: l, b :: m => if a < b then -1 else if b < a then 1 else cmpL l m
theorem cmpInt_eq (a b : Int) : cmp_Compare_int.f a b = some (if a < b then -1 else if b < a then 1 else 0) := by
  unfold cmp_Compare_int.f cmp_isNaN_int.f
  simp only [Option.bind_some, bne_self_eq_false, Bool.false_eq_true, if_false]
  by_cases h1 : a < b
  · simp [h1]
  · by_cases h2 : b < a
    · simp [h1, h2]
    · simp [h1, h2]
theorem compare_loop (a b : List Int) (hb : a.length ≤ 9223372036854775807) (d : Nat) : ∀ (k i : Nat), i ≤ a.length → i ≤ b.length → a.length - i = d → d < k →
    slices_Compare_int_int.l0 k a b a a.length i = some (cmpL (a.drop i) (b.drop i)) := by
  induction d with
  | zero =>
    intro k i h1 h2 hd hk
    obtain ⟨k, rfl⟩ : ∃ m, k = m + 1 := ⟨k - 1, by omega⟩
    simp only [slices_Compare_int_int.l0]
    rw [if_neg (by omega), List.drop_of_length_le (show a.length ≤ i by omega)]
    by_cases hl : a.length < b.length
    · rw [if_pos (by omega), getD_drop b i 0 (by omega)]; rfl
    · rw [if_neg (by omega), List.drop_of_length_le (show b.length ≤ i by omega)]; rfl
  | succ d ih =>
    intro k i h1 h2 hd hk
    obtain ⟨k, rfl⟩ : ∃ m, k = m + 1 := ⟨k - 1, by omega⟩
    simp only [slices_Compare_int_int.l0]
    rw [if_pos (by omega), if_pos (by omega), if_pos (by omega)]
    have ea : a.drop i = rd a i :: a.drop (i + 1) := getD_drop a i 0 (by omega)
    by_cases hl : i < b.length
    · have eb : b.drop i = rd b i :: b.drop (i + 1) := getD_drop b i 0 (by omega)
      rw [if_neg (by omega), if_pos (by omega), cmpInt_eq, ea, eb]
      simp only [Option.bind_some, cmpL]
      by_cases h3 : rd a i < rd b i
      · rw [if_pos h3, if_pos h3, if_neg (by decide)]
      · by_cases h4 : rd b i < rd a i
        · rw [if_neg h3, if_pos h4, if_neg h3, if_pos h4, if_neg (by decide)]
        · rw [if_neg h3, if_neg h4, if_neg h3, if_neg h4, if_pos rfl, show wrap64 ((i : Int) + 1) = ((i + 1 : Nat) : Int) by unfold wrap64; omega]
          exact ih k (i + 1) (by omega) (by omega) (by omega) (by omega)
    · rw [if_pos (by omega), ea, List.drop_of_length_le (show b.length ≤ i by omega)]; rfl
theorem compare_eq (a b : List Int) (hb : a.length ≤ 9223372036854775807) (k : Nat) (hk : a.length < k) : slices_Compare_int_int.f k a b = some (cmpL a b) := by
  unfold slices_Compare_int_int.f
  have := compare_loop a b hb a.length k 0 (by omega) (by omega) (by omega) hk
  simpa using this

/-- Numbers that rise, within bounds (p: the one ahead of them, if there is one). -/
def riseF (lo hi : Int) : Option Int → List Int → Bool
  | _, [] => true
  | p, x :: l => decide (lo ≤ x ∧ x ≤ hi) && ((match p with | none => true | some y => decide (y < x)) && riseF lo hi (some x) l)
def prevI (l : List Int) : Nat → Option Int
  | 0 => none
  | i + 1 => some (rd l i)
theorem areRising_loop (l : List Int) (n : Int) (hb : l.length ≤ 9223372036854775807) (d : Nat) : ∀ (k i : Nat), i ≤ l.length → l.length - i = d → d < k →
    impl_areRising.l0 k l n l l.length i = some (riseF 0 (wrap64 (n - 1)) (prevI l i) (l.drop i)) := by
  induction d with
  | zero =>
    intro k i h1 hd hk
    obtain ⟨k, rfl⟩ : ∃ m, k = m + 1 := ⟨k - 1, by omega⟩
    simp only [impl_areRising.l0]
    rw [if_neg (by omega), List.drop_of_length_le (show l.length ≤ i by omega)]
    cases i <;> rfl
  | succ d ih =>
    intro k i h1 hd hk
    obtain ⟨k, rfl⟩ : ∃ m, k = m + 1 := ⟨k - 1, by omega⟩
    have hi := ih k (i + 1) (by omega) (by omega) (by omega)
    simp only [impl_areRising.l0]
    rw [if_pos (by omega), if_pos (by omega), if_pos (by omega), impl_in_eq, getD_drop l i 0 (by omega)]
    simp only [Option.bind_some]
    have e0 : l.getD i 0 = rd l i := rfl
    rw [e0]
    have ew : wrap64 ((i : Int) + 1) = ((i + 1 : Nat) : Int) := by unfold wrap64; omega
    have er : ∀ p m, riseF 0 (wrap64 (n - 1)) p (rd l i :: m) = (decide (0 ≤ rd l i ∧ rd l i ≤ wrap64 (n - 1)) && ((match p with | none => true | some y => decide (y < rd l i)) && riseF 0 (wrap64 (n - 1)) (some (rd l i)) m)) := fun _ _ => rfl
    rw [er]
    by_cases h : 0 ≤ rd l i ∧ rd l i ≤ wrap64 (n - 1)
    · rw [if_pos (decide_eq_true h), decide_eq_true h, Bool.true_and]
      cases i with
      | zero => rw [if_neg (by simp), ew, hi]; rfl
      | succ i =>
        have e1 : wrap64 (((i + 1 : Nat) : Int) - 1) = (i : Int) := by unfold wrap64; omega
        rw [if_pos (by omega), e1, if_pos (by omega), if_pos (by omega)]
        show _ = some (decide (rd l i < rd l ((i + 1 : Nat) : Int)) && _)
        by_cases h2 : rd l i < rd l ((i + 1 : Nat) : Int)
        · rw [if_neg (by omega), ew, hi, decide_eq_true h2]; rfl
        · rw [if_pos (by omega), decide_eq_false h2]; rfl
    · rw [if_neg (by rw [decide_eq_false h]; exact Bool.false_ne_true), decide_eq_false h, Bool.false_and]
theorem areRising_eq (l : List Int) (n : Int) (hb : l.length ≤ 9223372036854775807) (k : Nat) (hk : l.length < k) : impl_areRising.f k l n = some (riseF 0 (wrap64 (n - 1)) none l) := by
  unfold impl_areRising.f
  have := areRising_loop l n hb l.length k 0 (by omega) (by omega) hk
  simpa [prevI] using this

/-- One row of so many symbols, the first a nonterminal. -/
def rowOk (nons toks many : Int) (x : List Int) : Bool := decide ((x.length : Int) = many) && (decide (0 ≤ rd x 0 ∧ rd x 0 ≤ wrap64 (nons - 1)) && !((x.drop 1).any fun y => !symB nons toks y))
/-- Rows of so many symbols, rising (p: the one ahead of them). -/
def listsF (nons toks many : Int) : Option (List Int) → List (List Int) → Bool
  | _, [] => true
  | p, x :: l => rowOk nons toks many x && ((match p with | none => true | some y => decide (cmpL y x < 0)) && listsF nons toks many (some x) l)
def prevL (l : List (List Int)) : Nat → Option (List Int)
  | 0 => none
  | i + 1 => some (l.getD i [])
/-- A good binary grammar. -/
def goodB (nons toks : Int) (ps os : List (List Int)) (es : List Int) (fs : List (List Int)) : Bool :=
  decide (1 ≤ nons ∧ nons ≤ 40) && (decide (1 ≤ toks ∧ toks ≤ 4) && (riseF 0 (wrap64 (nons - 1)) none es && (decide ((fs.length : Int) ≤ nons) && (!(fs.any fun f => (f.length : Int) != 2) && (listsF nons toks 3 none ps && listsF nons toks 2 none os)))))
end Go.Proofs.Ytiibhogpkhdfjaa.P

/-! Hbin -/
/- The program's isBinary: what it answers, and that it answers it. -/
namespace Go.Proofs.Ytiibhogpkhdfjaa.P
open Go.RowKit Go.Proofs.YtiibhogpkhdfjaaW.PrintWords Go.Proofs.YtiibhogpkhdfjaaW.PrintLast Go.Proofs.YtiibhogpkhdfjaaW.PrintMore
set_option linter.unusedVariables false
set_option linter.unusedSimpArgs false

theorem listsF_no (nons toks many : Int) (l : List (List Int)) (i : Nat) (h : listsF nons toks many none l = listsF nons toks many (prevL l i) (l.drop i)) (q : listsF nons toks many (prevL l i) (l.drop i) = false) : listsF nons toks many none l = false := h.trans q

set_option maxHeartbeats 2000000 in
theorem pred_two (w : World) : PredL 66 #[] (fun f => (f.length : Int) != 2) w := fun W x A c hb hc hr => by
  show Calls Try.prog 66 #[.slice A x.length c] W fun e w' => e = .returned (.bool ((x.length : Int) != 2)) ∧ Below W.heap.size W w'
  clear hb hr
  generalize x.length = n at hc
  go_enter Try.func66, Try.ntmps66
  go_wp2
  go_ret
  exact ⟨rfl, Below.refl _ _⟩

def impl_isBinary.f (a0_0 a0_1 : Int) (l0_2 l0_3 : List (List Int)) (l0_4 : List Int) (l0_5 : List (List Int)) : Option Bool := some (goodB a0_0 a0_1 l0_2 l0_3 l0_4 l0_5)

set_option maxHeartbeats 4000000 in
set_option maxRecDepth 100000 in
theorem impl_isBinary.calls (a0_0 a0_1 : Int) (A0_2 : Option Addr) (c0_2 : Nat) (l0_2 : List (List Int)) (A0_3 : Option Addr) (c0_3 : Nat) (l0_3 : List (List Int)) (A0_4 : Option Addr) (c0_4 : Nat) (l0_4 : List Int) (A0_5 : Option Addr) (c0_5 : Nat) (l0_5 : List (List Int)) (r : Bool) (w : World)
    (hr0_2 : Kd.C (Kd.slice 3 (Kd.int .i64)) w A0_2 l0_2.length l0_2) (hc0_2 : l0_2.length ≤ c0_2) (hr0_3 : Kd.C (Kd.slice 3 (Kd.int .i64)) w A0_3 l0_3.length l0_3) (hc0_3 : l0_3.length ≤ c0_3) (hr0_4 : Kd.C (Kd.int .i64) w A0_4 l0_4.length l0_4) (hc0_4 : l0_4.length ≤ c0_4) (hr0_5 : Kd.C (Kd.slice 3 (Kd.int .i64)) w A0_5 l0_5.length l0_5) (hc0_5 : l0_5.length ≤ c0_5)
    (h : impl_isBinary.f a0_0 a0_1 l0_2 l0_3 l0_4 l0_5 = some r) :
    Calls Try.prog 44 #[.agg #[.int .i64 a0_0, .int .i64 a0_1, .slice A0_2 l0_2.length c0_2, .slice A0_3 l0_3.length c0_3, .slice A0_4 l0_4.length c0_4, .slice A0_5 l0_5.length c0_5]] w fun e w' => e = .returned (.bool r) ∧ Below w.heap.size w w' := by
  have hu := Try.underlying28
  obtain rfl := Option.some.inj h
  clear h
  have hm4 : l0_4.length ≤ 9223372036854775807 := hr0_4.2.1
  have hm5 : l0_5.length ≤ 9223372036854775807 := hr0_5.2.1
  have hrise := Aside0.mk (areRising_eq l0_4 a0_0 hm4 (l0_4.length + 1) (by omega))
  have eg : ∀ args w, (callFunc 66 args).run Try.prog w = .ok (.enter 66 args) w := enters_of Try.func66 (by kernel_rfl) rfl
  have HB := Aside0.mk (Below.refl w.heap.size w)
  by_cases h1 : 1 ≤ a0_0 ∧ a0_0 ≤ 40
  · have I0 := Aside0.mk (show impl_in.f a0_0 1 40 = some true by rw [impl_in_eq, decide_eq_true h1])
    have H1 := Aside0.mk h1
    by_cases h2 : 1 ≤ a0_1 ∧ a0_1 ≤ 4
    · have I1 := Aside0.mk (show impl_in.f a0_1 1 4 = some true by rw [impl_in_eq, decide_eq_true h2])
      have H2 := Aside0.mk h2
      clear h2
      cases h3 : riseF 0 (wrap64 (a0_0 - 1)) none l0_4 with
      | true =>
        have I2 := Aside0.mk (show impl_areRising.f (l0_4.length + 1) l0_4 a0_0 = some true by rw [hrise.out, h3])
        have H3 := Aside0.mk h3
        clear h3 hrise
        by_cases h4 : (l0_5.length : Int) ≤ a0_0
        · have d4 : decide (a0_0 < (l0_5.length : Int)) = false := decide_eq_false (by omega)
          have H4 := Aside0.mk h4
          clear h1 h4
          have CF := fun (W : World) (hW : Below w.heap.size w W) => containsFunc_row 66 #[] eg (fun f => (f.length : Int) != 2) A0_5 c0_5 l0_5 W (Kd.C_below hr0_5 hW) hc0_5 (pred_two W)
          clear hr0_5 eg
          cases h5 : l0_5.any fun f => (f.length : Int) != 2 with
          | true =>
            rw [h5] at CF
            have J := Aside0.mk (show goodB a0_0 a0_1 l0_2 l0_3 l0_4 l0_5 = false by unfold goodB; rw [h5]; simp)
            clear h5 hr0_2 hr0_3
            go_enter Try.func44, Try.ntmps44
            go_wp2_with (first | ((with_reducible refine gate_dst (N := 1) rfl ?_); refine box_event ?hg (N := 1) ?hd (cs := #[.int .i64 a0_0, .int .i64 a0_1, .slice A0_2 l0_2.length c0_2, .slice A0_3 l0_3.length c0_3, .slice A0_4 l0_4.length c0_4, .slice A0_5 l0_5.length c0_5]) (t := 28) ?hr ?_; (case hd => rfl); (case hg => rfl); (case hr => first | (go_simp; done) | (go_simp; rfl)); intro gb hg w1 hbox hb; have n0_ := Aside0.mk (below_step HB.out hb); have n1_ := Aside0.mk hbox; clear HB; have HB := n0_; have BK := n1_; have GE := Aside0.mk (show w.heap.size ≤ gb by rw [hg]; omega); clear n0_ n1_ hb hbox hg; have hx0 : w1.cell? ⟨gb, 0, none⟩ = some (.int .i64 a0_0) := (blk_cell BK.out 0).trans rfl; have hx1 : w1.cell? ⟨gb, 1, none⟩ = some (.int .i64 a0_1) := (blk_cell BK.out 1).trans rfl; have hx2 : w1.cell? ⟨gb, 2, none⟩ = some (.slice A0_2 l0_2.length c0_2) := (blk_cell BK.out 2).trans rfl; have hx3 : w1.cell? ⟨gb, 3, none⟩ = some (.slice A0_3 l0_3.length c0_3) := (blk_cell BK.out 3).trans rfl; have hx4 : w1.cell? ⟨gb, 4, none⟩ = some (.slice A0_4 l0_4.length c0_4) := (blk_cell BK.out 4).trans rfl; have hx5 : w1.cell? ⟨gb, 5, none⟩ = some (.slice A0_5 l0_5.length c0_5) := (blk_cell BK.out 5).trans rfl) | (go_at_call 46; (with_reducible refine (impl_in.calls a0_0 1 40 true _ I0.out).mono ?_); rintro e w' ⟨rfl, ⟨nd, rfl⟩⟩) | (go_at_call 46; (with_reducible refine (impl_in.calls a0_1 1 4 true _ I1.out).mono ?_); rintro e w' ⟨rfl, ⟨nd, rfl⟩⟩) | (go_at_call 64; (with_reducible refine (impl_areRising.calls (l0_4.length + 1) A0_4 c0_4 l0_4 a0_0 true _ (Kd.C_below hr0_4 (by repeat (first | (with_reducible first | exact HB.out | apply below_alloc | apply pw_below_drewN | apply below_drew1) | exact HB.out))) hc0_4 I2.out).mono ?_); rintro e w' ⟨rfl, ⟨nd, rfl⟩⟩) | (go_at_call 65; refine (CF _ (by repeat (first | (with_reducible first | exact HB.out | apply below_alloc | apply pw_below_drewN | apply below_drew1) | exact HB.out))).mono ?_; rintro e w2 ⟨rfl, hb'⟩; have n0_ := Aside0.mk (below_step (by repeat (first | (with_reducible first | exact HB.out | apply below_alloc | apply pw_below_drewN | apply below_drew1) | exact HB.out)) hb'); have n1_ := Aside0.mk (blk_below (by (with_reducible repeat (first | refine blk_drewN ?_ _ | refine blk_drew ?_ | refine blk_alloc ?_ _)); exact BK.out) hb'); clear HB BK hb' hx0 hx1 hx2 hx3 hx4 hx5; have HB := n0_; have BK := n1_; clear n0_ n1_; have hx0 : w2.cell? ⟨gb, 0, none⟩ = some (.int .i64 a0_0) := (blk_cell BK.out 0).trans rfl; have hx1 : w2.cell? ⟨gb, 1, none⟩ = some (.int .i64 a0_1) := (blk_cell BK.out 1).trans rfl; have hx2 : w2.cell? ⟨gb, 2, none⟩ = some (.slice A0_2 l0_2.length c0_2) := (blk_cell BK.out 2).trans rfl; have hx3 : w2.cell? ⟨gb, 3, none⟩ = some (.slice A0_3 l0_3.length c0_3) := (blk_cell BK.out 3).trans rfl; have hx4 : w2.cell? ⟨gb, 4, none⟩ = some (.slice A0_4 l0_4.length c0_4) := (blk_cell BK.out 4).trans rfl; have hx5 : w2.cell? ⟨gb, 5, none⟩ = some (.slice A0_5 l0_5.length c0_5) := (blk_cell BK.out 5).trans rfl))
            go_ret
            exact ⟨by rw [J.out]; rfl, (by repeat (first | (with_reducible first | exact HB.out | apply below_alloc | apply pw_below_drewN | apply below_drew1) | exact HB.out))⟩
          | false =>
            rw [h5] at CF
            have GB := Aside0.mk (show goodB a0_0 a0_1 l0_2 l0_3 l0_4 l0_5 = (listsF a0_0 a0_1 3 none l0_2 && listsF a0_0 a0_1 2 none l0_3) by unfold goodB; rw [h5, H3.out, decide_eq_true H1.out, decide_eq_true H2.out, decide_eq_true H4.out]; rfl)
            clear h5
            have HR2 := Aside0.mk hr0_2
            have HR3 := Aside0.mk hr0_3
            have HC2 := Aside0.mk hc0_2
            have HC3 := Aside0.mk hc0_3
            have hm2 : l0_2.length ≤ 9223372036854775807 := hr0_2.2.1
            have hm3 : l0_3.length ≤ 9223372036854775807 := hr0_3.2.1
            clear hr0_2 hr0_3 hc0_2 hc0_3
            go_enter Try.func44, Try.ntmps44
            go_upto_region 3 with (first | ((with_reducible refine gate_dst (N := 1) rfl ?_); refine box_event ?hg (N := 1) ?hd (cs := #[.int .i64 a0_0, .int .i64 a0_1, .slice A0_2 l0_2.length c0_2, .slice A0_3 l0_3.length c0_3, .slice A0_4 l0_4.length c0_4, .slice A0_5 l0_5.length c0_5]) (t := 28) ?hr ?_; (case hd => rfl); (case hg => rfl); (case hr => first | (go_simp; done) | (go_simp; rfl)); intro gb hg w1 hbox hb; have n0_ := Aside0.mk (below_step HB.out hb); have n1_ := Aside0.mk hbox; clear HB; have HB := n0_; have BK := n1_; have GE := Aside0.mk (show w.heap.size ≤ gb by rw [hg]; omega); clear n0_ n1_ hb hbox hg; have hx0 : w1.cell? ⟨gb, 0, none⟩ = some (.int .i64 a0_0) := (blk_cell BK.out 0).trans rfl; have hx1 : w1.cell? ⟨gb, 1, none⟩ = some (.int .i64 a0_1) := (blk_cell BK.out 1).trans rfl; have hx2 : w1.cell? ⟨gb, 2, none⟩ = some (.slice A0_2 l0_2.length c0_2) := (blk_cell BK.out 2).trans rfl; have hx3 : w1.cell? ⟨gb, 3, none⟩ = some (.slice A0_3 l0_3.length c0_3) := (blk_cell BK.out 3).trans rfl; have hx4 : w1.cell? ⟨gb, 4, none⟩ = some (.slice A0_4 l0_4.length c0_4) := (blk_cell BK.out 4).trans rfl; have hx5 : w1.cell? ⟨gb, 5, none⟩ = some (.slice A0_5 l0_5.length c0_5) := (blk_cell BK.out 5).trans rfl) | (go_at_call 46; (with_reducible refine (impl_in.calls a0_0 1 40 true _ I0.out).mono ?_); rintro e w' ⟨rfl, ⟨nd, rfl⟩⟩) | (go_at_call 46; (with_reducible refine (impl_in.calls a0_1 1 4 true _ I1.out).mono ?_); rintro e w' ⟨rfl, ⟨nd, rfl⟩⟩) | (go_at_call 64; (with_reducible refine (impl_areRising.calls (l0_4.length + 1) A0_4 c0_4 l0_4 a0_0 true _ (Kd.C_below hr0_4 (by repeat (first | (with_reducible first | exact HB.out | apply below_alloc | apply pw_below_drewN | apply below_drew1) | exact HB.out))) hc0_4 I2.out).mono ?_); rintro e w' ⟨rfl, ⟨nd, rfl⟩⟩) | (go_at_call 65; refine (CF _ (by repeat (first | (with_reducible first | exact HB.out | apply below_alloc | apply pw_below_drewN | apply below_drew1) | exact HB.out))).mono ?_; rintro e w2 ⟨rfl, hb'⟩; have n0_ := Aside0.mk (below_step (by repeat (first | (with_reducible first | exact HB.out | apply below_alloc | apply pw_below_drewN | apply below_drew1) | exact HB.out)) hb'); have n1_ := Aside0.mk (blk_below (by (with_reducible repeat (first | refine blk_drewN ?_ _ | refine blk_drew ?_ | refine blk_alloc ?_ _)); exact BK.out) hb'); clear HB BK hb' hx0 hx1 hx2 hx3 hx4 hx5; have HB := n0_; have BK := n1_; clear n0_ n1_; have hx0 : w2.cell? ⟨gb, 0, none⟩ = some (.int .i64 a0_0) := (blk_cell BK.out 0).trans rfl; have hx1 : w2.cell? ⟨gb, 1, none⟩ = some (.int .i64 a0_1) := (blk_cell BK.out 1).trans rfl; have hx2 : w2.cell? ⟨gb, 2, none⟩ = some (.slice A0_2 l0_2.length c0_2) := (blk_cell BK.out 2).trans rfl; have hx3 : w2.cell? ⟨gb, 3, none⟩ = some (.slice A0_3 l0_3.length c0_3) := (blk_cell BK.out 3).trans rfl; have hx4 : w2.cell? ⟨gb, 4, none⟩ = some (.slice A0_4 l0_4.length c0_4) := (blk_cell BK.out 4).trans rfl; have hx5 : w2.cell? ⟨gb, 5, none⟩ = some (.slice A0_5 l0_5.length c0_5) := (blk_cell BK.out 5).trans rfl))
            clear CF d4
            have tok0 : True := trivial
            go_wp2_with (first | (have _t := tok0; (with_reducible refine made_event rfl 81 3 rfl ?_); intro bm hbm w3 hown hgr; clear tok0; have NE := Aside0.mk (show bm ≠ gb by rw [hbm]; exact Nat.ne_of_gt (blk_lt BK.out)); have GM := Aside0.mk (show w.heap.size ≤ bm by rw [hbm]; exact below_size HB.out); have n0_ := Aside0.mk (blk_grown BK.out hgr (by intro h_; cases h_)); have n1_ := Aside0.mk (HB.out.grown hgr (below_size HB.out) (fun k hk => by cases hk)); clear BK HB hgr hbm hx0 hx1 hx2 hx3 hx4 hx5; have BK := n0_; have HB := n1_; clear n0_ n1_; have OW := Aside0.mk hown; clear hown; have tok1 : True := trivial; have hx0 : w3.cell? ⟨gb, 0, none⟩ = some (.int .i64 a0_0) := (blk_cell BK.out 0).trans rfl; have hx1 : w3.cell? ⟨gb, 1, none⟩ = some (.int .i64 a0_1) := (blk_cell BK.out 1).trans rfl; have hx2 : w3.cell? ⟨gb, 2, none⟩ = some (.slice A0_2 l0_2.length c0_2) := (blk_cell BK.out 2).trans rfl; have hx3 : w3.cell? ⟨gb, 3, none⟩ = some (.slice A0_3 l0_3.length c0_3) := (blk_cell BK.out 3).trans rfl; have hx4 : w3.cell? ⟨gb, 4, none⟩ = some (.slice A0_4 l0_4.length c0_4) := (blk_cell BK.out 4).trans rfl; have hx5 : w3.cell? ⟨gb, 5, none⟩ = some (.slice A0_5 l0_5.length c0_5) := (blk_cell BK.out 5).trans rfl) | (have _t := tok1; (with_reducible refine insert_event rfl _ _ _ 81 rfl 3 22 (Go.Maps.int_keyed Try.underlying3) Try.underlying81 bm 0 (.map []) rfl OW.out ?hn (.int .i64 3) (.slice A0_2 l0_2.length c0_2) (.int .i64 3) rfl rfl ?hk ?_); (case hn => decide); (case hk => exact Go.Maps.keyOf_int_mk Try.underlying3 (by decide)); intro w4 hown hgr; clear tok1 OW; have n0_ := Aside0.mk (blk_grown BK.out hgr (fun h_ => NE.out (Option.some.inj h_))); have n1_ := Aside0.mk (HB.out.grown hgr (below_size HB.out) (fun k hk => by cases hk; exact GM.out)); clear BK HB hgr hx0 hx1 hx2 hx3 hx4 hx5; have BK := n0_; have HB := n1_; clear n0_ n1_; have OW := Aside0.mk hown; clear hown; have tok2 : True := trivial; have hx0 : w4.cell? ⟨gb, 0, none⟩ = some (.int .i64 a0_0) := (blk_cell BK.out 0).trans rfl; have hx1 : w4.cell? ⟨gb, 1, none⟩ = some (.int .i64 a0_1) := (blk_cell BK.out 1).trans rfl; have hx2 : w4.cell? ⟨gb, 2, none⟩ = some (.slice A0_2 l0_2.length c0_2) := (blk_cell BK.out 2).trans rfl; have hx3 : w4.cell? ⟨gb, 3, none⟩ = some (.slice A0_3 l0_3.length c0_3) := (blk_cell BK.out 3).trans rfl; have hx4 : w4.cell? ⟨gb, 4, none⟩ = some (.slice A0_4 l0_4.length c0_4) := (blk_cell BK.out 4).trans rfl; have hx5 : w4.cell? ⟨gb, 5, none⟩ = some (.slice A0_5 l0_5.length c0_5) := (blk_cell BK.out 5).trans rfl) | (have _t := tok2; (with_reducible refine insert_event rfl _ _ _ 81 rfl 3 22 (Go.Maps.int_keyed Try.underlying3) Try.underlying81 bm 1 ((DataW.map []).put (.int .i64 3) (.held (.slice A0_2 l0_2.length c0_2))) rfl OW.out ?hn (.int .i64 2) (.slice A0_3 l0_3.length c0_3) (.int .i64 2) rfl rfl ?hk ?_); (case hn => decide); (case hk => exact Go.Maps.keyOf_int_mk Try.underlying3 (by decide)); intro w5 hown hgr; clear tok2 OW; have n0_ := Aside0.mk (blk_grown BK.out hgr (fun h_ => NE.out (Option.some.inj h_))); have n1_ := Aside0.mk (HB.out.grown hgr (below_size HB.out) (fun k hk => by cases hk; exact GM.out)); clear BK HB hgr hx0 hx1 hx2 hx3 hx4 hx5; have BK := n0_; have HB := n1_; clear n0_ n1_; have OW := Aside0.mk hown; clear hown; have tok3 : True := trivial; have hx0 : w5.cell? ⟨gb, 0, none⟩ = some (.int .i64 a0_0) := (blk_cell BK.out 0).trans rfl; have hx1 : w5.cell? ⟨gb, 1, none⟩ = some (.int .i64 a0_1) := (blk_cell BK.out 1).trans rfl; have hx2 : w5.cell? ⟨gb, 2, none⟩ = some (.slice A0_2 l0_2.length c0_2) := (blk_cell BK.out 2).trans rfl; have hx3 : w5.cell? ⟨gb, 3, none⟩ = some (.slice A0_3 l0_3.length c0_3) := (blk_cell BK.out 3).trans rfl; have hx4 : w5.cell? ⟨gb, 4, none⟩ = some (.slice A0_4 l0_4.length c0_4) := (blk_cell BK.out 4).trans rfl; have hx5 : w5.cell? ⟨gb, 5, none⟩ = some (.slice A0_5 l0_5.length c0_5) := (blk_cell BK.out 5).trans rfl) | (have _t := tok3; at_range; refine wpList_range_own _ rfl _ 81 rfl 3 22 (Go.Maps.int_keyed Try.underlying3) Try.underlying81 asIs bm 2 (two (.slice A0_2 l0_2.length c0_2) (.slice A0_3 l0_3.length c0_3)) rfl OW.out ?_; intro w6 hrg0 hg0 hs0; clear tok3) | go_in)
            go_frame
            have NR := Aside0.mk (show w5.heap.size ≠ gb from Nat.ne_of_gt (blk_lt BK.out))
            have n0_ := Aside0.mk (blk_grown BK.out hg0 (by intro h_; cases h_))
            have n1_ := Aside0.mk (HB.out.grown hg0 (below_size HB.out) (fun k hk => by cases hk))
            have GR := Aside0.mk (below_size HB.out)
            clear BK HB hg0 hs0 OW hx0 hx1 hx2 hx3 hx4 hx5
            have BK := n0_
            have HB := n1_
            clear n0_ n1_
            generalize w5.heap.size = rr at hrg0 NR GR
            go_loopg [45] 2 (fun gg _ wr => ∃ (left : Lit → Bool) (cnt : Nat), wr.ranges Try.prog 3 asIs bm rr 2 (two (.slice A0_2 l0_2.length c0_2) (.slice A0_3 l0_3.length c0_3)) left cnt ∧ cnt ≤ gg ∧ Aside0 (∀ kl, left kl = true → kl = .int .i64 3 ∨ kl = .int .i64 2) ∧ Aside0 (left (.int .i64 3) = false → listsF a0_0 a0_1 3 none l0_2 = true) ∧ Aside0 (left (.int .i64 2) = false → listsF a0_0 a0_1 2 none l0_3 = true) ∧ Aside0 (wr.heap[gb]? = some (.cells #[.int .i64 a0_0, .int .i64 a0_1, .slice A0_2 l0_2.length c0_2, .slice A0_3 l0_3.length c0_3, .slice A0_4 l0_4.length c0_4, .slice A0_5 l0_5.length c0_5] 28 (0, 0))) ∧ Aside0 (Below w.heap.size w wr))
            case atStart => exact ⟨_, _, hrg0, by have := hrg0.owns.size_le; simpa using this, ⟨fun kl h => two_keys _ _ kl h⟩, ⟨fun h => by cases h⟩, ⟨fun h => by cases h⟩, BK, HB⟩
            case round =>
              clear hrg0 BK HB
              obtain ⟨left, cnt, hrg, hcnt, SUB, D3, D2, BK, HB⟩ := hrel
              have HRG := Aside0.mk hrg
              clear hrg
              go_wp2_with (first | (at_next; refine wpList_next_ranges _ rfl _ rfl 3 (Go.Maps.int_keyed Try.underlying3) asIs (Value.int .i64) (fun v_ : Value => v_) ?hik ?hiv bm rr 2 (two (.slice A0_2 l0_2.length c0_2) (.slice A0_3 l0_3.length c0_3)) left cnt rfl HRG.out ?_ ?_) | go_in)
              case hik => exact fun key kl hk => by obtain ⟨x, h, _⟩ := Go.Maps.keyOf_int_inv Try.underlying3 hk; exact ⟨x, h⟩
              case hiv => exact fun v y _ => ⟨v, rfl⟩
              · intro hc0 hl0
                have E3 := Aside0.mk (D3.out (hl0 _))
                have E2 := Aside0.mk (D2.out (hl0 _))
                clear hl0
                go_wp2
                go_ret
                exact ⟨by rw [GB.out, E3.out, E2.out]; rfl, HB.out⟩
              · intro x c kl ya yb w1 cnt1 hkey hlk hv hat hrg1 hlt hg1 hs1 hen
                obtain ⟨x', ex', ekl, hwx⟩ := Go.Maps.keyOf_int_inv Try.underlying3 hkey
                cases ex'
                have hyc : ya = .held c := (congrArg Prod.fst (Option.some.inj hv)).symm
                have hat2 := hat (.held c)
                rw [hyc] at hat2
                have key : ∃ (A : Option Addr) (cl : Nat) (l : List (List Int)), c = .slice A l.length cl ∧ Kd.C (Kd.slice 3 (Kd.int .i64)) w A l.length l ∧ l.length ≤ cl ∧ (listsF a0_0 a0_1 x none l = false → goodB a0_0 a0_1 l0_2 l0_3 l0_4 l0_5 = false) ∧ (listsF a0_0 a0_1 x none l = true → ((left (.int .i64 3) && !(Lit.int .i64 3).sameKey kl) = false → listsF a0_0 a0_1 3 none l0_2 = true) ∧ ((left (.int .i64 2) && !(Lit.int .i64 2).sameKey kl) = false → listsF a0_0 a0_1 2 none l0_3 = true)) := by
                  rcases SUB.out kl hlk with h_ | h_
                  · rw [h_] at ekl hat2 ⊢
                    rw [two_at3] at hat2
                    injection ekl with _ ex
                    injection hat2 with hc_
                    refine ⟨A0_2, c0_2, l0_2, hc_.symm, HR2.out, HC2.out, fun h => by rw [GB.out]; rw [← ex] at h; rw [h, Bool.false_and], fun h => ⟨fun _ => by rw [ex]; exact h, fun h2 => D2.out (by simpa [Lit.sameKey] using h2)⟩⟩
                  · rw [h_] at ekl hat2 ⊢
                    rw [two_at2] at hat2
                    injection ekl with _ ex
                    injection hat2 with hc_
                    refine ⟨A0_3, c0_3, l0_3, hc_.symm, HR3.out, HC3.out, fun h => by rw [GB.out]; rw [← ex] at h; rw [h, Bool.and_false], fun h => ⟨fun h2 => D3.out (by simpa [Lit.sameKey] using h2), fun _ => by rw [ex]; exact h⟩⟩
                obtain ⟨A, cl, l, hc, hrl, hcl, hno, hyes⟩ := key
                subst hc
                have NO := Aside0.mk hno
                have YES := Aside0.mk hyes
                have HRL := Aside0.mk hrl
                have HRG1 := Aside0.mk hrg1
                have SUB1 := Aside0.mk (show ∀ z, (left z && !z.sameKey kl) = true → z = .int .i64 3 ∨ z = .int .i64 2 from fun z hz => SUB.out z (by rw [Bool.and_eq_true] at hz; exact hz.1))
                have SUBX := Aside0.mk (show x = 3 ∨ x = 2 by rcases SUB.out kl hlk with h_ | h_ <;> (rw [h_] at ekl; injection ekl with _ ex; omega))
                have hml : l.length ≤ 9223372036854775807 := hrl.2.1
                have n0_ := Aside0.mk (blk_grown BK.out hg1 (fun h_ => NR.out (Option.some.inj h_)))
                have n1_ := Aside0.mk (HB.out.grown hg1 (below_size HB.out) (fun k hk => by cases hk; exact GR.out))
                clear hno hyes hrl hrg1 SUB D3 D2 HRG hkey hlk hv hat hat2 hyc hwx hg1 hs1 BK HB ekl
                have BK := n0_
                have HB := n1_
                clear n0_ n1_
                go_wp2
                go_loopg [52] l.length (fun gg s52 wr => ∃ kk : Nat, kk ≤ l.length ∧ l.length - kk ≤ gg ∧ s52 = .int .i64 kk ∧ Aside0 (listsF a0_0 a0_1 x none l = listsF a0_0 a0_1 x (prevL l kk) (l.drop kk)) ∧ Aside0 (wr.heap[gb]? = some (.cells #[.int .i64 a0_0, .int .i64 a0_1, .slice A0_2 l0_2.length c0_2, .slice A0_3 l0_3.length c0_3, .slice A0_4 l0_4.length c0_4, .slice A0_5 l0_5.length c0_5] 28 (0, 0))) ∧ Aside0 (Below w1.heap.size w1 wr) ∧ Aside0 (Below w.heap.size w wr))
                case atStart => exact ⟨0, Nat.zero_le _, by omega, rfl, ⟨rfl⟩, BK, ⟨Below.refl _ _⟩, HB⟩
                case round =>
                  clear BK HB hen
                  obtain ⟨kk, hkk, hg, rfl, R, BK, B1, HB⟩ := hrel
                  by_cases hlt : kk < l.length
                  · have hd : decide (kk < l.length) = true := decide_eq_true hlt
                    obtain ⟨ad, A1, c1, e, hx0, hl1, hi1⟩ := at_L1 HRL.out (kk : Int) (by omega) (by omega)
                    subst e
                    have hx1 : wr.cell? (ad.add kk) = some (.slice A1 (rd_L1 l kk).length c1) := (HB.out.cell (World.block_lt_of_cell? w _ (by simpa using hx0))).trans (by simpa using hx0)
                    have OKD := Aside0.mk (show listsF a0_0 a0_1 x (prevL l kk) (l.drop kk) = (rowOk a0_0 a0_1 x (rd_L1 l kk) && ((match prevL l kk with | none => true | some z => decide (cmpL z (rd_L1 l kk) < 0)) && listsF a0_0 a0_1 x (prevL l (kk + 1)) (l.drop (kk + 1)))) by rw [getD_drop l kk [] hlt]; cases kk <;> rfl)
                    have HI := Aside0.mk (Kd.C_below hi1 HB.out)
                    have HL := Aside0.mk hl1
                    have hmy : (rd_L1 l kk).length ≤ 9223372036854775807 := hi1.2.1
                    have L := Aside0.mk hlt
                    have PRV := Aside0.mk (show ∀ m, kk = m + 1 → prevL l kk = some (rd_L1 l m) from fun m hm => by rw [hm]; rfl)
                    clear hx0 hi1 hl1
                    generalize rd_L1 l kk = y at hx1 OKD HI HL hmy
                    go_upto_region 9 with fail
                    have q0 := Later.cell (w := wr) (a := ⟨gb, 0, none⟩) (v := .int .i64 a0_0) ((blk_cell BK.out 0).trans rfl)
                    have q1 := Later.cell (w := wr) (a := ⟨gb, 1, none⟩) (v := .int .i64 a0_1) ((blk_cell BK.out 1).trans rfl)
                    clear hx1
                    by_cases h1 : (y.length : Int) = x
                    · have e1 : ((y.length : Int) != x) = false := by rw [h1]; simp
                      have hpos : 0 < y.length := by rcases SUBX.out with h_ | h_ <;> omega
                      obtain ⟨ay, e, hy0⟩ := Kd.at_int HI.out 0 (by omega) (by omega)
                      subst e
                      rw [show ((0 : Int)).toNat = 0 from rfl, Addr.add_zero'] at hy0
                      have q2 := Later.cell hy0
                      have hlp : (0 < y.length) = True := eq_true hpos
                      clear hy0
                      have H1x := Aside0.mk h1
                      clear h1
                      by_cases h2 : 0 ≤ rd y 0 ∧ rd y 0 ≤ wrap64 (a0_0 - 1)
                      · have J1 := Aside0.mk (show impl_in.f (rd y 0) 0 (wrap64 (a0_0 - 1)) = some true by rw [impl_in_eq, decide_eq_true h2])
                        have H2x := Aside0.mk h2
                        clear h2
                        obtain ⟨i0, hi0, _, hsz0, _⟩ := info_parts info3
                        have hcut0 := cut_from (P := Try.prog) 23 3 .i64 Try.underlying23 hi0 1 hsz0 (some ay) y.length c1 1 (by omega) (by omega)
                        have HI90 := Kd.C_drop (m := 1) HI.out (by omega) HL.out
                        obtain ⟨A9, hA9⟩ : ∃ A9 : Option Addr, A9 = (if c1 = 1 then some ay else (some ay).map (·.add (1 * 1))) := ⟨_, rfl⟩
                        have hcut : ∀ W : World, (Instr.slice 23 (.slice (some ay) y.length c1) (some (.int .i64 1)) none none).run Try.prog W = .ok (.slice A9 (y.length - 1) (c1 - 1)) W := fun W => by rw [hcut0 W, hA9]; rfl
                        have HI9 := Aside0.mk (show Kd.C (Kd.int .i64) wr A9 (y.drop 1).length (y.drop 1) by rw [hA9]; exact HI90)
                        have HL9 := Aside0.mk (show (y.drop 1).length ≤ c1 - 1 by rw [List.length_drop]; have := HL.out; omega)
                        clear hcut0 HI90 hA9 hi0 hsz0
                        cases h3 : (y.drop 1).any fun x => !symB a0_0 a0_1 x with
                        | true =>
                          have J3 := Aside0.mk (show impl_areSymbols.f (y.drop 1) a0_0 a0_1 = some false by unfold impl_areSymbols.f; rw [h3]; rfl)
                          have SY := fun (W : World) (hW : Below wr.heap.size wr W) => impl_areSymbols.calls A9 (c1 - 1) (y.drop 1) a0_0 a0_1 false W (Kd.C_below HI9.out hW) HL9.out J3.out
                          rw [List.length_drop] at SY
                          have W3 := Aside0.mk (show rowOk a0_0 a0_1 x y = false by unfold rowOk; rw [h3]; simp)
                          clear h3
                          refine wp_region_later (by kernel_rfl) (by kernel_rfl) ?_
                          repeat (go_big_quiet_step (first | (go_at_call 46; with_reducible exact Later.callD (impl_in.calls (rd y 0) 0 (wrap64 (a0_0 - 1)) true _ J1.out)) | (go_at_call 67; with_reducible exact Later.call (SY _ (Later.below _)))))
                          refine wpQuiet_nil ?_
                          intro w4_ hw4
                          obtain ⟨⟨w4, hb4⟩, hw4⟩ := hw4
                          subst hw4
                          (try dsimp only)
                          have B4 := Aside0.mk hb4
                          clear hb4
                          have J4 := Aside0.mk (NO.out (by rw [R.out, OKD.out]; rw [W3.out, Bool.false_and]))
                          clear q0 q1 hd
                          go_wp2
                          go_ret
                          exact ⟨by rw [J4.out]; rfl, below_step HB.out B4.out⟩
                        | false =>
                          have J3 := Aside0.mk (show impl_areSymbols.f (y.drop 1) a0_0 a0_1 = some true by unfold impl_areSymbols.f; rw [h3]; rfl)
                          have SY := fun (W : World) (hW : Below wr.heap.size wr W) => impl_areSymbols.calls A9 (c1 - 1) (y.drop 1) a0_0 a0_1 true W (Kd.C_below HI9.out hW) HL9.out J3.out
                          rw [List.length_drop] at SY
                          have W3 := Aside0.mk (show rowOk a0_0 a0_1 x y = true by unfold rowOk; rw [h3, decide_eq_true H1x.out, decide_eq_true H2x.out]; rfl)
                          clear h3
                          cases kk with
                          | zero =>
                            refine wp_region_later (by kernel_rfl) (by kernel_rfl) ?_
                            repeat (go_big_quiet_step (first | (go_at_call 46; with_reducible exact Later.callD (impl_in.calls (rd y 0) 0 (wrap64 (a0_0 - 1)) true _ J1.out)) | (go_at_call 67; with_reducible exact Later.call (SY _ (Later.below _)))))
                            refine wpQuiet_nil ?_
                            intro w4_ hw4
                            obtain ⟨⟨w4, hb4⟩, hw4⟩ := hw4
                            subst hw4
                            (try dsimp only)
                            have B4 := Aside0.mk hb4
                            clear hb4
                            have J5 := Aside0.mk (show listsF a0_0 a0_1 x none l = listsF a0_0 a0_1 x (prevL l (0 + 1)) (l.drop (0 + 1)) by rw [R.out, OKD.out]; rw [W3.out]; rfl)
                            clear q0 q1 hd
                            go_wp2
                            go_roundg (l.length - (0 + 1))
                            case measure => have := L.out; omega
                            case rel => exact ⟨0 + 1, by have := L.out; omega, by omega, by go_num, J5, ⟨blk_below BK.out B4.out⟩, ⟨below_step B1.out B4.out⟩, ⟨below_step HB.out B4.out⟩⟩
                          | succ m =>
                            obtain ⟨ad2, A8, c8, e, hz0, hl8, hi8⟩ := at_L1 HRL.out (m : Int) (by omega) (by omega)
                            cases e
                            have q3 := Later.cell (w := wr) (a := ad.add m) (v := .slice A8 (rd_L1 l m).length c8) ((HB.out.cell (World.block_lt_of_cell? w _ (by simpa using hz0))).trans (by simpa using hz0))
                            have HZ := Aside0.mk (Kd.C_below hi8 HB.out)
                            have HZL := Aside0.mk hl8
                            have hmz := Aside0.mk hi8.2.1
                            have PV2 := Aside0.mk (PRV.out m rfl)
                            rw [PV2.out] at OKD
                            clear hz0 hl8 hi8 PRV
                            generalize rd_L1 l m = z at q3 HZ HZL hmz OKD PV2
                            have OK2 := Aside0.mk (show listsF a0_0 a0_1 x (some z) (l.drop (m + 1)) = (rowOk a0_0 a0_1 x y && (decide (cmpL z y < 0) && listsF a0_0 a0_1 x (prevL l (m + 1 + 1)) (l.drop (m + 1 + 1)))) from OKD.out)
                            clear OKD
                            have OKD := OK2
                            clear OK2
                            have J6 := Aside0.mk (compare_eq z y hmz.out (z.length + 1) (by omega))
                            by_cases h4 : cmpL z y < 0
                            · have e4 : decide (0 ≤ cmpL z y) = false := decide_eq_false (by omega)
                              have W4 := Aside0.mk (decide_eq_true h4)
                              clear h4
                              generalize cmpL z y = cz at J6 e4 W4 OKD
                              have CM := fun (W : World) (hW : Below wr.heap.size wr W) => slices_Compare_int_int.calls (z.length + 1) A8 c8 z (some ay) c1 y cz W (Kd.C_below HZ.out hW) HZL.out (Kd.C_below HI.out hW) HL.out J6.out
                              refine wp_region_later (by kernel_rfl) (by kernel_rfl) ?_
                              repeat (go_big_quiet_step (first | (go_at_call 46; with_reducible exact Later.callD (impl_in.calls (rd y 0) 0 (wrap64 (a0_0 - 1)) true _ J1.out)) | (go_at_call 67; with_reducible exact Later.call (SY _ (Later.below _))) | (go_at_call 68; with_reducible exact Later.callD (CM _ (Later.below _)))))
                              refine wpQuiet_nil ?_
                              intro w4_ hw4
                              obtain ⟨⟨w4, hb4⟩, hw4⟩ := hw4
                              subst hw4
                              (try dsimp only)
                              have B4 := Aside0.mk hb4
                              clear hb4
                              have J5 := Aside0.mk (show listsF a0_0 a0_1 x none l = listsF a0_0 a0_1 x (prevL l (m + 1 + 1)) (l.drop (m + 1 + 1)) by rw [R.out, PV2.out, OKD.out]; rw [W3.out, W4.out]; rfl)
                              clear q0 q1 hd
                              go_wp2
                              go_roundg (l.length - (m + 1 + 1))
                              case measure => have := L.out; omega
                              case rel => exact ⟨m + 1 + 1, by have := L.out; omega, by omega, by go_num, J5, ⟨blk_below BK.out B4.out⟩, ⟨below_step B1.out B4.out⟩, ⟨below_step HB.out B4.out⟩⟩
                            · have e4 : decide (0 ≤ cmpL z y) = true := decide_eq_true (by omega)
                              have W4 := Aside0.mk (decide_eq_false h4)
                              clear h4
                              generalize cmpL z y = cz at J6 e4 W4 OKD
                              have CM := fun (W : World) (hW : Below wr.heap.size wr W) => slices_Compare_int_int.calls (z.length + 1) A8 c8 z (some ay) c1 y cz W (Kd.C_below HZ.out hW) HZL.out (Kd.C_below HI.out hW) HL.out J6.out
                              refine wp_region_later (by kernel_rfl) (by kernel_rfl) ?_
                              repeat (go_big_quiet_step (first | (go_at_call 46; with_reducible exact Later.callD (impl_in.calls (rd y 0) 0 (wrap64 (a0_0 - 1)) true _ J1.out)) | (go_at_call 67; with_reducible exact Later.call (SY _ (Later.below _))) | (go_at_call 68; with_reducible exact Later.callD (CM _ (Later.below _)))))
                              refine wpQuiet_nil ?_
                              intro w4_ hw4
                              obtain ⟨⟨w4, hb4⟩, hw4⟩ := hw4
                              subst hw4
                              (try dsimp only)
                              have B4 := Aside0.mk hb4
                              clear hb4
                              have J4 := Aside0.mk (NO.out (by rw [R.out, PV2.out, OKD.out]; rw [W4.out, Bool.false_and, Bool.and_false]))
                              clear q0 q1 hd
                              go_wp2
                              go_ret
                              exact ⟨by rw [J4.out]; rfl, below_step HB.out B4.out⟩
                      · have J1 := Aside0.mk (show impl_in.f (rd y 0) 0 (wrap64 (a0_0 - 1)) = some false by rw [impl_in_eq, decide_eq_false h2])
                        have W3 := Aside0.mk (show rowOk a0_0 a0_1 x y = false by unfold rowOk; rw [decide_eq_false h2]; simp)
                        clear h2
                        refine wp_region_later (by kernel_rfl) (by kernel_rfl) ?_
                        repeat (go_big_quiet_step (first | (go_at_call 46; with_reducible exact Later.callD (impl_in.calls (rd y 0) 0 (wrap64 (a0_0 - 1)) false _ J1.out))))
                        refine wpQuiet_nil ?_
                        intro w4_ hw4
                        obtain ⟨⟨w4, hb4⟩, hw4⟩ := hw4
                        subst hw4
                        (try dsimp only)
                        have B4 := Aside0.mk hb4
                        clear hb4
                        have J4 := Aside0.mk (NO.out (by rw [R.out, OKD.out]; rw [W3.out, Bool.false_and]))
                        clear q0 q1 hd
                        go_wp2
                        go_ret
                        exact ⟨by rw [J4.out]; rfl, below_step HB.out B4.out⟩
                    · have e1 : ((y.length : Int) != x) = true := by simpa using h1
                      have W3 := Aside0.mk (show rowOk a0_0 a0_1 x y = false by unfold rowOk; rw [decide_eq_false h1]; simp)
                      clear h1
                      refine wp_region_later (by kernel_rfl) (by kernel_rfl) ?_
                      repeat (go_big_quiet_step (fail))
                      refine wpQuiet_nil ?_
                      intro w4_ hw4
                      obtain ⟨⟨w4, hb4⟩, hw4⟩ := hw4
                      subst hw4
                      (try dsimp only)
                      have B4 := Aside0.mk hb4
                      clear hb4
                      have J4 := Aside0.mk (NO.out (by rw [R.out, OKD.out]; rw [W3.out, Bool.false_and]))
                      clear q0 q1 hd
                      go_wp2
                      go_ret
                      exact ⟨by rw [J4.out]; rfl, below_step HB.out B4.out⟩
                  · have hd : decide (kk < l.length) = false := decide_eq_false hlt
                    have FIN := Aside0.mk (YES.out (by rw [R.out, List.drop_of_length_le (by omega)]; cases kk <;> rfl))
                    clear hlt
                    go_wp2
                    go_roundg cnt1
                    case measure => omega
                    case rel => exact ⟨_, cnt1, HRG1.out.kept (grown_of_below B1.out) (by simp) (by simp), Nat.le_refl _, SUB1, ⟨FIN.out.1⟩, ⟨FIN.out.2⟩, BK, HB⟩
        · have d4 : decide (a0_0 < (l0_5.length : Int)) = true := decide_eq_true (by omega)
          have J := Aside0.mk (show goodB a0_0 a0_1 l0_2 l0_3 l0_4 l0_5 = false by unfold goodB; rw [decide_eq_false h4]; simp)
          (try clear hr0_2 hr0_3 hrise eg)
          go_enter Try.func44, Try.ntmps44
          go_wp2_with (first | ((with_reducible refine gate_dst (N := 1) rfl ?_); refine box_event ?hg (N := 1) ?hd (cs := #[.int .i64 a0_0, .int .i64 a0_1, .slice A0_2 l0_2.length c0_2, .slice A0_3 l0_3.length c0_3, .slice A0_4 l0_4.length c0_4, .slice A0_5 l0_5.length c0_5]) (t := 28) ?hr ?_; (case hd => rfl); (case hg => rfl); (case hr => first | (go_simp; done) | (go_simp; rfl)); intro gb hg w1 hbox hb; have n0_ := Aside0.mk (below_step HB.out hb); have n1_ := Aside0.mk hbox; clear HB; have HB := n0_; have BK := n1_; have GE := Aside0.mk (show w.heap.size ≤ gb by rw [hg]; omega); clear n0_ n1_ hb hbox hg; have hx0 : w1.cell? ⟨gb, 0, none⟩ = some (.int .i64 a0_0) := (blk_cell BK.out 0).trans rfl; have hx1 : w1.cell? ⟨gb, 1, none⟩ = some (.int .i64 a0_1) := (blk_cell BK.out 1).trans rfl; have hx2 : w1.cell? ⟨gb, 2, none⟩ = some (.slice A0_2 l0_2.length c0_2) := (blk_cell BK.out 2).trans rfl; have hx3 : w1.cell? ⟨gb, 3, none⟩ = some (.slice A0_3 l0_3.length c0_3) := (blk_cell BK.out 3).trans rfl; have hx4 : w1.cell? ⟨gb, 4, none⟩ = some (.slice A0_4 l0_4.length c0_4) := (blk_cell BK.out 4).trans rfl; have hx5 : w1.cell? ⟨gb, 5, none⟩ = some (.slice A0_5 l0_5.length c0_5) := (blk_cell BK.out 5).trans rfl) | (go_at_call 46; (with_reducible refine (impl_in.calls a0_0 1 40 true _ I0.out).mono ?_); rintro e w' ⟨rfl, ⟨nd, rfl⟩⟩) | (go_at_call 46; (with_reducible refine (impl_in.calls a0_1 1 4 true _ I1.out).mono ?_); rintro e w' ⟨rfl, ⟨nd, rfl⟩⟩) | (go_at_call 64; (with_reducible refine (impl_areRising.calls (l0_4.length + 1) A0_4 c0_4 l0_4 a0_0 true _ (Kd.C_below hr0_4 (by repeat (first | (with_reducible first | exact HB.out | apply below_alloc | apply pw_below_drewN | apply below_drew1) | exact HB.out))) hc0_4 I2.out).mono ?_); rintro e w' ⟨rfl, ⟨nd, rfl⟩⟩))
          go_ret
          exact ⟨by rw [J.out]; rfl, (by repeat (first | (with_reducible first | exact HB.out | apply below_alloc | apply pw_below_drewN | apply below_drew1) | exact HB.out))⟩
      | false =>
        have I2 := Aside0.mk (show impl_areRising.f (l0_4.length + 1) l0_4 a0_0 = some false by rw [hrise.out, h3])
        have J := Aside0.mk (show goodB a0_0 a0_1 l0_2 l0_3 l0_4 l0_5 = false by unfold goodB; rw [h3]; simp)
        (try clear hr0_2 hr0_3 hrise eg)
        go_enter Try.func44, Try.ntmps44
        go_wp2_with (first | ((with_reducible refine gate_dst (N := 1) rfl ?_); refine box_event ?hg (N := 1) ?hd (cs := #[.int .i64 a0_0, .int .i64 a0_1, .slice A0_2 l0_2.length c0_2, .slice A0_3 l0_3.length c0_3, .slice A0_4 l0_4.length c0_4, .slice A0_5 l0_5.length c0_5]) (t := 28) ?hr ?_; (case hd => rfl); (case hg => rfl); (case hr => first | (go_simp; done) | (go_simp; rfl)); intro gb hg w1 hbox hb; have n0_ := Aside0.mk (below_step HB.out hb); have n1_ := Aside0.mk hbox; clear HB; have HB := n0_; have BK := n1_; have GE := Aside0.mk (show w.heap.size ≤ gb by rw [hg]; omega); clear n0_ n1_ hb hbox hg; have hx0 : w1.cell? ⟨gb, 0, none⟩ = some (.int .i64 a0_0) := (blk_cell BK.out 0).trans rfl; have hx1 : w1.cell? ⟨gb, 1, none⟩ = some (.int .i64 a0_1) := (blk_cell BK.out 1).trans rfl; have hx2 : w1.cell? ⟨gb, 2, none⟩ = some (.slice A0_2 l0_2.length c0_2) := (blk_cell BK.out 2).trans rfl; have hx3 : w1.cell? ⟨gb, 3, none⟩ = some (.slice A0_3 l0_3.length c0_3) := (blk_cell BK.out 3).trans rfl; have hx4 : w1.cell? ⟨gb, 4, none⟩ = some (.slice A0_4 l0_4.length c0_4) := (blk_cell BK.out 4).trans rfl; have hx5 : w1.cell? ⟨gb, 5, none⟩ = some (.slice A0_5 l0_5.length c0_5) := (blk_cell BK.out 5).trans rfl) | (go_at_call 46; (with_reducible refine (impl_in.calls a0_0 1 40 true _ I0.out).mono ?_); rintro e w' ⟨rfl, ⟨nd, rfl⟩⟩) | (go_at_call 46; (with_reducible refine (impl_in.calls a0_1 1 4 true _ I1.out).mono ?_); rintro e w' ⟨rfl, ⟨nd, rfl⟩⟩) | (go_at_call 64; (with_reducible refine (impl_areRising.calls (l0_4.length + 1) A0_4 c0_4 l0_4 a0_0 false _ (Kd.C_below hr0_4 (by repeat (first | (with_reducible first | exact HB.out | apply below_alloc | apply pw_below_drewN | apply below_drew1) | exact HB.out))) hc0_4 I2.out).mono ?_); rintro e w' ⟨rfl, ⟨nd, rfl⟩⟩))
        go_ret
        exact ⟨by rw [J.out]; rfl, (by repeat (first | (with_reducible first | exact HB.out | apply below_alloc | apply pw_below_drewN | apply below_drew1) | exact HB.out))⟩
    · have I1 := Aside0.mk (show impl_in.f a0_1 1 4 = some false by rw [impl_in_eq, decide_eq_false h2])
      have J := Aside0.mk (show goodB a0_0 a0_1 l0_2 l0_3 l0_4 l0_5 = false by unfold goodB; rw [decide_eq_false h2]; simp)
      (try clear hr0_2 hr0_3 hrise eg)
      go_enter Try.func44, Try.ntmps44
      go_wp2_with (first | ((with_reducible refine gate_dst (N := 1) rfl ?_); refine box_event ?hg (N := 1) ?hd (cs := #[.int .i64 a0_0, .int .i64 a0_1, .slice A0_2 l0_2.length c0_2, .slice A0_3 l0_3.length c0_3, .slice A0_4 l0_4.length c0_4, .slice A0_5 l0_5.length c0_5]) (t := 28) ?hr ?_; (case hd => rfl); (case hg => rfl); (case hr => first | (go_simp; done) | (go_simp; rfl)); intro gb hg w1 hbox hb; have n0_ := Aside0.mk (below_step HB.out hb); have n1_ := Aside0.mk hbox; clear HB; have HB := n0_; have BK := n1_; have GE := Aside0.mk (show w.heap.size ≤ gb by rw [hg]; omega); clear n0_ n1_ hb hbox hg; have hx0 : w1.cell? ⟨gb, 0, none⟩ = some (.int .i64 a0_0) := (blk_cell BK.out 0).trans rfl; have hx1 : w1.cell? ⟨gb, 1, none⟩ = some (.int .i64 a0_1) := (blk_cell BK.out 1).trans rfl; have hx2 : w1.cell? ⟨gb, 2, none⟩ = some (.slice A0_2 l0_2.length c0_2) := (blk_cell BK.out 2).trans rfl; have hx3 : w1.cell? ⟨gb, 3, none⟩ = some (.slice A0_3 l0_3.length c0_3) := (blk_cell BK.out 3).trans rfl; have hx4 : w1.cell? ⟨gb, 4, none⟩ = some (.slice A0_4 l0_4.length c0_4) := (blk_cell BK.out 4).trans rfl; have hx5 : w1.cell? ⟨gb, 5, none⟩ = some (.slice A0_5 l0_5.length c0_5) := (blk_cell BK.out 5).trans rfl) | (go_at_call 46; (with_reducible refine (impl_in.calls a0_0 1 40 true _ I0.out).mono ?_); rintro e w' ⟨rfl, ⟨nd, rfl⟩⟩) | (go_at_call 46; (with_reducible refine (impl_in.calls a0_1 1 4 false _ I1.out).mono ?_); rintro e w' ⟨rfl, ⟨nd, rfl⟩⟩))
      go_ret
      exact ⟨by rw [J.out]; rfl, (by repeat (first | (with_reducible first | exact HB.out | apply below_alloc | apply pw_below_drewN | apply below_drew1) | exact HB.out))⟩
  · have I0 := Aside0.mk (show impl_in.f a0_0 1 40 = some false by rw [impl_in_eq, decide_eq_false h1])
    have J := Aside0.mk (show goodB a0_0 a0_1 l0_2 l0_3 l0_4 l0_5 = false by unfold goodB; rw [decide_eq_false h1]; simp)
    (try clear hr0_2 hr0_3 hrise eg)
    go_enter Try.func44, Try.ntmps44
    go_wp2_with (first | ((with_reducible refine gate_dst (N := 1) rfl ?_); refine box_event ?hg (N := 1) ?hd (cs := #[.int .i64 a0_0, .int .i64 a0_1, .slice A0_2 l0_2.length c0_2, .slice A0_3 l0_3.length c0_3, .slice A0_4 l0_4.length c0_4, .slice A0_5 l0_5.length c0_5]) (t := 28) ?hr ?_; (case hd => rfl); (case hg => rfl); (case hr => first | (go_simp; done) | (go_simp; rfl)); intro gb hg w1 hbox hb; have n0_ := Aside0.mk (below_step HB.out hb); have n1_ := Aside0.mk hbox; clear HB; have HB := n0_; have BK := n1_; have GE := Aside0.mk (show w.heap.size ≤ gb by rw [hg]; omega); clear n0_ n1_ hb hbox hg; have hx0 : w1.cell? ⟨gb, 0, none⟩ = some (.int .i64 a0_0) := (blk_cell BK.out 0).trans rfl; have hx1 : w1.cell? ⟨gb, 1, none⟩ = some (.int .i64 a0_1) := (blk_cell BK.out 1).trans rfl; have hx2 : w1.cell? ⟨gb, 2, none⟩ = some (.slice A0_2 l0_2.length c0_2) := (blk_cell BK.out 2).trans rfl; have hx3 : w1.cell? ⟨gb, 3, none⟩ = some (.slice A0_3 l0_3.length c0_3) := (blk_cell BK.out 3).trans rfl; have hx4 : w1.cell? ⟨gb, 4, none⟩ = some (.slice A0_4 l0_4.length c0_4) := (blk_cell BK.out 4).trans rfl; have hx5 : w1.cell? ⟨gb, 5, none⟩ = some (.slice A0_5 l0_5.length c0_5) := (blk_cell BK.out 5).trans rfl) | (go_at_call 46; (with_reducible refine (impl_in.calls a0_0 1 40 false _ I0.out).mono ?_); rintro e w' ⟨rfl, ⟨nd, rfl⟩⟩))
    go_ret
    exact ⟨by rw [J.out]; rfl, (by repeat (first | (with_reducible first | exact HB.out | apply below_alloc | apply pw_below_drewN | apply below_drew1) | exact HB.out))⟩
end Go.Proofs.Ytiibhogpkhdfjaa.P

/-! Hrise -/
/- The reference's l5Rising: what it answers, and that it answers it. -/
namespace Go.Proofs.Ytiibhogpkhdfjaa.P
open Go.RowKit Go.Proofs.YtiibhogpkhdfjaaW.PrintWords Go.Proofs.YtiibhogpkhdfjaaW.PrintLast Go.Proofs.YtiibhogpkhdfjaaW.PrintMore
set_option linter.unusedVariables false
set_option linter.unusedSimpArgs false

theorem l1In_eq (a b c : Int) : spec_l1In.f a b c = some (decide (b ≤ a ∧ a ≤ c)) := by
  unfold spec_l1In.f
  by_cases h : a ≥ b
  · rw [if_pos h]; congr 2; simp; omega
  · rw [if_neg h]; simp; omega
theorem l5Symbol_eq (a0 a1 : Int) (l2 l3 : List (List Int)) (l4 : List Int) (l5 : List (List Int)) (x : Int) : spec_l5Symbol.f a0 a1 l2 l3 l4 l5 x = some (symB a0 a1 x) := by
  unfold spec_l5Symbol.f symB
  rw [l1In_eq]; rfl
theorem l5Less_loop (a b : List Int) (hl : a.length = b.length) (hb : a.length ≤ 9223372036854775807) (d : Nat) : ∀ (k i : Nat), i ≤ a.length → a.length - i = d → d < k →
    spec_l5Less.l0 k a b a.length i = some (decide (cmpL (a.drop i) (b.drop i) < 0)) := by
  induction d with
  | zero =>
    intro k i h1 hd hk
    obtain ⟨k, rfl⟩ : ∃ m, k = m + 1 := ⟨k - 1, by omega⟩
    simp only [spec_l5Less.l0]
    rw [if_neg (by omega), List.drop_of_length_le (show a.length ≤ i by omega), List.drop_of_length_le (show b.length ≤ i by omega)]; rfl
  | succ d ih =>
    intro k i h1 hd hk
    obtain ⟨k, rfl⟩ : ∃ m, k = m + 1 := ⟨k - 1, by omega⟩
    simp only [spec_l5Less.l0]
    have ea : a.drop i = rd a i :: a.drop (i + 1) := getD_drop a i 0 (by omega)
    have eb : b.drop i = rd b i :: b.drop (i + 1) := getD_drop b i 0 (by omega)
    rw [if_pos (by omega), if_pos (by omega), if_pos (by omega), if_pos (by omega), ea, eb]
    by_cases h3 : rd a i = rd b i
    · rw [if_pos h3, show wrap64 ((i : Int) + 1) = ((i + 1 : Nat) : Int) by unfold wrap64; omega, ih k (i + 1) (by omega) (by omega) (by omega)]
      simp [cmpL, h3]
    · rw [if_neg h3]
      by_cases h4 : rd a i < rd b i
      · simp [cmpL, h4]
      · simp [cmpL, h4, show rd b i < rd a i by omega]
theorem l5Less_eq (a b : List Int) (hl : a.length = b.length) (hb : a.length ≤ 9223372036854775807) (k : Nat) (hk : a.length < k) : spec_l5Less.f k a b = some (decide (cmpL a b < 0)) := by
  unfold spec_l5Less.f
  have := l5Less_loop a b hl hb a.length k 0 (by omega) (by omega) hk
  simpa using this

def spec_l5Rising.f (a0_0 a0_1 : Int) (l0_2 l0_3 : List (List Int)) (l0_4 : List Int) (l0_5 l1 : List (List Int)) (a2 : Int) : Option Bool := if 1 ≤ a2 then some (listsF a0_0 a0_1 a2 none l1) else none

set_option maxHeartbeats 4000000 in
set_option maxRecDepth 100000 in
theorem spec_l5Rising.calls (a0_0 a0_1 : Int) (A0_2 : Option Addr) (c0_2 : Nat) (l0_2 : List (List Int)) (A0_3 : Option Addr) (c0_3 : Nat) (l0_3 : List (List Int)) (A0_4 : Option Addr) (c0_4 : Nat) (l0_4 : List Int) (A0_5 : Option Addr) (c0_5 : Nat) (l0_5 : List (List Int)) (A1 : Option Addr) (c1 : Nat) (l1 : List (List Int)) (a2 : Int) (r : Bool) (w : World)
    (hr0_2 : Kd.C (Kd.slice 3 (Kd.int .i64)) w A0_2 l0_2.length l0_2) (hc0_2 : l0_2.length ≤ c0_2) (hr0_3 : Kd.C (Kd.slice 3 (Kd.int .i64)) w A0_3 l0_3.length l0_3) (hc0_3 : l0_3.length ≤ c0_3) (hr0_4 : Kd.C (Kd.int .i64) w A0_4 l0_4.length l0_4) (hc0_4 : l0_4.length ≤ c0_4) (hr0_5 : Kd.C (Kd.slice 3 (Kd.int .i64)) w A0_5 l0_5.length l0_5) (hc0_5 : l0_5.length ≤ c0_5) (hr1 : Kd.C (Kd.slice 3 (Kd.int .i64)) w A1 l1.length l1) (hc1 : l1.length ≤ c1)
    (h : spec_l5Rising.f a0_0 a0_1 l0_2 l0_3 l0_4 l0_5 l1 a2 = some r) :
    Calls Try.prog 40 #[.agg #[.int .i64 a0_0, .int .i64 a0_1, .slice A0_2 l0_2.length c0_2, .slice A0_3 l0_3.length c0_3, .slice A0_4 l0_4.length c0_4, .slice A0_5 l0_5.length c0_5], .slice A1 l1.length c1, .int .i64 a2] w fun e w' => e = .returned (.bool r) ∧ Below w.heap.size w w' := by
  have hu := Try.underlying28
  have ha2 : 1 ≤ a2 := by
    by_cases h2 : 1 ≤ a2
    · exact h2
    · unfold spec_l5Rising.f at h; rw [if_neg h2] at h; cases h
  unfold spec_l5Rising.f at h
  rw [if_pos ha2] at h
  obtain rfl := Option.some.inj h
  clear h
  have SY := Aside0.mk fun (x : Int) (W : World) (hW : Below w.heap.size w W) => spec_l5Symbol.calls a0_0 a0_1 A0_2 c0_2 l0_2 A0_3 c0_3 l0_3 A0_4 c0_4 l0_4 A0_5 c0_5 l0_5 x (symB a0_0 a0_1 x) W (Kd.C_below hr0_2 hW) hc0_2 (Kd.C_below hr0_3 hW) hc0_3 (Kd.C_below hr0_4 hW) hc0_4 (Kd.C_below hr0_5 hW) hc0_5 (l5Symbol_eq a0_0 a0_1 l0_2 l0_3 l0_4 l0_5 x)
  clear hr0_2 hr0_3 hr0_4 hr0_5
  have hml : l1.length ≤ 9223372036854775807 := hr1.2.1
  have HRL := Aside0.mk hr1
  clear hr1
  have HB := Aside0.mk (Below.refl w.heap.size w)
  have HA2 := Aside0.mk ha2
  go_enter Try.func40, Try.ntmps40
  go_wp2_with (first | ((with_reducible refine gate_dst (N := 3) rfl ?_); refine box_event ?hg (N := 3) ?hd (cs := #[.int .i64 a0_0, .int .i64 a0_1, .slice A0_2 l0_2.length c0_2, .slice A0_3 l0_3.length c0_3, .slice A0_4 l0_4.length c0_4, .slice A0_5 l0_5.length c0_5]) (t := 28) ?hr ?_; (case hd => rfl); (case hg => rfl); (case hr => first | (go_simp; done) | (go_simp; rfl)); intro gb hg w1 hbox hb; have n0_ := Aside0.mk (below_step HB.out hb); have n1_ := Aside0.mk hbox; clear HB; have HB := n0_; have BK := n1_; clear n0_ n1_ hb hbox hg) | go_in)
  go_loopg [13] l1.length (fun gg s13 wr => ∃ kk : Nat, kk ≤ l1.length ∧ l1.length - kk ≤ gg ∧ s13 = .int .i64 kk ∧ Aside0 (listsF a0_0 a0_1 a2 none l1 = listsF a0_0 a0_1 a2 (prevL l1 kk) (l1.drop kk)) ∧ Aside0 (∀ z, prevL l1 kk = some z → (z.length : Int) = a2) ∧ Aside0 (wr.heap[gb]? = some (.cells #[.int .i64 a0_0, .int .i64 a0_1, .slice A0_2 l0_2.length c0_2, .slice A0_3 l0_3.length c0_3, .slice A0_4 l0_4.length c0_4, .slice A0_5 l0_5.length c0_5] 28 (0, 0))) ∧ Aside0 (Below w.heap.size w wr))
  case atStart => exact ⟨0, Nat.zero_le _, by omega, rfl, ⟨rfl⟩, ⟨fun z h => by cases h⟩, BK, HB⟩
  case round =>
    clear BK HB
    obtain ⟨kk, hkk, hg, rfl, R, LN, BK, HB⟩ := hrel
    by_cases hlt : kk < l1.length
    · have hd : decide (kk < l1.length) = true := decide_eq_true hlt
      obtain ⟨ad, A3, c3, e, hx0, hl3, hi3⟩ := at_L1 HRL.out (kk : Int) (by omega) (by omega)
      subst e
      have hx1 : wr.cell? (ad.add kk) = some (.slice A3 (rd_L1 l1 kk).length c3) := (HB.out.cell (World.block_lt_of_cell? w _ (by simpa using hx0))).trans (by simpa using hx0)
      have OKD := Aside0.mk (show listsF a0_0 a0_1 a2 (prevL l1 kk) (l1.drop kk) = (rowOk a0_0 a0_1 a2 (rd_L1 l1 kk) && ((match prevL l1 kk with | none => true | some z => decide (cmpL z (rd_L1 l1 kk) < 0)) && listsF a0_0 a0_1 a2 (prevL l1 (kk + 1)) (l1.drop (kk + 1)))) by rw [getD_drop l1 kk [] hlt]; cases kk <;> rfl)
      have HI := Aside0.mk (Kd.C_below hi3 HB.out)
      have HL := Aside0.mk hl3
      have hmy : (rd_L1 l1 kk).length ≤ 9223372036854775807 := hi3.2.1
      have L := Aside0.mk hlt
      have PRV := Aside0.mk (show ∀ m, kk = m + 1 → prevL l1 kk = some (rd_L1 l1 m) from fun m hm => by rw [hm]; rfl)
      have PRN := Aside0.mk (show prevL l1 (kk + 1) = some (rd_L1 l1 kk) from rfl)
      clear hx0 hi3 hl3
      generalize rd_L1 l1 kk = y at hx1 OKD HI HL hmy PRN
      go_upto_region 4 with fail
      have q0 := Later.cell (w := wr) (a := ⟨gb, 0, none⟩) (v := .int .i64 a0_0) ((blk_cell BK.out 0).trans rfl)
      have q1 := Later.cell (w := wr) (a := ⟨gb, 1, none⟩) (v := .int .i64 a0_1) ((blk_cell BK.out 1).trans rfl)
      clear hx1
      by_cases h1 : (y.length : Int) = a2
      · have e1 : ((y.length : Int) != a2) = false := by rw [h1]; simp
        have hpos : 0 < y.length := by have := HA2.out; omega
        obtain ⟨ay, e, hy0⟩ := Kd.at_int HI.out 0 (by omega) (by omega)
        subst e
        rw [show ((0 : Int)).toNat = 0 from rfl, Addr.add_zero'] at hy0
        have q2 := Later.cell hy0
        have hlp : (0 < y.length) = True := eq_true hpos
        clear hy0
        have H1x := Aside0.mk h1
        clear h1
        by_cases h2 : 0 ≤ rd y 0 ∧ rd y 0 ≤ wrap64 (a0_0 - 1)
        · have J1 := Aside0.mk (show spec_l1In.f (rd y 0) 0 (wrap64 (a0_0 - 1)) = some true by rw [l1In_eq, decide_eq_true h2])
          have H2x := Aside0.mk h2
          clear h2
          obtain ⟨i0, hi0, _, hsz0, _⟩ := info_parts info3
          have hcut0 := cut_from (P := Try.prog) 23 3 .i64 Try.underlying23 hi0 1 hsz0 (some ay) y.length c3 1 (by omega) (by omega)
          have HI90 := Kd.C_drop (m := 1) HI.out (by omega) HL.out
          obtain ⟨A9, hA9⟩ : ∃ A9 : Option Addr, A9 = (if c3 = 1 then some ay else (some ay).map (·.add (1 * 1))) := ⟨_, rfl⟩
          obtain ⟨t, ht⟩ : ∃ t, t = y.drop 1 := ⟨_, rfl⟩
          have htl : t.length = y.length - 1 := by rw [ht, List.length_drop]
          have hcut : ∀ W : World, (Instr.slice 23 (.slice (some ay) y.length c3) (some (.int .i64 1)) none none).run Try.prog W = .ok (.slice A9 t.length (c3 - 1)) W := fun W => by rw [hcut0 W, hA9, htl]; rfl
          have HI9w := Aside0.mk (show Kd.C (Kd.int .i64) wr A9 t.length t by rw [hA9, ht]; exact HI90)
          have hmt : t.length ≤ 9223372036854775807 := by omega
          have NOS := Aside0.mk (show ∀ i : Nat, i < t.length → symB a0_0 a0_1 (t.getD i 0) = false → rowOk a0_0 a0_1 a2 y = false from fun i hi hs => by
            unfold rowOk; rw [← ht]
            have : (t.any fun z => !symB a0_0 a0_1 z) = true := List.any_eq_true.2 ⟨t.getD i 0, by rw [List.getD_eq_getElem?_getD, List.getElem?_eq_getElem hi]; exact List.getElem_mem hi, by rw [hs]; rfl⟩
            rw [this]; simp)
          have YESS := Aside0.mk (show (∀ i : Nat, i < t.length → symB a0_0 a0_1 (t.getD i 0) = true) → rowOk a0_0 a0_1 a2 y = true from fun hs => by
            unfold rowOk; rw [← ht, decide_eq_true H1x.out, decide_eq_true H2x.out]
            have : (t.any fun z => !symB a0_0 a0_1 z) = false := by
              rw [List.any_eq_false]; intro z hz; obtain ⟨i, hi, rfl⟩ := List.getElem_of_mem hz
              have := hs i hi; rw [List.getD_eq_getElem?_getD, List.getElem?_eq_getElem hi] at this; simpa using this
            rw [this]; rfl)
          clear hcut0 HI90 hA9 hi0 hsz0 ht htl
          cases kk with
          | zero =>
              refine wp_region_later (by kernel_rfl) (by kernel_rfl) ?_
              repeat (go_big_quiet_step (first | (go_at_call 39; with_reducible exact Later.callD (spec_l1In.calls (rd y 0) 0 (wrap64 (a0_0 - 1)) true _ J1.out))))
              refine wpQuiet_nil ?_
              intro w4_ hw4
              obtain ⟨⟨w4, hb4⟩, hw4⟩ := hw4
              subst hw4
              (try dsimp only)
              have B4 := Aside0.mk hb4
              clear hb4
              have n0_ := Aside0.mk (blk_below BK.out B4.out)
              have n1_ := Aside0.mk (below_step HB.out B4.out)
              have HI9 := Aside0.mk (Kd.C_below HI9w.out B4.out)
              clear BK HB B4 q0 q1 q2 HI9w
              have BK := n0_
              have HB := n1_
              clear n0_ n1_ hd
              go_wp2
              go_loopg [49] t.length (fun gg s49 wr => ∃ jj : Nat, jj ≤ t.length ∧ t.length - jj ≤ gg ∧ s49 = .int .i64 jj ∧ Aside0 (∀ i, i < jj → symB a0_0 a0_1 (t.getD i 0) = true) ∧ Aside0 (wr.heap[gb]? = some (.cells #[.int .i64 a0_0, .int .i64 a0_1, .slice A0_2 l0_2.length c0_2, .slice A0_3 l0_3.length c0_3, .slice A0_4 l0_4.length c0_4, .slice A0_5 l0_5.length c0_5] 28 (0, 0))) ∧ Aside0 (Kd.C (Kd.int .i64) wr A9 t.length t) ∧ Aside0 (Below w.heap.size w wr))
              case atStart => exact ⟨0, Nat.zero_le _, by omega, rfl, ⟨fun i hi => absurd hi (Nat.not_lt_zero _)⟩, BK, HI9, HB⟩
              case round =>
                clear BK HB HI9
                obtain ⟨jj, hjj, hg2, rfl, S, BK, HI9, HB⟩ := hrel
                by_cases hlt2 : jj < t.length
                · have hd2 : decide (jj < t.length) = true := decide_eq_true hlt2
                  obtain ⟨ay9, e, hy9⟩ := Kd.at_int HI9.out (jj : Int) (by omega) (by omega)
                  subst e
                  have hy8 : wr.cell? (ay9.add jj) = some (.int .i64 (rd t jj)) := by simpa using hy9
                  have hx0 : wr.cell? ⟨gb, 0, none⟩ = some (.int .i64 a0_0) := (blk_cell BK.out 0).trans rfl
                  have hx1 : wr.cell? ⟨gb, 1, none⟩ = some (.int .i64 a0_1) := (blk_cell BK.out 1).trans rfl
                  have hx2 : wr.cell? ⟨gb, 2, none⟩ = some (.slice A0_2 l0_2.length c0_2) := (blk_cell BK.out 2).trans rfl
                  have hx3 : wr.cell? ⟨gb, 3, none⟩ = some (.slice A0_3 l0_3.length c0_3) := (blk_cell BK.out 3).trans rfl
                  have hx4 : wr.cell? ⟨gb, 4, none⟩ = some (.slice A0_4 l0_4.length c0_4) := (blk_cell BK.out 4).trans rfl
                  have hx5 : wr.cell? ⟨gb, 5, none⟩ = some (.slice A0_5 l0_5.length c0_5) := (blk_cell BK.out 5).trans rfl
                  have L2 := Aside0.mk hlt2
                  clear hy9
                  have CS := SY.out (rd t jj) wr HB.out
                  have SE := Aside0.mk (show t.getD jj 0 = rd t jj from rfl)
                  generalize rd t jj = x at hy8 CS SE
                  cases hs : symB a0_0 a0_1 x with
                  | true =>
                    rw [hs] at CS
                    have SX := Aside0.mk hs
                    clear hs
                    go_wp2_with fail
                    refine CS.mono ?_
                    rintro e w' ⟨rfl, hb'⟩
                    clear CS hd2
                    go_wp2
                    go_roundg (t.length - (jj + 1))
                    case measure => have := L2.out; omega
                    case rel => exact ⟨jj + 1, by have := L2.out; omega, by omega, by go_num, ⟨fun (i : Nat) (hi : i < jj + 1) => if ej : i = jj then (by subst ej; rw [SE.out]; exact SX.out) else S.out i (by have := hi; have := ej; omega)⟩, ⟨blk_below BK.out hb'⟩, ⟨Kd.C_below HI9.out hb'⟩, ⟨below_step HB.out hb'⟩⟩
                  | false =>
                    rw [hs] at CS
                    have J4 := Aside0.mk (show listsF a0_0 a0_1 a2 none l1 = false by rw [R.out, OKD.out, NOS.out jj L2.out (by rw [SE.out]; exact hs), Bool.false_and])
                    clear hs
                    go_wp2_with fail
                    refine CS.mono ?_
                    rintro e w' ⟨rfl, hb'⟩
                    clear CS hd2 hlt2
                    go_wp2
                    go_ret
                    exact ⟨by rw [J4.out]; rfl, below_step HB.out hb'⟩
                · have hd2 : decide (jj < t.length) = false := decide_eq_false hlt2
                  have RW := Aside0.mk (YESS.out (fun i hi => S.out i (by omega)))
                  have J5 := Aside0.mk (show listsF a0_0 a0_1 a2 none l1 = listsF a0_0 a0_1 a2 (prevL l1 (0 + 1)) (l1.drop (0 + 1)) by rw [R.out, OKD.out, RW.out]; rfl)
                  clear hlt2
                  go_wp2
                  go_roundg (l1.length - (0 + 1))
                  case measure => have := L.out; omega
                  case rel => exact ⟨0 + 1, by have := L.out; omega, by omega, by go_num, J5, ⟨fun z_ hz_ => by rw [PRN.out] at hz_; cases hz_; exact H1x.out⟩, BK, HB⟩
          | succ m =>
            obtain ⟨ad2, A8, c8, e, hz0, hl8, hi8⟩ := at_L1 HRL.out (m : Int) (by omega) (by omega)
            cases e
            have q3 := Later.cell (w := wr) (a := ad.add m) (v := .slice A8 (rd_L1 l1 m).length c8) ((HB.out.cell (World.block_lt_of_cell? w _ (by simpa using hz0))).trans (by simpa using hz0))
            have HZ := Aside0.mk (Kd.C_below hi8 HB.out)
            have HZL := Aside0.mk hl8
            have hmz := Aside0.mk hi8.2.1
            have PV2 := Aside0.mk (PRV.out m rfl)
            have LZ := Aside0.mk (LN.out _ PV2.out)
            rw [PV2.out] at OKD
            clear hz0 hl8 hi8 PRV LN
            generalize rd_L1 l1 m = z at q3 HZ HZL hmz OKD PV2 LZ
            have OK2 := Aside0.mk (show listsF a0_0 a0_1 a2 (some z) (l1.drop (m + 1)) = (rowOk a0_0 a0_1 a2 y && (decide (cmpL z y < 0) && listsF a0_0 a0_1 a2 (prevL l1 (m + 1 + 1)) (l1.drop (m + 1 + 1)))) from OKD.out)
            clear OKD
            have OKD := OK2
            clear OK2
            have J6 := Aside0.mk (l5Less_eq z y (by have := LZ.out; have := H1x.out; omega) hmz.out (z.length + 1) (by omega))
            generalize decide (cmpL z y < 0) = cz at J6 OKD
            have CM := fun (W : World) (hW : Below wr.heap.size wr W) => spec_l5Less.calls (z.length + 1) A8 c8 z (some ay) c3 y cz W (Kd.C_below HZ.out hW) HZL.out (Kd.C_below HI.out hW) HL.out J6.out
            cases cz with
            | true =>
              refine wp_region_later (by kernel_rfl) (by kernel_rfl) ?_
              repeat (go_big_quiet_step (first | (go_at_call 39; with_reducible exact Later.callD (spec_l1In.calls (rd y 0) 0 (wrap64 (a0_0 - 1)) true _ J1.out)) | (go_at_call 62; with_reducible exact Later.callD (CM _ (Later.below _)))))
              refine wpQuiet_nil ?_
              intro w4_ hw4
              obtain ⟨⟨w4, hb4⟩, hw4⟩ := hw4
              subst hw4
              (try dsimp only)
              have B4 := Aside0.mk hb4
              clear hb4
              clear CM q3
              have n0_ := Aside0.mk (blk_below BK.out B4.out)
              have n1_ := Aside0.mk (below_step HB.out B4.out)
              have HI9 := Aside0.mk (Kd.C_below HI9w.out B4.out)
              clear BK HB B4 q0 q1 q2 HI9w
              have BK := n0_
              have HB := n1_
              clear n0_ n1_ hd
              go_wp2
              go_loopg [49] t.length (fun gg s49 wr => ∃ jj : Nat, jj ≤ t.length ∧ t.length - jj ≤ gg ∧ s49 = .int .i64 jj ∧ Aside0 (∀ i, i < jj → symB a0_0 a0_1 (t.getD i 0) = true) ∧ Aside0 (wr.heap[gb]? = some (.cells #[.int .i64 a0_0, .int .i64 a0_1, .slice A0_2 l0_2.length c0_2, .slice A0_3 l0_3.length c0_3, .slice A0_4 l0_4.length c0_4, .slice A0_5 l0_5.length c0_5] 28 (0, 0))) ∧ Aside0 (Kd.C (Kd.int .i64) wr A9 t.length t) ∧ Aside0 (Below w.heap.size w wr))
              case atStart => exact ⟨0, Nat.zero_le _, by omega, rfl, ⟨fun i hi => absurd hi (Nat.not_lt_zero _)⟩, BK, HI9, HB⟩
              case round =>
                clear BK HB HI9
                obtain ⟨jj, hjj, hg2, rfl, S, BK, HI9, HB⟩ := hrel
                by_cases hlt2 : jj < t.length
                · have hd2 : decide (jj < t.length) = true := decide_eq_true hlt2
                  obtain ⟨ay9, e, hy9⟩ := Kd.at_int HI9.out (jj : Int) (by omega) (by omega)
                  subst e
                  have hy8 : wr.cell? (ay9.add jj) = some (.int .i64 (rd t jj)) := by simpa using hy9
                  have hx0 : wr.cell? ⟨gb, 0, none⟩ = some (.int .i64 a0_0) := (blk_cell BK.out 0).trans rfl
                  have hx1 : wr.cell? ⟨gb, 1, none⟩ = some (.int .i64 a0_1) := (blk_cell BK.out 1).trans rfl
                  have hx2 : wr.cell? ⟨gb, 2, none⟩ = some (.slice A0_2 l0_2.length c0_2) := (blk_cell BK.out 2).trans rfl
                  have hx3 : wr.cell? ⟨gb, 3, none⟩ = some (.slice A0_3 l0_3.length c0_3) := (blk_cell BK.out 3).trans rfl
                  have hx4 : wr.cell? ⟨gb, 4, none⟩ = some (.slice A0_4 l0_4.length c0_4) := (blk_cell BK.out 4).trans rfl
                  have hx5 : wr.cell? ⟨gb, 5, none⟩ = some (.slice A0_5 l0_5.length c0_5) := (blk_cell BK.out 5).trans rfl
                  have L2 := Aside0.mk hlt2
                  clear hy9
                  have CS := SY.out (rd t jj) wr HB.out
                  have SE := Aside0.mk (show t.getD jj 0 = rd t jj from rfl)
                  generalize rd t jj = x at hy8 CS SE
                  cases hs : symB a0_0 a0_1 x with
                  | true =>
                    rw [hs] at CS
                    have SX := Aside0.mk hs
                    clear hs
                    go_wp2_with fail
                    refine CS.mono ?_
                    rintro e w' ⟨rfl, hb'⟩
                    clear CS hd2
                    go_wp2
                    go_roundg (t.length - (jj + 1))
                    case measure => have := L2.out; omega
                    case rel => exact ⟨jj + 1, by have := L2.out; omega, by omega, by go_num, ⟨fun (i : Nat) (hi : i < jj + 1) => if ej : i = jj then (by subst ej; rw [SE.out]; exact SX.out) else S.out i (by have := hi; have := ej; omega)⟩, ⟨blk_below BK.out hb'⟩, ⟨Kd.C_below HI9.out hb'⟩, ⟨below_step HB.out hb'⟩⟩
                  | false =>
                    rw [hs] at CS
                    have J4 := Aside0.mk (show listsF a0_0 a0_1 a2 none l1 = false by rw [R.out, PV2.out, OKD.out, NOS.out jj L2.out (by rw [SE.out]; exact hs), Bool.false_and])
                    clear hs
                    go_wp2_with fail
                    refine CS.mono ?_
                    rintro e w' ⟨rfl, hb'⟩
                    clear CS hd2 hlt2
                    go_wp2
                    go_ret
                    exact ⟨by rw [J4.out]; rfl, below_step HB.out hb'⟩
                · have hd2 : decide (jj < t.length) = false := decide_eq_false hlt2
                  have RW := Aside0.mk (YESS.out (fun i hi => S.out i (by omega)))
                  have J5 := Aside0.mk (show listsF a0_0 a0_1 a2 none l1 = listsF a0_0 a0_1 a2 (prevL l1 (m + 1 + 1)) (l1.drop (m + 1 + 1)) by rw [R.out, PV2.out, OKD.out, RW.out]; rfl)
                  clear hlt2
                  go_wp2
                  go_roundg (l1.length - (m + 1 + 1))
                  case measure => have := L.out; omega
                  case rel => exact ⟨m + 1 + 1, by have := L.out; omega, by omega, by go_num, J5, ⟨fun z_ hz_ => by rw [PRN.out] at hz_; cases hz_; exact H1x.out⟩, BK, HB⟩
            | false =>
              refine wp_region_later (by kernel_rfl) (by kernel_rfl) ?_
              repeat (go_big_quiet_step (first | (go_at_call 39; with_reducible exact Later.callD (spec_l1In.calls (rd y 0) 0 (wrap64 (a0_0 - 1)) true _ J1.out)) | (go_at_call 62; with_reducible exact Later.callD (CM _ (Later.below _)))))
              refine wpQuiet_nil ?_
              intro w4_ hw4
              obtain ⟨⟨w4, hb4⟩, hw4⟩ := hw4
              subst hw4
              (try dsimp only)
              have B4 := Aside0.mk hb4
              clear hb4
              have J4 := Aside0.mk (show listsF a0_0 a0_1 a2 none l1 = false by rw [R.out, PV2.out, OKD.out]; rw [Bool.false_and, Bool.and_false])
              clear q0 q1 hd
              go_wp2
              go_ret
              exact ⟨by rw [J4.out]; rfl, below_step HB.out B4.out⟩
        · have J1 := Aside0.mk (show spec_l1In.f (rd y 0) 0 (wrap64 (a0_0 - 1)) = some false by rw [l1In_eq, decide_eq_false h2])
          have W3 := Aside0.mk (show rowOk a0_0 a0_1 a2 y = false by unfold rowOk; rw [decide_eq_false h2]; simp)
          clear h2
          refine wp_region_later (by kernel_rfl) (by kernel_rfl) ?_
          repeat (go_big_quiet_step (first | (go_at_call 39; with_reducible exact Later.callD (spec_l1In.calls (rd y 0) 0 (wrap64 (a0_0 - 1)) false _ J1.out))))
          refine wpQuiet_nil ?_
          intro w4_ hw4
          obtain ⟨⟨w4, hb4⟩, hw4⟩ := hw4
          subst hw4
          (try dsimp only)
          have B4 := Aside0.mk hb4
          clear hb4
          have J4 := Aside0.mk (show listsF a0_0 a0_1 a2 none l1 = false by rw [R.out, OKD.out]; rw [W3.out, Bool.false_and])
          clear q0 q1 hd
          go_wp2
          go_ret
          exact ⟨by rw [J4.out]; rfl, below_step HB.out B4.out⟩
      · have e1 : ((y.length : Int) != a2) = true := by simpa using h1
        have W3 := Aside0.mk (show rowOk a0_0 a0_1 a2 y = false by unfold rowOk; rw [decide_eq_false h1]; simp)
        clear h1
        refine wp_region_later (by kernel_rfl) (by kernel_rfl) ?_
        repeat (go_big_quiet_step (fail))
        refine wpQuiet_nil ?_
        intro w4_ hw4
        obtain ⟨⟨w4, hb4⟩, hw4⟩ := hw4
        subst hw4
        (try dsimp only)
        have B4 := Aside0.mk hb4
        clear hb4
        have J4 := Aside0.mk (show listsF a0_0 a0_1 a2 none l1 = false by rw [R.out, OKD.out]; rw [W3.out, Bool.false_and])
        clear q0 q1 hd
        go_wp2
        go_ret
        exact ⟨by rw [J4.out]; rfl, below_step HB.out B4.out⟩
    · have hd : decide (kk < l1.length) = false := decide_eq_false hlt
      have FIN := Aside0.mk (show listsF a0_0 a0_1 a2 none l1 = true by rw [R.out, List.drop_of_length_le (by omega)]; cases kk <;> rfl)
      clear hlt
      go_wp2
      go_ret
      exact ⟨by rw [FIN.out]; rfl, HB.out⟩
end Go.Proofs.Ytiibhogpkhdfjaa.P

/-! F11 -/
namespace Go.Proofs.Ytiibhogpkhdfjaa.P
open Go.RowKit Go.Proofs.YtiibhogpkhdfjaaW.PrintWords Go.Proofs.YtiibhogpkhdfjaaW.PrintLast Go.Proofs.YtiibhogpkhdfjaaW.PrintMore
attribute [local go_sem] max2_int min2_int max_two min_two max_three min_three max_four min_four   -- for this text's walks alone
set_option linter.unusedVariables false
set_option linter.unusedSimpArgs false

/-! ### spec_GoodBinary: function 11 -/
mutual
def spec_GoodBinary.j0 : Nat → Bool → Int → Int → List (List Int) → List (List Int) → List Int → List (List Int) → Option (Bool)
  | 0, _, _, _, _, _, _, _ => none
  | k + 1, x22, x102000, x102001, x102002, x102003, x102004, x102005 => if x22 = true then (some false) else (spec_GoodBinary.l0 k x102005 (x102005.length : Int) 0 x102000 x102001 x102002 x102003 x102004 x102005)
def spec_GoodBinary.l0 : Nat → List (List Int) → Int → Int → Int → Int → List (List Int) → List (List Int) → List Int → List (List Int) → Option (Bool)
  | 0, _, _, _, _, _, _, _, _, _ => none
  | k + 1, x24, x25, x26, x102000, x102001, x102002, x102003, x102004, x102005 => if x26 < x25 then (if 0 ≤ x26 then (if x26 < (x24.length : Int) then (if ((rd_L1 x24 x26).length : Int) = 2 then (spec_GoodBinary.l0 k x24 x25 (wrap64 (x26 + 1)) x102000 x102001 x102002 x102003 x102004 x102005) else (some false)) else (none)) else (none)) else ((spec_l5Rising.f x102000 x102001 x102002 x102003 x102004 x102005 x102002 3).bind fun t105 => (if t105 = true then ((spec_l5Rising.f x102000 x102001 x102002 x102003 x102004 x102005 x102003 2).bind fun t106 => (if t106 = true then ((spec_l1Rising.f k x102004 0 (wrap64 (x102000 - 1))).bind fun t107 => (some t107)) else (some false))) else (some false)))
end
def spec_GoodBinary.f (k : Nat) (a0_0 : Int) (a0_1 : Int) (l0_2 : List (List Int)) (l0_3 : List (List Int)) (l0_4 : List Int) (l0_5 : List (List Int)) : Option (Bool) := (spec_l1In.f a0_0 1 40).bind fun t102 => (if t102 = true then ((spec_l1In.f a0_1 1 4).bind fun t103 => (if t103 = true then (spec_GoodBinary.j0 k (decide ((l0_5.length : Int) > a0_0)) a0_0 a0_1 l0_2 l0_3 l0_4 l0_5) else (spec_GoodBinary.j0 k true a0_0 a0_1 l0_2 l0_3 l0_4 l0_5))) else (spec_GoodBinary.j0 k true a0_0 a0_1 l0_2 l0_3 l0_4 l0_5))
theorem spec_GoodBinary.mono_l : ∀ k, (∀ y0 y1 y2 y3 y4 y5 y6, LeO (spec_GoodBinary.j0 k y0 y1 y2 y3 y4 y5 y6) (spec_GoodBinary.j0 (k + 1) y0 y1 y2 y3 y4 y5 y6)) ∧ (∀ y0 y1 y2 y3 y4 y5 y6 y7 y8, LeO (spec_GoodBinary.l0 k y0 y1 y2 y3 y4 y5 y6 y7 y8) (spec_GoodBinary.l0 (k + 1) y0 y1 y2 y3 y4 y5 y6 y7 y8))
  | 0 => ⟨fun _ _ _ _ _ _ _ r h => by simp [spec_GoodBinary.j0] at h, fun _ _ _ _ _ _ _ _ _ r h => by simp [spec_GoodBinary.l0] at h⟩
  | k + 1 => by
    obtain ⟨ih0, ih1⟩ := spec_GoodBinary.mono_l k
    refine ⟨?_, ?_⟩
    · intro y0 y1 y2 y3 y4 y5 y6
      unfold spec_GoodBinary.j0
      repeat' first
      | (with_reducible exact ih0 _ _ _ _ _ _ _)
      | (with_reducible exact ih1 _ _ _ _ _ _ _ _ _)
      | (with_reducible exact spec_l1Rising.mono _ _ _ _)
      | (with_reducible exact LeO.refl _)
      | (with_reducible exact LeO.none _)
      | (with_reducible refine LeO.ite ?_ ?_)
      | (with_reducible refine LeO.bind ?_ (fun _ => ?_))
      | exact ih0 _ _ _ _ _ _ _
      | exact ih1 _ _ _ _ _ _ _ _ _
      | exact spec_l1Rising.mono _ _ _ _
      | exact LeO.none _
      | refine LeO.ite ?_ ?_
      | refine LeO.bind ?_ (fun _ => ?_)
    · intro y0 y1 y2 y3 y4 y5 y6 y7 y8
      unfold spec_GoodBinary.l0
      repeat' first
      | (with_reducible exact ih0 _ _ _ _ _ _ _)
      | (with_reducible exact ih1 _ _ _ _ _ _ _ _ _)
      | (with_reducible exact spec_l1Rising.mono _ _ _ _)
      | (with_reducible exact LeO.refl _)
      | (with_reducible exact LeO.none _)
      | (with_reducible refine LeO.ite ?_ ?_)
      | (with_reducible refine LeO.bind ?_ (fun _ => ?_))
      | exact ih0 _ _ _ _ _ _ _
      | exact ih1 _ _ _ _ _ _ _ _ _
      | exact spec_l1Rising.mono _ _ _ _
      | exact LeO.none _
      | refine LeO.ite ?_ ?_
      | refine LeO.bind ?_ (fun _ => ?_)
theorem spec_GoodBinary.mono : ∀ a0 a1 a2 a3 a4 a5 k, LeO (spec_GoodBinary.f k a0 a1 a2 a3 a4 a5) (spec_GoodBinary.f (k + 1) a0 a1 a2 a3 a4 a5) := by
  intro a0 a1 a2 a3 a4 a5 k
  obtain ⟨ih0, ih1⟩ := spec_GoodBinary.mono_l k
  unfold spec_GoodBinary.f
  repeat' first
      | (with_reducible exact ih0 _ _ _ _ _ _ _)
      | (with_reducible exact ih1 _ _ _ _ _ _ _ _ _)
      | (with_reducible exact spec_l1Rising.mono _ _ _ _)
      | (with_reducible exact LeO.refl _)
      | (with_reducible exact LeO.none _)
      | (with_reducible refine LeO.ite ?_ ?_)
      | (with_reducible refine LeO.bind ?_ (fun _ => ?_))
      | exact ih0 _ _ _ _ _ _ _
      | exact ih1 _ _ _ _ _ _ _ _ _
      | exact spec_l1Rising.mono _ _ _ _
      | exact LeO.none _
      | refine LeO.ite ?_ ?_
      | refine LeO.bind ?_ (fun _ => ?_)
set_option maxHeartbeats 8000000 in
set_option maxRecDepth 100000 in
theorem spec_GoodBinary.calls (k : Nat) (a0_0 : Int) (a0_1 : Int) (A0_2 : Option Addr) (c0_2 : Nat) (l0_2 : List (List Int)) (A0_3 : Option Addr) (c0_3 : Nat) (l0_3 : List (List Int)) (A0_4 : Option Addr) (c0_4 : Nat) (l0_4 : List Int) (A0_5 : Option Addr) (c0_5 : Nat) (l0_5 : List (List Int)) (r : Bool) (w : World) (hr0_2 : Kd.C (Kd.slice 3 (Kd.int .i64)) w A0_2 l0_2.length l0_2) (hc0_2 : l0_2.length ≤ c0_2) (hr0_3 : Kd.C (Kd.slice 3 (Kd.int .i64)) w A0_3 l0_3.length l0_3) (hc0_3 : l0_3.length ≤ c0_3) (hr0_4 : Kd.C (Kd.int .i64) w A0_4 l0_4.length l0_4) (hc0_4 : l0_4.length ≤ c0_4) (hr0_5 : Kd.C (Kd.slice 3 (Kd.int .i64)) w A0_5 l0_5.length l0_5) (hc0_5 : l0_5.length ≤ c0_5) (h : spec_GoodBinary.f k a0_0 a0_1 l0_2 l0_3 l0_4 l0_5 = some r) :
    Calls Try.prog 11 #[.agg #[.int .i64 a0_0, .int .i64 a0_1, .slice A0_2 l0_2.length c0_2, .slice A0_3 l0_3.length c0_3, .slice A0_4 l0_4.length c0_4, .slice A0_5 l0_5.length c0_5]] w fun e w' => e = .returned (.bool r) ∧ Below w.heap.size w w' := by
  have hu28 := Try.underlying28
  have HR0_2 := Aside0.mk hr0_2
  have HC0_2 := Aside0.mk hc0_2
  clear hr0_2 hc0_2
  have HR0_3 := Aside0.mk hr0_3
  have HC0_3 := Aside0.mk hc0_3
  clear hr0_3 hc0_3
  have HR0_4 := Aside0.mk hr0_4
  have HC0_4 := Aside0.mk hc0_4
  clear hr0_4 hc0_4
  have HR0_5 := Aside0.mk hr0_5
  have HC0_5 := Aside0.mk hc0_5
  clear hr0_5 hc0_5
  have HB := Aside0.mk (Below.refl w.heap.size w)
  have H : ((spec_l1In.f a0_0 1 40).bind fun t102 => (if t102 = true then ((spec_l1In.f a0_1 1 4).bind fun t103 => (if t103 = true then (spec_GoodBinary.j0 k (decide ((l0_5.length : Int) > a0_0)) a0_0 a0_1 l0_2 l0_3 l0_4 l0_5) else (spec_GoodBinary.j0 k true a0_0 a0_1 l0_2 l0_3 l0_4 l0_5))) else (spec_GoodBinary.j0 k true a0_0 a0_1 l0_2 l0_3 l0_4 l0_5))) = some r := h
  clear h
  have HC2 := Aside0.mk H
  clear H
  go_enter Try.func11, Try.ntmps11
  go_upto_region 1 with (first | ((with_reducible refine gate_dst (N := 1) rfl ?_); (try (refine gate_guard (by rfl) ?_; dsimp only)); refine box_event ?hg (N := 1) ?hd (cs := #[.int .i64 a0_0, .int .i64 a0_1, .slice A0_2 l0_2.length c0_2, .slice A0_3 l0_3.length c0_3, .slice A0_4 l0_4.length c0_4, .slice A0_5 l0_5.length c0_5]) (t := 28) ?hr ?_; (case hd => rfl); (case hg => rfl); (case hr => first | (go_simp; done) | (go_simp; rfl)); intro gb101 hg w3 hbox hb; have n0_ := Aside0.mk (below_step (by repeat (first | (with_reducible first | exact HB.out | apply below_alloc | apply pw_below_drewN | apply below_drew1) | exact HB.out)) hb); have n1_ := Aside0.mk (hbox); have n2_ := Aside0.mk ((by rw [hg]; exact (below_size (by repeat (first | (with_reducible first | exact HB.out | apply below_alloc | apply pw_below_drewN | apply below_drew1) | exact HB.out))) : w.heap.size ≤ gb101)); have n3_ := Aside0.mk ((by rw [hg]; exact (below_size (by repeat (first | (with_reducible first | exact HB.out | apply below_alloc | apply pw_below_drewN | apply below_drew1) | exact HB.out))) : w.heap.size ≤ gb101)); clear HB; have HB := n0_; have BK101 := n1_; have GW101 := n2_; have GE101 := n3_; clear n0_ n1_ n2_ n3_; clear hb hbox hg))
  (try simp only [Act.put, List.setIfInBounds_toArray, List.set_cons_zero, List.set_cons_succ])
  go_cut [22] (fun v22 wc => ∃ (kq : Nat) (x22_1 : Bool), v22 = .bool x22_1 ∧ Aside0 (spec_GoodBinary.j0 kq x22_1 a0_0 a0_1 l0_2 l0_3 l0_4 l0_5 = some r) ∧ Aside0 (kq ≤ k) ∧ Aside0 (wc.heap[gb101]? = some (.cells #[.int .i64 a0_0, .int .i64 a0_1, (.slice A0_2 l0_2.length c0_2), (.slice A0_3 l0_3.length c0_3), (.slice A0_4 l0_4.length c0_4), (.slice A0_5 l0_5.length c0_5)] 28 (0, 0))) ∧ Aside0 (Below w.heap.size w wc))
  case first =>
    have H := HC2.out
    clear HC2
    replace H := Option.bind_eq_some_iff.mp H
    obtain ⟨t102, A40, H⟩ := H
    replace H : (if t102 = true then ((spec_l1In.f a0_1 1 4).bind fun t103 => (if t103 = true then (spec_GoodBinary.j0 k (decide ((l0_5.length : Int) > a0_0)) a0_0 a0_1 l0_2 l0_3 l0_4 l0_5) else (spec_GoodBinary.j0 k true a0_0 a0_1 l0_2 l0_3 l0_4 l0_5))) else (spec_GoodBinary.j0 k true a0_0 a0_1 l0_2 l0_3 l0_4 l0_5)) = some r := H
    have A4 := Aside0.mk A40
    clear A40
    by_cases c5 : t102 = true
    · subst c5
      have H1 : ((spec_l1In.f a0_1 1 4).bind fun t103 => (if t103 = true then (spec_GoodBinary.j0 k (decide ((l0_5.length : Int) > a0_0)) a0_0 a0_1 l0_2 l0_3 l0_4 l0_5) else (spec_GoodBinary.j0 k true a0_0 a0_1 l0_2 l0_3 l0_4 l0_5))) = some r := by rw [if_pos rfl] at H; exact H
      clear H
      have H := H1
      clear H1
      replace H := Option.bind_eq_some_iff.mp H
      obtain ⟨t103, A60, H⟩ := H
      replace H : (if t103 = true then (spec_GoodBinary.j0 k (decide ((l0_5.length : Int) > a0_0)) a0_0 a0_1 l0_2 l0_3 l0_4 l0_5) else (spec_GoodBinary.j0 k true a0_0 a0_1 l0_2 l0_3 l0_4 l0_5)) = some r := H
      have A6 := Aside0.mk A60
      clear A60
      by_cases c7 : t103 = true
      · subst c7
        have H1 : (spec_GoodBinary.j0 k (decide ((l0_5.length : Int) > a0_0)) a0_0 a0_1 l0_2 l0_3 l0_4 l0_5) = some r := by rw [if_pos rfl] at H; exact H
        clear H
        have H := H1
        clear H1
        have H' := Aside0.mk H
        clear H
        have hcz8_0 : w3.cell? ⟨gb101, 0, none⟩ = some (.int .i64 a0_0) := (blk_cell BK101.out 0).trans rfl
        have hcz8_1 : w3.cell? ⟨gb101, 1, none⟩ = some (.int .i64 a0_1) := (blk_cell BK101.out 1).trans rfl
        have hcz8_2 : w3.cell? ⟨gb101, 2, none⟩ = some (.slice A0_2 l0_2.length c0_2) := (blk_cell BK101.out 2).trans rfl
        have hcz8_3 : w3.cell? ⟨gb101, 3, none⟩ = some (.slice A0_3 l0_3.length c0_3) := (blk_cell BK101.out 3).trans rfl
        have hcz8_4 : w3.cell? ⟨gb101, 4, none⟩ = some (.slice A0_4 l0_4.length c0_4) := (blk_cell BK101.out 4).trans rfl
        have hcz8_5 : w3.cell? ⟨gb101, 5, none⟩ = some (.slice A0_5 l0_5.length c0_5) := (blk_cell BK101.out 5).trans rfl
        have hfz8_0 := blk_frozen BK101.out 0
        have hfz8_1 := blk_frozen BK101.out 1
        have hfz8_2 := blk_frozen BK101.out 2
        have hfz8_3 := blk_frozen BK101.out 3
        have hfz8_4 := blk_frozen BK101.out 4
        have hfz8_5 := blk_frozen BK101.out 5
        go_wp2_with (first | ((with_reducible refine gate_callee (f := 39) rfl ?_); refine goesL_ (some 7) rfl rfl Try.func39 (by kernel_rfl) rfl #[.int .i64 a0_0, .int .i64 1, .int .i64 40] rfl (by (try simp only [List.map_toArray, List.map_cons, List.map_nil]); first | done | rfl | (simp only [List.length_drop, List.length_take]; rfl)) ?_; (with_reducible refine (spec_l1In.calls a0_0 1 40 true _ A4.out).mono ?_); rintro e w' ⟨rfl, ⟨nd, rfl⟩⟩; refine ⟨_, rfl, ?_⟩) | (go_at_call 39; (with_reducible refine (spec_l1In.calls a0_1 1 4 true _ A6.out).mono ?_); rintro e w' ⟨rfl, ⟨nd, rfl⟩⟩))
        go_meet
        case rel => exact ⟨_, (decide ((l0_5.length : Int) > a0_0)), (by first | rfl | (simp; done) | (simp [*]; done)), H', ⟨by first | omega | exact Nat.le_refl _⟩, ⟨by (with_reducible repeat (first | refine blk_drewN ?_ _ | refine blk_drew ?_ | refine blk_alloc ?_ _)); exact BK101.out⟩, ⟨by repeat (first | (with_reducible first | exact HB.out | apply below_alloc | apply pw_below_drewN | apply below_drew1 | refine below_set ?_ GE101.out) | exact HB.out)⟩⟩
      · replace c7 := Bool.eq_false_iff.mpr c7
        subst c7
        have H1 : (spec_GoodBinary.j0 k true a0_0 a0_1 l0_2 l0_3 l0_4 l0_5) = some r := by rw [if_neg (show ¬ (false = true) by decide)] at H; exact H
        clear H
        have H := H1
        clear H1
        have H' := Aside0.mk H
        clear H
        have hcz9_0 : w3.cell? ⟨gb101, 0, none⟩ = some (.int .i64 a0_0) := (blk_cell BK101.out 0).trans rfl
        have hcz9_1 : w3.cell? ⟨gb101, 1, none⟩ = some (.int .i64 a0_1) := (blk_cell BK101.out 1).trans rfl
        have hcz9_2 : w3.cell? ⟨gb101, 2, none⟩ = some (.slice A0_2 l0_2.length c0_2) := (blk_cell BK101.out 2).trans rfl
        have hcz9_3 : w3.cell? ⟨gb101, 3, none⟩ = some (.slice A0_3 l0_3.length c0_3) := (blk_cell BK101.out 3).trans rfl
        have hcz9_4 : w3.cell? ⟨gb101, 4, none⟩ = some (.slice A0_4 l0_4.length c0_4) := (blk_cell BK101.out 4).trans rfl
        have hcz9_5 : w3.cell? ⟨gb101, 5, none⟩ = some (.slice A0_5 l0_5.length c0_5) := (blk_cell BK101.out 5).trans rfl
        have hfz9_0 := blk_frozen BK101.out 0
        have hfz9_1 := blk_frozen BK101.out 1
        have hfz9_2 := blk_frozen BK101.out 2
        have hfz9_3 := blk_frozen BK101.out 3
        have hfz9_4 := blk_frozen BK101.out 4
        have hfz9_5 := blk_frozen BK101.out 5
        go_wp2_with (first | ((with_reducible refine gate_callee (f := 39) rfl ?_); refine goesL_ (some 7) rfl rfl Try.func39 (by kernel_rfl) rfl #[.int .i64 a0_0, .int .i64 1, .int .i64 40] rfl (by (try simp only [List.map_toArray, List.map_cons, List.map_nil]); first | done | rfl | (simp only [List.length_drop, List.length_take]; rfl)) ?_; (with_reducible refine (spec_l1In.calls a0_0 1 40 true _ A4.out).mono ?_); rintro e w' ⟨rfl, ⟨nd, rfl⟩⟩; refine ⟨_, rfl, ?_⟩) | (go_at_call 39; (with_reducible refine (spec_l1In.calls a0_1 1 4 false _ A6.out).mono ?_); rintro e w' ⟨rfl, ⟨nd, rfl⟩⟩))
        go_meet
        case rel => exact ⟨_, (true), (by first | rfl | (simp; done) | (simp [*]; done)), H', ⟨by first | omega | exact Nat.le_refl _⟩, ⟨by (with_reducible repeat (first | refine blk_drewN ?_ _ | refine blk_drew ?_ | refine blk_alloc ?_ _)); exact BK101.out⟩, ⟨by repeat (first | (with_reducible first | exact HB.out | apply below_alloc | apply pw_below_drewN | apply below_drew1 | refine below_set ?_ GE101.out) | exact HB.out)⟩⟩
    · replace c5 := Bool.eq_false_iff.mpr c5
      subst c5
      have H1 : (spec_GoodBinary.j0 k true a0_0 a0_1 l0_2 l0_3 l0_4 l0_5) = some r := by rw [if_neg (show ¬ (false = true) by decide)] at H; exact H
      clear H
      have H := H1
      clear H1
      have H' := Aside0.mk H
      clear H
      have hcz10_0 : w3.cell? ⟨gb101, 0, none⟩ = some (.int .i64 a0_0) := (blk_cell BK101.out 0).trans rfl
      have hcz10_1 : w3.cell? ⟨gb101, 1, none⟩ = some (.int .i64 a0_1) := (blk_cell BK101.out 1).trans rfl
      have hcz10_2 : w3.cell? ⟨gb101, 2, none⟩ = some (.slice A0_2 l0_2.length c0_2) := (blk_cell BK101.out 2).trans rfl
      have hcz10_3 : w3.cell? ⟨gb101, 3, none⟩ = some (.slice A0_3 l0_3.length c0_3) := (blk_cell BK101.out 3).trans rfl
      have hcz10_4 : w3.cell? ⟨gb101, 4, none⟩ = some (.slice A0_4 l0_4.length c0_4) := (blk_cell BK101.out 4).trans rfl
      have hcz10_5 : w3.cell? ⟨gb101, 5, none⟩ = some (.slice A0_5 l0_5.length c0_5) := (blk_cell BK101.out 5).trans rfl
      have hfz10_0 := blk_frozen BK101.out 0
      have hfz10_1 := blk_frozen BK101.out 1
      have hfz10_2 := blk_frozen BK101.out 2
      have hfz10_3 := blk_frozen BK101.out 3
      have hfz10_4 := blk_frozen BK101.out 4
      have hfz10_5 := blk_frozen BK101.out 5
      go_wp2_with (first | ((with_reducible refine gate_callee (f := 39) rfl ?_); refine goesL_ (some 7) rfl rfl Try.func39 (by kernel_rfl) rfl #[.int .i64 a0_0, .int .i64 1, .int .i64 40] rfl (by (try simp only [List.map_toArray, List.map_cons, List.map_nil]); first | done | rfl | (simp only [List.length_drop, List.length_take]; rfl)) ?_; (with_reducible refine (spec_l1In.calls a0_0 1 40 false _ A4.out).mono ?_); rintro e w' ⟨rfl, ⟨nd, rfl⟩⟩; refine ⟨_, rfl, ?_⟩))
      go_meet
      case rel => exact ⟨_, (true), (by first | rfl | (simp; done) | (simp [*]; done)), H', ⟨by first | omega | exact Nat.le_refl _⟩, ⟨by (with_reducible repeat (first | refine blk_drewN ?_ _ | refine blk_drew ?_ | refine blk_alloc ?_ _)); exact BK101.out⟩, ⟨by repeat (first | (with_reducible first | exact HB.out | apply below_alloc | apply pw_below_drewN | apply below_drew1 | refine below_set ?_ GE101.out) | exact HB.out)⟩⟩
  case rest =>
    clear HC2
    try clear c1
    try clear p2
    try clear c3
    try clear c5
    try clear c7
    try clear hcz10_0
    try clear hcz10_1
    try clear hcz10_2
    try clear hcz10_3
    try clear hcz10_4
    try clear hcz10_5
    try clear hcz8_0
    try clear hcz8_1
    try clear hcz8_2
    try clear hcz8_3
    try clear hcz8_4
    try clear hcz8_5
    try clear hcz9_0
    try clear hcz9_1
    try clear hcz9_2
    try clear hcz9_3
    try clear hcz9_4
    try clear hcz9_5
    try clear hfz10_0
    try clear hfz10_1
    try clear hfz10_2
    try clear hfz10_3
    try clear hfz10_4
    try clear hfz10_5
    try clear hfz8_0
    try clear hfz8_1
    try clear hfz8_2
    try clear hfz8_3
    try clear hfz8_4
    try clear hfz8_5
    try clear hfz9_0
    try clear hfz9_1
    try clear hfz9_2
    try clear hfz9_3
    try clear hfz9_4
    try clear hfz9_5
    obtain ⟨kq, x22_1, rfl, HA, HJ1, BK101, HB⟩ := hcut
    cases kq with
    | zero => exact absurd HA.out (by simp [spec_GoodBinary.j0])
    | succ kj1 =>
      have H := HA.out
      clear HA
      simp only [spec_GoodBinary.j0] at H
      by_cases c11 : x22_1 = true
      · subst c11
        have H1 : (some false) = some r := by rw [if_pos rfl] at H; exact H
        clear H
        have H := H1
        clear H1
        obtain rfl := Option.some.inj H
        go_wp2
        go_ret
        exact ⟨by first | rfl | (simp [errW_none, errW_some] <;> rfl) | (simp [*, errW_none, errW_some] <;> rfl), by repeat (first | (with_reducible first | exact HB.out | apply below_alloc | apply pw_below_drewN | apply below_drew1 | refine below_set ?_ GE101.out) | exact HB.out)⟩
      · replace c11 := Bool.eq_false_iff.mpr c11
        subst c11
        have H1 : (spec_GoodBinary.l0 kj1 l0_5 (l0_5.length : Int) 0 a0_0 a0_1 l0_2 l0_3 l0_4 l0_5) = some r := by rw [if_neg (show ¬ (false = true) by decide)] at H; exact H
        clear H
        have H := H1
        clear H1
        have H' := Aside0.mk H
        clear H
        have hcz12_0 : wc.cell? ⟨gb101, 0, none⟩ = some (.int .i64 a0_0) := (blk_cell BK101.out 0).trans rfl
        have hcz12_1 : wc.cell? ⟨gb101, 1, none⟩ = some (.int .i64 a0_1) := (blk_cell BK101.out 1).trans rfl
        have hcz12_2 : wc.cell? ⟨gb101, 2, none⟩ = some (.slice A0_2 l0_2.length c0_2) := (blk_cell BK101.out 2).trans rfl
        have hcz12_3 : wc.cell? ⟨gb101, 3, none⟩ = some (.slice A0_3 l0_3.length c0_3) := (blk_cell BK101.out 3).trans rfl
        have hcz12_4 : wc.cell? ⟨gb101, 4, none⟩ = some (.slice A0_4 l0_4.length c0_4) := (blk_cell BK101.out 4).trans rfl
        have hcz12_5 : wc.cell? ⟨gb101, 5, none⟩ = some (.slice A0_5 l0_5.length c0_5) := (blk_cell BK101.out 5).trans rfl
        have hfz12_0 := blk_frozen BK101.out 0
        have hfz12_1 := blk_frozen BK101.out 1
        have hfz12_2 := blk_frozen BK101.out 2
        have hfz12_3 := blk_frozen BK101.out 3
        have hfz12_4 := blk_frozen BK101.out 4
        have hfz12_5 := blk_frozen BK101.out 5
        go_wp2
        go_loopg [26] kj1 (fun kq v26 w' => ∃ (x26_2 : Int), v26 = .int .i64 x26_2 ∧ Aside0 (spec_GoodBinary.l0 kq l0_5 (l0_5.length : Int) x26_2 a0_0 a0_1 l0_2 l0_3 l0_4 l0_5 = some r) ∧ Aside0 (kq ≤ kj1) ∧ Aside0 (w'.heap[gb101]? = some (.cells #[.int .i64 a0_0, .int .i64 a0_1, (.slice A0_2 l0_2.length c0_2), (.slice A0_3 l0_3.length c0_3), (.slice A0_4 l0_4.length c0_4), (.slice A0_5 l0_5.length c0_5)] 28 (0, 0))) ∧ Aside0 (Below w.heap.size w w'))
        case atStart => exact ⟨(0), (by first | rfl | (simp; done) | (simp [*]; done)), H', ⟨Nat.le_refl _⟩, ⟨by (with_reducible repeat (first | refine blk_drewN ?_ _ | refine blk_drew ?_ | refine blk_alloc ?_ _)); exact BK101.out⟩, ⟨by repeat (first | (with_reducible first | exact HB.out | apply below_alloc | apply pw_below_drewN | apply below_drew1 | refine below_set ?_ GE101.out) | exact HB.out)⟩⟩
        case round =>
          clear H'
          try clear c1
          try clear p2
          try clear c3
          try clear c5
          try clear c7
          try clear c11
          try clear hcz10_0
          try clear hcz10_1
          try clear hcz10_2
          try clear hcz10_3
          try clear hcz10_4
          try clear hcz10_5
          try clear hcz12_0
          try clear hcz12_1
          try clear hcz12_2
          try clear hcz12_3
          try clear hcz12_4
          try clear hcz12_5
          try clear hcz8_0
          try clear hcz8_1
          try clear hcz8_2
          try clear hcz8_3
          try clear hcz8_4
          try clear hcz8_5
          try clear hcz9_0
          try clear hcz9_1
          try clear hcz9_2
          try clear hcz9_3
          try clear hcz9_4
          try clear hcz9_5
          try clear hfz10_0
          try clear hfz10_1
          try clear hfz10_2
          try clear hfz10_3
          try clear hfz10_4
          try clear hfz10_5
          try clear hfz12_0
          try clear hfz12_1
          try clear hfz12_2
          try clear hfz12_3
          try clear hfz12_4
          try clear hfz12_5
          try clear hfz8_0
          try clear hfz8_1
          try clear hfz8_2
          try clear hfz8_3
          try clear hfz8_4
          try clear hfz8_5
          try clear hfz9_0
          try clear hfz9_1
          try clear hfz9_2
          try clear hfz9_3
          try clear hfz9_4
          try clear hfz9_5
          try clear p2
          obtain ⟨x26_2, rfl, HA, HK2, BK101, HB⟩ := hrel
          cases gk with
          | zero => exact absurd HA.out (by simp [spec_GoodBinary.l0])
          | succ k2 =>
            have H := HA.out
            clear HA
            simp only [spec_GoodBinary.l0] at H
            by_cases c13 : x26_2 < (l0_5.length : Int)
            · rw [if_pos c13] at H
              have c13b0 : decide (x26_2 < (l0_5.length : Int)) = true := decide_eq_true c13
              clear c13
              by_cases c14 : 0 ≤ x26_2
              · rw [if_pos c14] at H
                have c14b0 : decide (0 ≤ x26_2) = true := decide_eq_true c14
                clear c14
                by_cases c15 : x26_2 < (l0_5.length : Int)
                · rw [if_pos c15] at H
                  have c15b0 : decide (x26_2 < (l0_5.length : Int)) = true := decide_eq_true c15
                  clear c15
                  by_cases c16 : ((rd_L1 l0_5 x26_2).length : Int) = 2
                  · rw [if_pos c16] at H
                    have c16b0 : (((rd_L1 l0_5 x26_2).length : Int) == 2) = true := beq_iff_eq.mpr c16
                    have c16b1 : (((rd_L1 l0_5 x26_2).length : Int) != 2) = false := bne_eq_false_iff_eq.mpr c16
                    clear c16
                    have H' := Aside0.mk H
                    clear H
                    have p104 : 0 ≤ (x26_2 : Int) := of_decide_eq_true (by first | (with_reducible assumption) | assumption)
                    have q104 : x26_2 < (l0_5.length : Int) := of_decide_eq_true (by first | (with_reducible assumption) | assumption)
                    obtain ⟨ad104, A104_0, c104_0, e104, hx104_0, hl104_0, hi104_0⟩ := at_L1 HR0_5.out x26_2 p104 q104
                    cases e104
                    replace hx104_0 := (HB.out.cell (World.block_lt_of_cell? w _ hx104_0)).trans hx104_0
                    have HR104_0 := Aside0.mk hi104_0
                    have HC104_0 := Aside0.mk hl104_0
                    clear hi104_0 hl104_0
                    replace p104 := eq_true p104
                    replace q104 := eq_true q104
                    go_wp2
                    go_roundg k2
                    case measure => have := HJ1.out; have := HK2.out; omega
                    case rel => exact ⟨(wrap64 (x26_2 + 1)), (by first | rfl | (simp; done) | (simp [*]; done)), H', ⟨by have := HJ1.out; have := HK2.out; omega⟩, ⟨by (with_reducible repeat (first | refine blk_drewN ?_ _ | refine blk_drew ?_ | refine blk_alloc ?_ _)); exact BK101.out⟩, ⟨by repeat (first | (with_reducible first | exact HB.out | apply below_alloc | apply pw_below_drewN | apply below_drew1 | refine below_set ?_ GE101.out) | exact HB.out)⟩⟩
                  · rw [if_neg c16] at H
                    have c16b0 : (((rd_L1 l0_5 x26_2).length : Int) == 2) = false := beq_eq_false_iff_ne.mpr c16
                    have c16b1 : (((rd_L1 l0_5 x26_2).length : Int) != 2) = true := bne_iff_ne.mpr c16
                    obtain rfl := Option.some.inj H
                    have p104 : 0 ≤ (x26_2 : Int) := of_decide_eq_true (by first | (with_reducible assumption) | assumption)
                    have q104 : x26_2 < (l0_5.length : Int) := of_decide_eq_true (by first | (with_reducible assumption) | assumption)
                    obtain ⟨ad104, A104_0, c104_0, e104, hx104_0, hl104_0, hi104_0⟩ := at_L1 HR0_5.out x26_2 p104 q104
                    cases e104
                    replace hx104_0 := (HB.out.cell (World.block_lt_of_cell? w _ hx104_0)).trans hx104_0
                    have HR104_0 := Aside0.mk hi104_0
                    have HC104_0 := Aside0.mk hl104_0
                    clear hi104_0 hl104_0
                    replace p104 := eq_true p104
                    replace q104 := eq_true q104
                    go_wp2
                    go_ret
                    exact ⟨by first | rfl | (simp [errW_none, errW_some] <;> rfl) | (simp [*, errW_none, errW_some] <;> rfl), by repeat (first | (with_reducible first | exact HB.out | apply below_alloc | apply pw_below_drewN | apply below_drew1 | refine below_set ?_ GE101.out) | exact HB.out)⟩
                · rw [if_neg c15] at H
                  exact absurd H (by simp)
              · rw [if_neg c14] at H
                exact absurd H (by simp)
            · rw [if_neg c13] at H
              have c13b0 : decide (x26_2 < (l0_5.length : Int)) = false := decide_eq_false c13
              clear c13
              replace H := Option.bind_eq_some_iff.mp H
              obtain ⟨t105, A170, H⟩ := H
              replace H : (if t105 = true then ((spec_l5Rising.f a0_0 a0_1 l0_2 l0_3 l0_4 l0_5 l0_3 2).bind fun t106 => (if t106 = true then ((spec_l1Rising.f k2 l0_4 0 (wrap64 (a0_0 - 1))).bind fun t107 => (some t107)) else (some false))) else (some false)) = some r := H
              have A17 := Aside0.mk A170
              clear A170
              by_cases c18 : t105 = true
              · subst c18
                have H1 : ((spec_l5Rising.f a0_0 a0_1 l0_2 l0_3 l0_4 l0_5 l0_3 2).bind fun t106 => (if t106 = true then ((spec_l1Rising.f k2 l0_4 0 (wrap64 (a0_0 - 1))).bind fun t107 => (some t107)) else (some false))) = some r := by rw [if_pos rfl] at H; exact H
                clear H
                have H := H1
                clear H1
                replace H := Option.bind_eq_some_iff.mp H
                obtain ⟨t106, A190, H⟩ := H
                replace H : (if t106 = true then ((spec_l1Rising.f k2 l0_4 0 (wrap64 (a0_0 - 1))).bind fun t107 => (some t107)) else (some false)) = some r := H
                have A19 := Aside0.mk A190
                clear A190
                by_cases c20 : t106 = true
                · subst c20
                  have H1 : ((spec_l1Rising.f k2 l0_4 0 (wrap64 (a0_0 - 1))).bind fun t107 => (some t107)) = some r := by rw [if_pos rfl] at H; exact H
                  clear H
                  have H := H1
                  clear H1
                  replace H := Option.bind_eq_some_iff.mp H
                  obtain ⟨t107, A210, H⟩ := H
                  replace H : (some t107) = some r := H
                  have A21 := Aside0.mk A210
                  clear A210
                  obtain rfl := Option.some.inj H
                  have hcz22_0 : wr.cell? ⟨gb101, 0, none⟩ = some (.int .i64 a0_0) := (blk_cell BK101.out 0).trans rfl
                  have hcz22_1 : wr.cell? ⟨gb101, 1, none⟩ = some (.int .i64 a0_1) := (blk_cell BK101.out 1).trans rfl
                  have hcz22_2 : wr.cell? ⟨gb101, 2, none⟩ = some (.slice A0_2 l0_2.length c0_2) := (blk_cell BK101.out 2).trans rfl
                  have hcz22_3 : wr.cell? ⟨gb101, 3, none⟩ = some (.slice A0_3 l0_3.length c0_3) := (blk_cell BK101.out 3).trans rfl
                  have hcz22_4 : wr.cell? ⟨gb101, 4, none⟩ = some (.slice A0_4 l0_4.length c0_4) := (blk_cell BK101.out 4).trans rfl
                  have hcz22_5 : wr.cell? ⟨gb101, 5, none⟩ = some (.slice A0_5 l0_5.length c0_5) := (blk_cell BK101.out 5).trans rfl
                  have hfz22_0 := blk_frozen BK101.out 0
                  have hfz22_1 := blk_frozen BK101.out 1
                  have hfz22_2 := blk_frozen BK101.out 2
                  have hfz22_3 := blk_frozen BK101.out 3
                  have hfz22_4 := blk_frozen BK101.out 4
                  have hfz22_5 := blk_frozen BK101.out 5
                  go_wp2_with (first | ((with_reducible refine gate_callee (f := 40) rfl ?_); refine goesL_ (some 37) rfl rfl Try.func40 (by kernel_rfl) rfl #[.agg #[.int .i64 a0_0, .int .i64 a0_1, .slice A0_2 l0_2.length c0_2, .slice A0_3 l0_3.length c0_3, .slice A0_4 l0_4.length c0_4, .slice A0_5 l0_5.length c0_5], .slice A0_2 l0_2.length c0_2, .int .i64 3] rfl (by (try simp only [List.map_toArray, List.map_cons, List.map_nil]); first | done | rfl | (simp only [List.length_drop, List.length_take]; rfl)) ?_; (with_reducible refine (spec_l5Rising.calls a0_0 a0_1 _ _ l0_2 _ _ l0_3 _ _ l0_4 _ _ l0_5 _ _ l0_2 3 true _ ?side1 ?side2 ?side3 ?side4 ?side5 ?side6 ?side7 ?side8 ?side9 ?side10 A17.out).mono ?_); (case side1 => repeat (first | exact (Kd.C_below HR0_2.out HB.out) | (with_reducible refine Kd.C_alloc ?_ _) | (with_reducible refine Kd.C_drewN ?_ _) | (with_reducible refine Kd.C_drew ?_))); (case side2 => exact HC0_2.out); (case side3 => repeat (first | exact (Kd.C_below HR0_3.out HB.out) | (with_reducible refine Kd.C_alloc ?_ _) | (with_reducible refine Kd.C_drewN ?_ _) | (with_reducible refine Kd.C_drew ?_))); (case side4 => exact HC0_3.out); (case side5 => repeat (first | exact (Kd.C_below HR0_4.out HB.out) | (with_reducible refine Kd.C_alloc ?_ _) | (with_reducible refine Kd.C_drewN ?_ _) | (with_reducible refine Kd.C_drew ?_))); (case side6 => exact HC0_4.out); (case side7 => repeat (first | exact (Kd.C_below HR0_5.out HB.out) | (with_reducible refine Kd.C_alloc ?_ _) | (with_reducible refine Kd.C_drewN ?_ _) | (with_reducible refine Kd.C_drew ?_))); (case side8 => exact HC0_5.out); (case side9 => repeat (first | exact (Kd.C_below HR0_2.out HB.out) | (with_reducible refine Kd.C_alloc ?_ _) | (with_reducible refine Kd.C_drewN ?_ _) | (with_reducible refine Kd.C_drew ?_))); (case side10 => exact HC0_2.out); rintro e w23 ⟨rfl, hb⟩; refine ⟨_, rfl, ?_⟩; have n0_ := Aside0.mk (blk_below (g := gb101) (o := .cells #[.int .i64 a0_0, .int .i64 a0_1, .slice A0_2 l0_2.length c0_2, .slice A0_3 l0_3.length c0_3, .slice A0_4 l0_4.length c0_4, .slice A0_5 l0_5.length c0_5] 28 (0, 0)) (by (with_reducible repeat (first | refine blk_drewN ?_ _ | refine blk_drew ?_ | refine blk_alloc ?_ _)); exact BK101.out) hb); have n1_ := Aside0.mk (below_step (by repeat (first | (with_reducible first | exact HB.out | apply below_alloc | apply pw_below_drewN | apply below_drew1 | refine below_set ?_ GE101.out) | exact HB.out)) hb); clear BK101; clear HB; have BK101 := n0_; have HB := n1_; clear n0_ n1_; (try clear hb); (try clear hb2); (try clear hk); (try clear hi); have hcz24_0 : w23.cell? ⟨gb101, 0, none⟩ = some (.int .i64 a0_0) := (blk_cell BK101.out 0).trans rfl; have hcz24_1 : w23.cell? ⟨gb101, 1, none⟩ = some (.int .i64 a0_1) := (blk_cell BK101.out 1).trans rfl; have hcz24_2 : w23.cell? ⟨gb101, 2, none⟩ = some (.slice A0_2 l0_2.length c0_2) := (blk_cell BK101.out 2).trans rfl; have hcz24_3 : w23.cell? ⟨gb101, 3, none⟩ = some (.slice A0_3 l0_3.length c0_3) := (blk_cell BK101.out 3).trans rfl; have hcz24_4 : w23.cell? ⟨gb101, 4, none⟩ = some (.slice A0_4 l0_4.length c0_4) := (blk_cell BK101.out 4).trans rfl; have hcz24_5 : w23.cell? ⟨gb101, 5, none⟩ = some (.slice A0_5 l0_5.length c0_5) := (blk_cell BK101.out 5).trans rfl; have hfz24_0 := blk_frozen BK101.out 0; have hfz24_1 := blk_frozen BK101.out 1; have hfz24_2 := blk_frozen BK101.out 2; have hfz24_3 := blk_frozen BK101.out 3; have hfz24_4 := blk_frozen BK101.out 4; have hfz24_5 := blk_frozen BK101.out 5) | (go_at_call 40; (with_reducible refine (spec_l5Rising.calls a0_0 a0_1 _ _ l0_2 _ _ l0_3 _ _ l0_4 _ _ l0_5 _ _ l0_3 2 true _ ?side1 ?side2 ?side3 ?side4 ?side5 ?side6 ?side7 ?side8 ?side9 ?side10 A19.out).mono ?_); (case side1 => repeat (first | exact (Kd.C_below HR0_2.out HB.out) | (with_reducible refine Kd.C_alloc ?_ _) | (with_reducible refine Kd.C_drewN ?_ _) | (with_reducible refine Kd.C_drew ?_))); (case side2 => exact HC0_2.out); (case side3 => repeat (first | exact (Kd.C_below HR0_3.out HB.out) | (with_reducible refine Kd.C_alloc ?_ _) | (with_reducible refine Kd.C_drewN ?_ _) | (with_reducible refine Kd.C_drew ?_))); (case side4 => exact HC0_3.out); (case side5 => repeat (first | exact (Kd.C_below HR0_4.out HB.out) | (with_reducible refine Kd.C_alloc ?_ _) | (with_reducible refine Kd.C_drewN ?_ _) | (with_reducible refine Kd.C_drew ?_))); (case side6 => exact HC0_4.out); (case side7 => repeat (first | exact (Kd.C_below HR0_5.out HB.out) | (with_reducible refine Kd.C_alloc ?_ _) | (with_reducible refine Kd.C_drewN ?_ _) | (with_reducible refine Kd.C_drew ?_))); (case side8 => exact HC0_5.out); (case side9 => repeat (first | exact (Kd.C_below HR0_3.out HB.out) | (with_reducible refine Kd.C_alloc ?_ _) | (with_reducible refine Kd.C_drewN ?_ _) | (with_reducible refine Kd.C_drew ?_))); (case side10 => exact HC0_3.out); rintro e w25 ⟨rfl, hb⟩; have n0_ := Aside0.mk (blk_below (g := gb101) (o := .cells #[.int .i64 a0_0, .int .i64 a0_1, .slice A0_2 l0_2.length c0_2, .slice A0_3 l0_3.length c0_3, .slice A0_4 l0_4.length c0_4, .slice A0_5 l0_5.length c0_5] 28 (0, 0)) (by (with_reducible repeat (first | refine blk_drewN ?_ _ | refine blk_drew ?_ | refine blk_alloc ?_ _)); exact BK101.out) hb); have n1_ := Aside0.mk (below_step (by repeat (first | (with_reducible first | exact HB.out | apply below_alloc | apply pw_below_drewN | apply below_drew1 | refine below_set ?_ GE101.out) | exact HB.out)) hb); clear BK101; clear HB; have BK101 := n0_; have HB := n1_; clear n0_ n1_; (try clear hb); (try clear hb2); (try clear hk); (try clear hi); have hcz26_0 : w25.cell? ⟨gb101, 0, none⟩ = some (.int .i64 a0_0) := (blk_cell BK101.out 0).trans rfl; have hcz26_1 : w25.cell? ⟨gb101, 1, none⟩ = some (.int .i64 a0_1) := (blk_cell BK101.out 1).trans rfl; have hcz26_2 : w25.cell? ⟨gb101, 2, none⟩ = some (.slice A0_2 l0_2.length c0_2) := (blk_cell BK101.out 2).trans rfl; have hcz26_3 : w25.cell? ⟨gb101, 3, none⟩ = some (.slice A0_3 l0_3.length c0_3) := (blk_cell BK101.out 3).trans rfl; have hcz26_4 : w25.cell? ⟨gb101, 4, none⟩ = some (.slice A0_4 l0_4.length c0_4) := (blk_cell BK101.out 4).trans rfl; have hcz26_5 : w25.cell? ⟨gb101, 5, none⟩ = some (.slice A0_5 l0_5.length c0_5) := (blk_cell BK101.out 5).trans rfl; have hfz26_0 := blk_frozen BK101.out 0; have hfz26_1 := blk_frozen BK101.out 1; have hfz26_2 := blk_frozen BK101.out 2; have hfz26_3 := blk_frozen BK101.out 3; have hfz26_4 := blk_frozen BK101.out 4; have hfz26_5 := blk_frozen BK101.out 5) | (go_at_call 41; (with_reducible refine (spec_l1Rising.calls k2 _ _ l0_4 0 (wrap64 (a0_0 - 1)) t107 _ ?side1 ?side2 A21.out).mono ?_); (case side1 => repeat (first | exact (Kd.C_below HR0_4.out HB.out) | (with_reducible refine Kd.C_alloc ?_ _) | (with_reducible refine Kd.C_drewN ?_ _) | (with_reducible refine Kd.C_drew ?_))); (case side2 => exact HC0_4.out); rintro e w' ⟨rfl, ⟨nd, rfl⟩⟩))
                  go_ret
                  exact ⟨by first | rfl | (simp [errW_none, errW_some] <;> rfl) | (simp [*, errW_none, errW_some] <;> rfl), by repeat (first | (with_reducible first | exact HB.out | apply below_alloc | apply pw_below_drewN | apply below_drew1 | refine below_set ?_ GE101.out) | exact HB.out)⟩
                · replace c20 := Bool.eq_false_iff.mpr c20
                  subst c20
                  have H1 : (some false) = some r := by rw [if_neg (show ¬ (false = true) by decide)] at H; exact H
                  clear H
                  have H := H1
                  clear H1
                  obtain rfl := Option.some.inj H
                  have hcz27_0 : wr.cell? ⟨gb101, 0, none⟩ = some (.int .i64 a0_0) := (blk_cell BK101.out 0).trans rfl
                  have hcz27_1 : wr.cell? ⟨gb101, 1, none⟩ = some (.int .i64 a0_1) := (blk_cell BK101.out 1).trans rfl
                  have hcz27_2 : wr.cell? ⟨gb101, 2, none⟩ = some (.slice A0_2 l0_2.length c0_2) := (blk_cell BK101.out 2).trans rfl
                  have hcz27_3 : wr.cell? ⟨gb101, 3, none⟩ = some (.slice A0_3 l0_3.length c0_3) := (blk_cell BK101.out 3).trans rfl
                  have hcz27_4 : wr.cell? ⟨gb101, 4, none⟩ = some (.slice A0_4 l0_4.length c0_4) := (blk_cell BK101.out 4).trans rfl
                  have hcz27_5 : wr.cell? ⟨gb101, 5, none⟩ = some (.slice A0_5 l0_5.length c0_5) := (blk_cell BK101.out 5).trans rfl
                  have hfz27_0 := blk_frozen BK101.out 0
                  have hfz27_1 := blk_frozen BK101.out 1
                  have hfz27_2 := blk_frozen BK101.out 2
                  have hfz27_3 := blk_frozen BK101.out 3
                  have hfz27_4 := blk_frozen BK101.out 4
                  have hfz27_5 := blk_frozen BK101.out 5
                  go_wp2_with (first | ((with_reducible refine gate_callee (f := 40) rfl ?_); refine goesL_ (some 37) rfl rfl Try.func40 (by kernel_rfl) rfl #[.agg #[.int .i64 a0_0, .int .i64 a0_1, .slice A0_2 l0_2.length c0_2, .slice A0_3 l0_3.length c0_3, .slice A0_4 l0_4.length c0_4, .slice A0_5 l0_5.length c0_5], .slice A0_2 l0_2.length c0_2, .int .i64 3] rfl (by (try simp only [List.map_toArray, List.map_cons, List.map_nil]); first | done | rfl | (simp only [List.length_drop, List.length_take]; rfl)) ?_; (with_reducible refine (spec_l5Rising.calls a0_0 a0_1 _ _ l0_2 _ _ l0_3 _ _ l0_4 _ _ l0_5 _ _ l0_2 3 true _ ?side1 ?side2 ?side3 ?side4 ?side5 ?side6 ?side7 ?side8 ?side9 ?side10 A17.out).mono ?_); (case side1 => repeat (first | exact (Kd.C_below HR0_2.out HB.out) | (with_reducible refine Kd.C_alloc ?_ _) | (with_reducible refine Kd.C_drewN ?_ _) | (with_reducible refine Kd.C_drew ?_))); (case side2 => exact HC0_2.out); (case side3 => repeat (first | exact (Kd.C_below HR0_3.out HB.out) | (with_reducible refine Kd.C_alloc ?_ _) | (with_reducible refine Kd.C_drewN ?_ _) | (with_reducible refine Kd.C_drew ?_))); (case side4 => exact HC0_3.out); (case side5 => repeat (first | exact (Kd.C_below HR0_4.out HB.out) | (with_reducible refine Kd.C_alloc ?_ _) | (with_reducible refine Kd.C_drewN ?_ _) | (with_reducible refine Kd.C_drew ?_))); (case side6 => exact HC0_4.out); (case side7 => repeat (first | exact (Kd.C_below HR0_5.out HB.out) | (with_reducible refine Kd.C_alloc ?_ _) | (with_reducible refine Kd.C_drewN ?_ _) | (with_reducible refine Kd.C_drew ?_))); (case side8 => exact HC0_5.out); (case side9 => repeat (first | exact (Kd.C_below HR0_2.out HB.out) | (with_reducible refine Kd.C_alloc ?_ _) | (with_reducible refine Kd.C_drewN ?_ _) | (with_reducible refine Kd.C_drew ?_))); (case side10 => exact HC0_2.out); rintro e w28 ⟨rfl, hb⟩; refine ⟨_, rfl, ?_⟩; have n0_ := Aside0.mk (blk_below (g := gb101) (o := .cells #[.int .i64 a0_0, .int .i64 a0_1, .slice A0_2 l0_2.length c0_2, .slice A0_3 l0_3.length c0_3, .slice A0_4 l0_4.length c0_4, .slice A0_5 l0_5.length c0_5] 28 (0, 0)) (by (with_reducible repeat (first | refine blk_drewN ?_ _ | refine blk_drew ?_ | refine blk_alloc ?_ _)); exact BK101.out) hb); have n1_ := Aside0.mk (below_step (by repeat (first | (with_reducible first | exact HB.out | apply below_alloc | apply pw_below_drewN | apply below_drew1 | refine below_set ?_ GE101.out) | exact HB.out)) hb); clear BK101; clear HB; have BK101 := n0_; have HB := n1_; clear n0_ n1_; (try clear hb); (try clear hb2); (try clear hk); (try clear hi); have hcz29_0 : w28.cell? ⟨gb101, 0, none⟩ = some (.int .i64 a0_0) := (blk_cell BK101.out 0).trans rfl; have hcz29_1 : w28.cell? ⟨gb101, 1, none⟩ = some (.int .i64 a0_1) := (blk_cell BK101.out 1).trans rfl; have hcz29_2 : w28.cell? ⟨gb101, 2, none⟩ = some (.slice A0_2 l0_2.length c0_2) := (blk_cell BK101.out 2).trans rfl; have hcz29_3 : w28.cell? ⟨gb101, 3, none⟩ = some (.slice A0_3 l0_3.length c0_3) := (blk_cell BK101.out 3).trans rfl; have hcz29_4 : w28.cell? ⟨gb101, 4, none⟩ = some (.slice A0_4 l0_4.length c0_4) := (blk_cell BK101.out 4).trans rfl; have hcz29_5 : w28.cell? ⟨gb101, 5, none⟩ = some (.slice A0_5 l0_5.length c0_5) := (blk_cell BK101.out 5).trans rfl; have hfz29_0 := blk_frozen BK101.out 0; have hfz29_1 := blk_frozen BK101.out 1; have hfz29_2 := blk_frozen BK101.out 2; have hfz29_3 := blk_frozen BK101.out 3; have hfz29_4 := blk_frozen BK101.out 4; have hfz29_5 := blk_frozen BK101.out 5) | (go_at_call 40; (with_reducible refine (spec_l5Rising.calls a0_0 a0_1 _ _ l0_2 _ _ l0_3 _ _ l0_4 _ _ l0_5 _ _ l0_3 2 false _ ?side1 ?side2 ?side3 ?side4 ?side5 ?side6 ?side7 ?side8 ?side9 ?side10 A19.out).mono ?_); (case side1 => repeat (first | exact (Kd.C_below HR0_2.out HB.out) | (with_reducible refine Kd.C_alloc ?_ _) | (with_reducible refine Kd.C_drewN ?_ _) | (with_reducible refine Kd.C_drew ?_))); (case side2 => exact HC0_2.out); (case side3 => repeat (first | exact (Kd.C_below HR0_3.out HB.out) | (with_reducible refine Kd.C_alloc ?_ _) | (with_reducible refine Kd.C_drewN ?_ _) | (with_reducible refine Kd.C_drew ?_))); (case side4 => exact HC0_3.out); (case side5 => repeat (first | exact (Kd.C_below HR0_4.out HB.out) | (with_reducible refine Kd.C_alloc ?_ _) | (with_reducible refine Kd.C_drewN ?_ _) | (with_reducible refine Kd.C_drew ?_))); (case side6 => exact HC0_4.out); (case side7 => repeat (first | exact (Kd.C_below HR0_5.out HB.out) | (with_reducible refine Kd.C_alloc ?_ _) | (with_reducible refine Kd.C_drewN ?_ _) | (with_reducible refine Kd.C_drew ?_))); (case side8 => exact HC0_5.out); (case side9 => repeat (first | exact (Kd.C_below HR0_3.out HB.out) | (with_reducible refine Kd.C_alloc ?_ _) | (with_reducible refine Kd.C_drewN ?_ _) | (with_reducible refine Kd.C_drew ?_))); (case side10 => exact HC0_3.out); rintro e w30 ⟨rfl, hb⟩; have n0_ := Aside0.mk (blk_below (g := gb101) (o := .cells #[.int .i64 a0_0, .int .i64 a0_1, .slice A0_2 l0_2.length c0_2, .slice A0_3 l0_3.length c0_3, .slice A0_4 l0_4.length c0_4, .slice A0_5 l0_5.length c0_5] 28 (0, 0)) (by (with_reducible repeat (first | refine blk_drewN ?_ _ | refine blk_drew ?_ | refine blk_alloc ?_ _)); exact BK101.out) hb); have n1_ := Aside0.mk (below_step (by repeat (first | (with_reducible first | exact HB.out | apply below_alloc | apply pw_below_drewN | apply below_drew1 | refine below_set ?_ GE101.out) | exact HB.out)) hb); clear BK101; clear HB; have BK101 := n0_; have HB := n1_; clear n0_ n1_; (try clear hb); (try clear hb2); (try clear hk); (try clear hi)))
                  go_ret
                  exact ⟨by first | rfl | (simp [errW_none, errW_some] <;> rfl) | (simp [*, errW_none, errW_some] <;> rfl), by repeat (first | (with_reducible first | exact HB.out | apply below_alloc | apply pw_below_drewN | apply below_drew1 | refine below_set ?_ GE101.out) | exact HB.out)⟩
              · replace c18 := Bool.eq_false_iff.mpr c18
                subst c18
                have H1 : (some false) = some r := by rw [if_neg (show ¬ (false = true) by decide)] at H; exact H
                clear H
                have H := H1
                clear H1
                obtain rfl := Option.some.inj H
                have hcz31_0 : wr.cell? ⟨gb101, 0, none⟩ = some (.int .i64 a0_0) := (blk_cell BK101.out 0).trans rfl
                have hcz31_1 : wr.cell? ⟨gb101, 1, none⟩ = some (.int .i64 a0_1) := (blk_cell BK101.out 1).trans rfl
                have hcz31_2 : wr.cell? ⟨gb101, 2, none⟩ = some (.slice A0_2 l0_2.length c0_2) := (blk_cell BK101.out 2).trans rfl
                have hcz31_3 : wr.cell? ⟨gb101, 3, none⟩ = some (.slice A0_3 l0_3.length c0_3) := (blk_cell BK101.out 3).trans rfl
                have hcz31_4 : wr.cell? ⟨gb101, 4, none⟩ = some (.slice A0_4 l0_4.length c0_4) := (blk_cell BK101.out 4).trans rfl
                have hcz31_5 : wr.cell? ⟨gb101, 5, none⟩ = some (.slice A0_5 l0_5.length c0_5) := (blk_cell BK101.out 5).trans rfl
                have hfz31_0 := blk_frozen BK101.out 0
                have hfz31_1 := blk_frozen BK101.out 1
                have hfz31_2 := blk_frozen BK101.out 2
                have hfz31_3 := blk_frozen BK101.out 3
                have hfz31_4 := blk_frozen BK101.out 4
                have hfz31_5 := blk_frozen BK101.out 5
                go_wp2_with (first | ((with_reducible refine gate_callee (f := 40) rfl ?_); refine goesL_ (some 37) rfl rfl Try.func40 (by kernel_rfl) rfl #[.agg #[.int .i64 a0_0, .int .i64 a0_1, .slice A0_2 l0_2.length c0_2, .slice A0_3 l0_3.length c0_3, .slice A0_4 l0_4.length c0_4, .slice A0_5 l0_5.length c0_5], .slice A0_2 l0_2.length c0_2, .int .i64 3] rfl (by (try simp only [List.map_toArray, List.map_cons, List.map_nil]); first | done | rfl | (simp only [List.length_drop, List.length_take]; rfl)) ?_; (with_reducible refine (spec_l5Rising.calls a0_0 a0_1 _ _ l0_2 _ _ l0_3 _ _ l0_4 _ _ l0_5 _ _ l0_2 3 false _ ?side1 ?side2 ?side3 ?side4 ?side5 ?side6 ?side7 ?side8 ?side9 ?side10 A17.out).mono ?_); (case side1 => repeat (first | exact (Kd.C_below HR0_2.out HB.out) | (with_reducible refine Kd.C_alloc ?_ _) | (with_reducible refine Kd.C_drewN ?_ _) | (with_reducible refine Kd.C_drew ?_))); (case side2 => exact HC0_2.out); (case side3 => repeat (first | exact (Kd.C_below HR0_3.out HB.out) | (with_reducible refine Kd.C_alloc ?_ _) | (with_reducible refine Kd.C_drewN ?_ _) | (with_reducible refine Kd.C_drew ?_))); (case side4 => exact HC0_3.out); (case side5 => repeat (first | exact (Kd.C_below HR0_4.out HB.out) | (with_reducible refine Kd.C_alloc ?_ _) | (with_reducible refine Kd.C_drewN ?_ _) | (with_reducible refine Kd.C_drew ?_))); (case side6 => exact HC0_4.out); (case side7 => repeat (first | exact (Kd.C_below HR0_5.out HB.out) | (with_reducible refine Kd.C_alloc ?_ _) | (with_reducible refine Kd.C_drewN ?_ _) | (with_reducible refine Kd.C_drew ?_))); (case side8 => exact HC0_5.out); (case side9 => repeat (first | exact (Kd.C_below HR0_2.out HB.out) | (with_reducible refine Kd.C_alloc ?_ _) | (with_reducible refine Kd.C_drewN ?_ _) | (with_reducible refine Kd.C_drew ?_))); (case side10 => exact HC0_2.out); rintro e w32 ⟨rfl, hb⟩; refine ⟨_, rfl, ?_⟩; have n0_ := Aside0.mk (blk_below (g := gb101) (o := .cells #[.int .i64 a0_0, .int .i64 a0_1, .slice A0_2 l0_2.length c0_2, .slice A0_3 l0_3.length c0_3, .slice A0_4 l0_4.length c0_4, .slice A0_5 l0_5.length c0_5] 28 (0, 0)) (by (with_reducible repeat (first | refine blk_drewN ?_ _ | refine blk_drew ?_ | refine blk_alloc ?_ _)); exact BK101.out) hb); have n1_ := Aside0.mk (below_step (by repeat (first | (with_reducible first | exact HB.out | apply below_alloc | apply pw_below_drewN | apply below_drew1 | refine below_set ?_ GE101.out) | exact HB.out)) hb); clear BK101; clear HB; have BK101 := n0_; have HB := n1_; clear n0_ n1_; (try clear hb); (try clear hb2); (try clear hk); (try clear hi)))
                go_ret
                exact ⟨by first | rfl | (simp [errW_none, errW_some] <;> rfl) | (simp [*, errW_none, errW_some] <;> rfl), by repeat (first | (with_reducible first | exact HB.out | apply below_alloc | apply pw_below_drewN | apply below_drew1 | refine below_set ?_ GE101.out) | exact HB.out)⟩

end Go.Proofs.Ytiibhogpkhdfjaa.P

/-! PG -/
/- Plain lists: GoodBinary of the reference answers what the program's isBinary answers. -/
namespace Go.Proofs.Ytiibhogpkhdfjaa.P
open Go.RowKit Go.Proofs.YtiibhogpkhdfjaaW.PrintWords
set_option linter.unusedVariables false
set_option linter.unusedSimpArgs false

theorem l1Rising_loop (l : List Int) (lo hi : Int) (hb : l.length ≤ 9223372036854775807) (d : Nat) : ∀ (k i : Nat), i ≤ l.length → l.length - i = d → d < k →
    spec_l1Rising.l0 k l lo hi l l.length i = some (riseF lo hi (prevI l i) (l.drop i)) := by
  induction d with
  | zero =>
    intro k i h1 hd hk
    obtain ⟨k, rfl⟩ : ∃ m, k = m + 1 := ⟨k - 1, by omega⟩
    simp only [spec_l1Rising.l0]
    rw [if_neg (by omega), List.drop_of_length_le (show l.length ≤ i by omega)]
    cases i <;> rfl
  | succ d ih =>
    intro k i h1 hd hk
    obtain ⟨k, rfl⟩ : ∃ m, k = m + 1 := ⟨k - 1, by omega⟩
    have hi2 := ih k (i + 1) (by omega) (by omega) (by omega)
    simp only [spec_l1Rising.l0]
    rw [if_pos (by omega), if_pos (by omega), if_pos (by omega), l1In_eq, getD_drop l i 0 (by omega)]
    simp only [Option.bind_some]
    have e0 : l.getD i 0 = rd l i := rfl
    rw [e0]
    have ew : wrap64 ((i : Int) + 1) = ((i + 1 : Nat) : Int) := by unfold wrap64; omega
    have er : ∀ p m, riseF lo hi p (rd l i :: m) = (decide (lo ≤ rd l i ∧ rd l i ≤ hi) && ((match p with | none => true | some y => decide (y < rd l i)) && riseF lo hi (some (rd l i)) m)) := fun _ _ => rfl
    rw [er]
    by_cases h : lo ≤ rd l i ∧ rd l i ≤ hi
    · rw [if_pos (decide_eq_true h), decide_eq_true h, Bool.true_and]
      cases i with
      | zero => rw [if_neg (by simp), ew, hi2]; rfl
      | succ i =>
        have e1 : wrap64 (((i + 1 : Nat) : Int) - 1) = (i : Int) := by unfold wrap64; omega
        rw [if_pos (by omega), e1, if_pos (by omega), if_pos (by omega)]
        show _ = some (decide (rd l i < rd l ((i + 1 : Nat) : Int)) && _)
        by_cases h2 : rd l i < rd l ((i + 1 : Nat) : Int)
        · rw [if_neg (by omega), ew, hi2, decide_eq_true h2]; rfl
        · rw [if_pos (by omega), decide_eq_false h2]; rfl
    · rw [if_neg (by rw [decide_eq_false h]; exact Bool.false_ne_true), decide_eq_false h, Bool.false_and]
theorem l1Rising_eq (l : List Int) (lo hi : Int) (hb : l.length ≤ 9223372036854775807) (k : Nat) (hk : l.length < k) : spec_l1Rising.f k l lo hi = some (riseF lo hi none l) := by
  unfold spec_l1Rising.f
  have := l1Rising_loop l lo hi hb l.length k 0 (by omega) (by omega) hk
  simpa [prevI] using this
theorem goodB_from (a0 a1 : Int) (l2 l3 : List (List Int)) (l4 : List Int) (l5 : List (List Int)) (h : smallB l2 l3 l4 l5) (d : Nat) : ∀ (i : Nat), i ≤ l5.length → l5.length - i = d →
    Ev (fun k => spec_GoodBinary.l0 k l5 l5.length i a0 a1 l2 l3 l4 l5) (!((l5.drop i).any fun f => (f.length : Int) != 2) && (listsF a0 a1 3 none l2 && (listsF a0 a1 2 none l3 && riseF 0 (wrap64 (a0 - 1)) none l4))) := by
  have hb5 := h.2.2.2.1
  have hb4 := h.2.2.1
  induction d with
  | zero =>
    intro i h1 hd
    refine ⟨l4.length + 2, fun k hk => ?_⟩
    dsimp only
    obtain ⟨k, rfl⟩ : ∃ m, k = m + 1 := ⟨k - 1, by omega⟩
    simp only [spec_GoodBinary.l0]
    rw [if_neg (by omega), List.drop_of_length_le (by omega)]
    unfold spec_l5Rising.f
    rw [if_pos (by decide), if_pos (by decide)]
    simp only [Option.bind_some]
    cases listsF a0 a1 3 none l2 with
    | false => rfl
    | true =>
      rw [if_pos rfl]
      cases listsF a0 a1 2 none l3 with
      | false => rfl
      | true =>
        rw [if_pos rfl, l1Rising_eq l4 0 (wrap64 (a0 - 1)) (by omega) k (by omega)]; rfl
  | succ d ih =>
    intro i h1 hd
    obtain ⟨K, hi⟩ := ih (i + 1) (by omega) (by omega)
    dsimp only at hi
    refine ⟨K + 1, fun k hk => ?_⟩
    dsimp only
    obtain ⟨k, rfl⟩ : ∃ m, k = m + 1 := ⟨k - 1, by omega⟩
    simp only [spec_GoodBinary.l0]
    rw [if_pos (by omega), if_pos (by omega), if_pos (by omega), getD_drop l5 i [] (by omega), List.any_cons]
    have e0 : l5.getD i [] = rd_L1 l5 i := rfl
    rw [e0]
    by_cases h2 : ((rd_L1 l5 i).length : Int) = 2
    · rw [if_pos h2, show wrap64 ((i : Int) + 1) = ((i + 1 : Nat) : Int) by unfold wrap64; omega, hi k (by omega), show (((rd_L1 l5 i).length : Int) != 2) = false by rw [h2]; rfl, Bool.false_or]
    · rw [if_neg h2, show (((rd_L1 l5 i).length : Int) != 2) = true by simpa using h2]; rfl
theorem spec_GoodBinary_ev (a0 a1 : Int) (l2 l3 : List (List Int)) (l4 : List Int) (l5 : List (List Int)) (h : smallB l2 l3 l4 l5) : Ev (fun k => spec_GoodBinary.f k a0 a1 l2 l3 l4 l5) (goodB a0 a1 l2 l3 l4 l5) := by
  obtain ⟨K, hk0⟩ := goodB_from a0 a1 l2 l3 l4 l5 h l5.length 0 (by omega) (by omega)
  dsimp only at hk0
  rw [List.drop_zero] at hk0
  refine ⟨K + 1, fun k hk => ?_⟩
  dsimp only
  obtain ⟨k, rfl⟩ : ∃ m, k = m + 1 := ⟨k - 1, by omega⟩
  unfold spec_GoodBinary.f goodB
  rw [l1In_eq, l1In_eq]
  simp only [Option.bind_some]
  by_cases h1 : 1 ≤ a0 ∧ a0 ≤ 40
  · rw [decide_eq_true h1, if_pos rfl]
    by_cases h2 : 1 ≤ a1 ∧ a1 ≤ 4
    · rw [decide_eq_true h2, if_pos rfl]
      simp only [spec_GoodBinary.j0]
      by_cases h3 : (l5.length : Int) ≤ a0
      · rw [decide_eq_false (by omega), if_neg (by decide), decide_eq_true h3]
        have := hk0 k (by omega)
        rw [show ((0 : Nat) : Int) = 0 from rfl] at this
        rw [this]
        congr 1
        cases (l5.any fun f => (f.length : Int) != 2) <;> cases listsF a0 a1 3 none l2 <;> cases listsF a0 a1 2 none l3 <;> cases riseF 0 (wrap64 (a0 - 1)) none l4 <;> rfl
      · rw [decide_eq_true (by omega), if_pos rfl, decide_eq_false h3]
        cases riseF 0 (wrap64 (a0 - 1)) none l4 <;> rfl
    · rw [decide_eq_false h2, if_neg (by decide)]
      simp only [spec_GoodBinary.j0]
      rfl
  · rw [decide_eq_false h1, if_neg (by decide)]
    simp only [spec_GoodBinary.j0]
    rfl
end Go.Proofs.Ytiibhogpkhdfjaa.P

