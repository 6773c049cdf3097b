/- A part of the proofs of some laws of this seat (words of the print and texts of this session, without what these laws do not use). -/
import Derived.Test.YtkocahlifffgjaaV1
import Derived.Shelf.Abstract
namespace Go.Proofs.Ytkocahlifffgjaa.P
open Go.RowKit Go.Proofs.YtkocahlifffgjaaW.PrintWords Go.Proofs.YtkocahlifffgjaaW.PrintLast Go.Proofs.YtkocahlifffgjaaW.PrintMore
attribute [local go_sem] max2_int min2_int max_two min_two max_three min_three max_four min_four
set_option linter.unusedVariables false
set_option linter.unusedSimpArgs false
def laws_eqIntSS.l0 : Nat → List (List Int) → List (List Int) → Int → Option (Bool)
 | 0, _, _, _ => none
 | k + 1, x0, x1, x5 => if x5 < (x0.length : Int) then (if 0 ≤ x5 then (if x5 < (x1.length : Int) then ((laws_eqIntS.f k (rd_L1 x0 x5) (rd_L1 x1 x5)).bind fun t103 => (if t103 = true then (laws_eqIntSS.l0 k x0 x1 (wrap64 (x5 + 1))) else (some false))) else (none)) else (none)) else (some true)
def laws_eqIntSS.f (k : Nat) (l0 : List (List Int)) (l1 : List (List Int)) : Option (Bool) := if (l0.length : Int) = (l1.length : Int) then (laws_eqIntSS.l0 k l0 l1 0) else (some false)
set_option maxHeartbeats 8000000 in
set_option maxRecDepth 100000 in
theorem laws_eqIntSS.calls (k : Nat) (A0 : Option Addr) (c0 : Nat) (l0 : List (List Int)) (A1 : Option Addr) (c1 : Nat) (l1 : List (List Int)) (r : Bool) (w : World) (hr0 : Kd.C (Kd.slice 3 (Kd.int .i64)) w A0 l0.length l0) (hc0 : l0.length ≤ c0) (hr1 : Kd.C (Kd.slice 3 (Kd.int .i64)) w A1 l1.length l1) (hc1 : l1.length ≤ c1) (h : laws_eqIntSS.f k l0 l1 = some r) :
 Calls Try.prog 16 #[.slice A0 l0.length c0, .slice A1 l1.length c1] w fun e w' => e = .returned (.bool r) ∧ Drawn0 w w' := by
 have HR0 := Aside0.mk hr0; have HC0 := Aside0.mk hc0; clear hr0 hc0; have HR1 := Aside0.mk hr1; have HC1 := Aside0.mk hc1; clear hr1 hc1; have H : (if (l0.length : Int) = (l1.length : Int) then (laws_eqIntSS.l0 k l0 l1 0) else (some false)) = some r := h; clear h; by_cases c3 : (l0.length : Int) = (l1.length : Int)
 · rw [if_pos c3] at H; have c3b0 : ((l0.length : Int) == (l1.length : Int)) = true := beq_iff_eq.mpr c3; have c3b1 : ((l0.length : Int) != (l1.length : Int)) = false := bne_eq_false_iff_eq.mpr c3; have c3b2 : (l0.length == l1.length) = true := by first | simpa using c3 | (simp at c3 ⊢; omega)
   clear c3; have H' := Aside0.mk H; clear H; go_enter Try.func16, Try.ntmps16; go_wp2; (repeat (go_quiet (fail); try go_wp2)); go_loopg [5] k (fun kq v5 w' => ∃ (x5_1 : Int), v5 = .int .i64 x5_1 ∧ Aside0 (laws_eqIntSS.l0 kq l0 l1 x5_1 = some r) ∧ Aside0 (kq ≤ k) ∧ Drawn0 w w')
   case atStart => exact ⟨(0), (by first | rfl | (simp; done) | (simp [*]; done)), H', ⟨Nat.le_refl _⟩, by repeat (first | exact Drawn0.refl _ | apply Drawn0.step)⟩
   case round =>
    clear H'; (try clear c1); (try clear p2); (try clear c3); (try clear c3b0); (try clear c3b1); (try clear c3b2); obtain ⟨x5_1, rfl, HA, HK1, ⟨m1, rfl⟩⟩ := hrel; cases gk with
    | zero => exact absurd HA.out (by simp [laws_eqIntSS.l0])
    | succ k1 =>
     have H := HA.out; clear HA; simp only [laws_eqIntSS.l0] at H; by_cases c4 : x5_1 < (l0.length : Int)
     · rw [if_pos c4] at H; have c4b0 : decide (x5_1 < (l0.length : Int)) = true := decide_eq_true c4; clear c4; by_cases c5 : 0 ≤ x5_1
       · rw [if_pos c5] at H; have c5b0 : decide (0 ≤ x5_1) = true := decide_eq_true c5; clear c5; by_cases c6 : x5_1 < (l1.length : Int)
         · rw [if_pos c6] at H; have c6b0 : decide (x5_1 < (l1.length : Int)) = true := decide_eq_true c6; clear c6; replace H := Option.bind_eq_some_iff.mp H; obtain ⟨t103, A70, H⟩ := H; replace H : (if t103 = true then (laws_eqIntSS.l0 k1 l0 l1 (wrap64 (x5_1 + 1))) else (some false)) = some r := H; have A7 := Aside0.mk A70; clear A70; by_cases c8 : t103 = true
           · subst c8; have H1 : (laws_eqIntSS.l0 k1 l0 l1 (wrap64 (x5_1 + 1))) = some r := by rw [if_pos rfl] at H; exact H
             clear H; have H := H1; clear H1; have H' := Aside0.mk H; clear H; have p101 : 0 ≤ (x5_1 : Int) := of_decide_eq_true (by assumption); have q101 : x5_1 < (l0.length : Int) := of_decide_eq_true (by assumption); obtain ⟨ad101, A101_0, c101_0, e101, hx101_0, hl101_0, hi101_0⟩ := at_L1 HR0.out x5_1 p101 q101; cases e101; have HR101_0 := Aside0.mk hi101_0; have HC101_0 := Aside0.mk hl101_0; clear hi101_0 hl101_0; replace p101 := eq_true p101; replace q101 := eq_true q101; have p102 : 0 ≤ (x5_1 : Int) := of_decide_eq_true (by assumption); have q102 : x5_1 < (l1.length : Int) := of_decide_eq_true (by assumption); obtain ⟨ad102, A102_0, c102_0, e102, hx102_0, hl102_0, hi102_0⟩ := at_L1 HR1.out x5_1 p102 q102; cases e102; have HR102_0 := Aside0.mk hi102_0; have HC102_0 := Aside0.mk hl102_0; clear hi102_0 hl102_0; replace p102 := eq_true p102; replace q102 := eq_true q102; go_wp2_with (first | (go_at_call 23; (with_reducible refine (laws_eqIntS.calls k1 _ _ (rd_L1 l0 x5_1) _ _ (rd_L1 l1 x5_1) true _ ?side1 ?side2 ?side3 ?side4 A7.out).mono ?_); (case side1 => repeat (first | exact HR101_0.out | refine Kd.C_alloc ?_ _ | refine Kd.C_drewN ?_ _ | refine Kd.C_drew ?_)); (case side2 => exact HC101_0.out); (case side3 => repeat (first | exact HR102_0.out | refine Kd.C_alloc ?_ _ | refine Kd.C_drewN ?_ _ | refine Kd.C_drew ?_)); (case side4 => exact HC102_0.out); rintro e w' ⟨rfl, ⟨nd, rfl⟩⟩; (try first | exact ⟨rfl, _, World.drewN_drewN _ _ _⟩ | exact ⟨rfl, _, Eq.trans (World.drewN_drewN _ _ _) (congrArg (World.drewN _) (Nat.add_assoc _ _ _))⟩))); repeat (go_quiet (first | (go_at_call 23; (with_reducible refine (laws_eqIntS.calls k1 _ _ (rd_L1 l0 x5_1) _ _ (rd_L1 l1 x5_1) true _ ?side1 ?side2 ?side3 ?side4 A7.out).mono ?_); (case side1 => repeat (first | exact HR101_0.out | refine Kd.C_alloc ?_ _ | refine Kd.C_drewN ?_ _ | refine Kd.C_drew ?_)); (case side2 => exact HC101_0.out); (case side3 => repeat (first | exact HR102_0.out | refine Kd.C_alloc ?_ _ | refine Kd.C_drewN ?_ _ | refine Kd.C_drew ?_)); (case side4 => exact HC102_0.out); rintro e w' ⟨rfl, ⟨nd, rfl⟩⟩; (try first | exact ⟨rfl, _, World.drewN_drewN _ _ _⟩ | exact ⟨rfl, _, Eq.trans (World.drewN_drewN _ _ _) (congrArg (World.drewN _) (Nat.add_assoc _ _ _))⟩))); try go_wp2_with (first | (go_at_call 23; (with_reducible refine (laws_eqIntS.calls k1 _ _ (rd_L1 l0 x5_1) _ _ (rd_L1 l1 x5_1) true _ ?side1 ?side2 ?side3 ?side4 A7.out).mono ?_); (case side1 => repeat (first | exact HR101_0.out | refine Kd.C_alloc ?_ _ | refine Kd.C_drewN ?_ _ | refine Kd.C_drew ?_)); (case side2 => exact HC101_0.out); (case side3 => repeat (first | exact HR102_0.out | refine Kd.C_alloc ?_ _ | refine Kd.C_drewN ?_ _ | refine Kd.C_drew ?_)); (case side4 => exact HC102_0.out); rintro e w' ⟨rfl, ⟨nd, rfl⟩⟩; (try first | exact ⟨rfl, _, World.drewN_drewN _ _ _⟩ | exact ⟨rfl, _, Eq.trans (World.drewN_drewN _ _ _) (congrArg (World.drewN _) (Nat.add_assoc _ _ _))⟩))))
             go_roundg k1
             case measure => have := HK1.out; omega
             case rel => exact ⟨(wrap64 (x5_1 + 1)), (by first | rfl | (simp; done) | (simp [*]; done)), H', ⟨by have := HK1.out; omega⟩, by repeat (first | exact Drawn0.refl _ | apply Drawn0.step)⟩
           · replace c8 := Bool.eq_false_iff.mpr c8; subst c8; have H1 : (some false) = some r := by rw [if_neg (show ¬ (false = true) by decide)] at H; exact H
             clear H; have H := H1; clear H1; obtain rfl := Option.some.inj H; have p101 : 0 ≤ (x5_1 : Int) := of_decide_eq_true (by assumption); have q101 : x5_1 < (l0.length : Int) := of_decide_eq_true (by assumption); obtain ⟨ad101, A101_0, c101_0, e101, hx101_0, hl101_0, hi101_0⟩ := at_L1 HR0.out x5_1 p101 q101; cases e101; have HR101_0 := Aside0.mk hi101_0; have HC101_0 := Aside0.mk hl101_0; clear hi101_0 hl101_0; replace p101 := eq_true p101; replace q101 := eq_true q101; have p102 : 0 ≤ (x5_1 : Int) := of_decide_eq_true (by assumption); have q102 : x5_1 < (l1.length : Int) := of_decide_eq_true (by assumption); obtain ⟨ad102, A102_0, c102_0, e102, hx102_0, hl102_0, hi102_0⟩ := at_L1 HR1.out x5_1 p102 q102; cases e102; have HR102_0 := Aside0.mk hi102_0; have HC102_0 := Aside0.mk hl102_0; clear hi102_0 hl102_0; replace p102 := eq_true p102; replace q102 := eq_true q102; go_wp2_with (first | (go_at_call 23; (with_reducible refine (laws_eqIntS.calls k1 _ _ (rd_L1 l0 x5_1) _ _ (rd_L1 l1 x5_1) false _ ?side1 ?side2 ?side3 ?side4 A7.out).mono ?_); (case side1 => repeat (first | exact HR101_0.out | refine Kd.C_alloc ?_ _ | refine Kd.C_drewN ?_ _ | refine Kd.C_drew ?_)); (case side2 => exact HC101_0.out); (case side3 => repeat (first | exact HR102_0.out | refine Kd.C_alloc ?_ _ | refine Kd.C_drewN ?_ _ | refine Kd.C_drew ?_)); (case side4 => exact HC102_0.out); rintro e w' ⟨rfl, ⟨nd, rfl⟩⟩; (try first | exact ⟨rfl, _, World.drewN_drewN _ _ _⟩ | exact ⟨rfl, _, Eq.trans (World.drewN_drewN _ _ _) (congrArg (World.drewN _) (Nat.add_assoc _ _ _))⟩))); (repeat (go_quiet (first | (go_at_call 23; (with_reducible refine (laws_eqIntS.calls k1 _ _ (rd_L1 l0 x5_1) _ _ (rd_L1 l1 x5_1) false _ ?side1 ?side2 ?side3 ?side4 A7.out).mono ?_); (case side1 => repeat (first | exact HR101_0.out | refine Kd.C_alloc ?_ _ | refine Kd.C_drewN ?_ _ | refine Kd.C_drew ?_)); (case side2 => exact HC101_0.out); (case side3 => repeat (first | exact HR102_0.out | refine Kd.C_alloc ?_ _ | refine Kd.C_drewN ?_ _ | refine Kd.C_drew ?_)); (case side4 => exact HC102_0.out); rintro e w' ⟨rfl, ⟨nd, rfl⟩⟩; (try first | exact ⟨rfl, _, World.drewN_drewN _ _ _⟩ | exact ⟨rfl, _, Eq.trans (World.drewN_drewN _ _ _) (congrArg (World.drewN _) (Nat.add_assoc _ _ _))⟩))); try go_wp2_with (first | (go_at_call 23; (with_reducible refine (laws_eqIntS.calls k1 _ _ (rd_L1 l0 x5_1) _ _ (rd_L1 l1 x5_1) false _ ?side1 ?side2 ?side3 ?side4 A7.out).mono ?_); (case side1 => repeat (first | exact HR101_0.out | refine Kd.C_alloc ?_ _ | refine Kd.C_drewN ?_ _ | refine Kd.C_drew ?_)); (case side2 => exact HC101_0.out); (case side3 => repeat (first | exact HR102_0.out | refine Kd.C_alloc ?_ _ | refine Kd.C_drewN ?_ _ | refine Kd.C_drew ?_)); (case side4 => exact HC102_0.out); rintro e w' ⟨rfl, ⟨nd, rfl⟩⟩; (try first | exact ⟨rfl, _, World.drewN_drewN _ _ _⟩ | exact ⟨rfl, _, Eq.trans (World.drewN_drewN _ _ _) (congrArg (World.drewN _) (Nat.add_assoc _ _ _))⟩))))); go_ret; exact ⟨by first | rfl | (simp; done) | (simp [*]; done), by repeat (first | exact Drawn0.refl _ | apply Drawn0.step)⟩
         · rw [if_neg c6] at H; exact absurd H (by simp)
       · rw [if_neg c5] at H; exact absurd H (by simp)
     · rw [if_neg c4] at H; have c4b0 : decide (x5_1 < (l0.length : Int)) = false := decide_eq_false c4; clear c4; obtain rfl := Option.some.inj H; go_wp2; (repeat (go_quiet (fail); try go_wp2)); go_ret; exact ⟨by first | rfl | (simp; done) | (simp [*]; done), by repeat (first | exact Drawn0.refl _ | apply Drawn0.step)⟩
 · rw [if_neg c3] at H; have c3b0 : ((l0.length : Int) == (l1.length : Int)) = false := beq_eq_false_iff_ne.mpr c3; have c3b1 : ((l0.length : Int) != (l1.length : Int)) = true := bne_iff_ne.mpr c3; have c3b2 : (l0.length == l1.length) = false := by first | simpa using c3 | (simp at c3 ⊢; omega)
   obtain rfl := Option.some.inj H; go_enter Try.func16, Try.ntmps16; go_wp2; (repeat (go_quiet (fail); try go_wp2)); go_ret; exact ⟨by first | rfl | (simp; done) | (simp [*]; done), by repeat (first | exact Drawn0.refl _ | apply Drawn0.step)⟩
end Go.Proofs.Ytkocahlifffgjaa.P
namespace Go.Proofs.Ytkocahlifffgjaa.P
open Go.RowKit Go.Proofs.YtkocahlifffgjaaW.PrintWords Go.Proofs.YtkocahlifffgjaaW.PrintLast Go.Proofs.YtkocahlifffgjaaW.PrintMore
attribute [local go_sem] max2_int min2_int max_two min_two max_three min_three max_four min_four
set_option linter.unusedVariables false
set_option linter.unusedSimpArgs false
def laws_eqBinary.f (k : Nat) (a0_0 : Int) (a0_1 : Int) (l0_2 : List (List Int)) (l0_3 : List (List Int)) (l0_4 : List Int) (l0_5 : List (List Int)) (a1_0 : Int) (a1_1 : Int) (l1_2 : List (List Int)) (l1_3 : List (List Int)) (l1_4 : List Int) (l1_5 : List (List Int)) : Option (Bool) := if a0_0 = a1_0 then (if a0_1 = a1_1 then ((laws_eqIntSS.f k l0_2 l1_2).bind fun t103 => (if t103 = true then ((laws_eqIntSS.f k l0_3 l1_3).bind fun t104 => (if t104 = true then ((laws_eqIntS.f k l0_4 l1_4).bind fun t105 => (if t105 = true then ((laws_eqIntSS.f k l0_5 l1_5).bind fun t106 => (if t106 = true then (some true) else (some false))) else (some false))) else (some false))) else (some false))) else (some false)) else (some false)
end Go.Proofs.Ytkocahlifffgjaa.P
namespace Go.Proofs.Ytkocahlifffgjaa.P
open Go.RowKit Go.Proofs.YtkocahlifffgjaaW.PrintWords Go.Proofs.YtkocahlifffgjaaW.PrintLast Go.Proofs.YtkocahlifffgjaaW.PrintMore
attribute [local go_sem] max2_int min2_int max_two min_two max_three min_three max_four min_four
set_option linter.unusedVariables false
set_option linter.unusedSimpArgs false
def laws_szIntS.f (l0 : List Int) (a1 : Int) : Option (Int) := if (wrap64 (a1 - (l0.length : Int))) < 0 then (some (-1)) else (some (wrap64 (a1 - (l0.length : Int))))
set_option maxHeartbeats 8000000 in
set_option maxRecDepth 100000 in
theorem laws_szIntS.calls (A0 : Option Addr) (c0 : Nat) (l0 : List Int) (a1 : Int) (r : Int) (w : World) (hr0 : Kd.C (Kd.int .i64) w A0 l0.length l0) (hc0 : l0.length ≤ c0) (h : laws_szIntS.f l0 a1 = some r) :
 Calls Try.prog 49 #[.slice A0 l0.length c0, .int .i64 a1] w fun e w' => e = .returned (.int .i64 r) ∧ Drawn0 w w' := by
 have HR0 := Aside0.mk hr0; have HC0 := Aside0.mk hc0; clear hr0 hc0; have H : (if (wrap64 (a1 - (l0.length : Int))) < 0 then (some (-1)) else (some (wrap64 (a1 - (l0.length : Int))))) = some r := h; clear h; by_cases c3 : (wrap64 (a1 - (l0.length : Int))) < 0
 · rw [if_pos c3] at H; have c3b0 : decide ((wrap64 (a1 - (l0.length : Int))) < 0) = true := decide_eq_true c3; clear c3; obtain rfl := Option.some.inj H; go_enter Try.func49, Try.ntmps49; go_wp2; go_ret; exact ⟨by first | rfl | (simp; done) | (simp [*]; done), by repeat (first | exact Drawn0.refl _ | apply Drawn0.step)⟩
 · rw [if_neg c3] at H; have c3b0 : decide ((wrap64 (a1 - (l0.length : Int))) < 0) = false := decide_eq_false c3; clear c3; obtain rfl := Option.some.inj H; go_enter Try.func49, Try.ntmps49; go_wp2; go_ret; exact ⟨by first | rfl | (simp; done) | (simp [*]; done), by repeat (first | exact Drawn0.refl _ | apply Drawn0.step)⟩
end Go.Proofs.Ytkocahlifffgjaa.P
namespace Go.Proofs.Ytkocahlifffgjaa.P
open Go.RowKit Go.Proofs.YtkocahlifffgjaaW.PrintWords Go.Proofs.YtkocahlifffgjaaW.PrintLast Go.Proofs.YtkocahlifffgjaaW.PrintMore
attribute [local go_sem] max2_int min2_int max_two min_two max_three min_three max_four min_four
set_option linter.unusedVariables false
set_option linter.unusedSimpArgs false
def laws_szIntSS.l0 : Nat → List (List Int) → Int → Int → Option (Int)
 | 0, _, _, _ => none
 | k + 1, x0, x1, x5 => if x5 < (x0.length : Int) then (if 0 ≤ x5 then ((laws_szIntS.f (rd_L1 x0 x5) x1).bind fun t102 => (if t102 < 0 then (some (-1)) else (laws_szIntSS.l0 k x0 t102 (wrap64 (x5 + 1))))) else (none)) else (some x1)
def laws_szIntSS.f (k : Nat) (l0 : List (List Int)) (a1 : Int) : Option (Int) := if (wrap64 (a1 - (l0.length : Int))) < 0 then (some (-1)) else (laws_szIntSS.l0 k l0 (wrap64 (a1 - (l0.length : Int))) 0)
set_option maxHeartbeats 8000000 in
set_option maxRecDepth 100000 in
theorem laws_szIntSS.calls (k : Nat) (A0 : Option Addr) (c0 : Nat) (l0 : List (List Int)) (a1 : Int) (r : Int) (w : World) (hr0 : Kd.C (Kd.slice 3 (Kd.int .i64)) w A0 l0.length l0) (hc0 : l0.length ≤ c0) (h : laws_szIntSS.f k l0 a1 = some r) :
 Calls Try.prog 48 #[.slice A0 l0.length c0, .int .i64 a1] w fun e w' => e = .returned (.int .i64 r) ∧ Drawn0 w w' := by
 have HR0 := Aside0.mk hr0; have HC0 := Aside0.mk hc0; clear hr0 hc0; have H : (if (wrap64 (a1 - (l0.length : Int))) < 0 then (some (-1)) else (laws_szIntSS.l0 k l0 (wrap64 (a1 - (l0.length : Int))) 0)) = some r := h; clear h; by_cases c3 : (wrap64 (a1 - (l0.length : Int))) < 0
 · rw [if_pos c3] at H; have c3b0 : decide ((wrap64 (a1 - (l0.length : Int))) < 0) = true := decide_eq_true c3; clear c3; obtain rfl := Option.some.inj H; go_enter Try.func48, Try.ntmps48; go_wp2; go_ret; exact ⟨by first | rfl | (simp; done) | (simp [*]; done), by repeat (first | exact Drawn0.refl _ | apply Drawn0.step)⟩
 · rw [if_neg c3] at H; have c3b0 : decide ((wrap64 (a1 - (l0.length : Int))) < 0) = false := decide_eq_false c3; clear c3; have H' := Aside0.mk H; clear H; go_enter Try.func48, Try.ntmps48; go_wp2; go_loopg [1, 5] k (fun kq v1 v5 w' => ∃ (x1_1 : Int) (x5_1 : Int), v1 = .int .i64 x1_1 ∧ v5 = .int .i64 x5_1 ∧ Aside0 (laws_szIntSS.l0 kq l0 x1_1 x5_1 = some r) ∧ Aside0 (kq ≤ k) ∧ Drawn0 w w')
   case atStart => exact ⟨(wrap64 (a1 - (l0.length : Int))), (0), (by first | rfl | (simp; done) | (simp [*]; done)), (by first | rfl | (simp; done) | (simp [*]; done)), H', ⟨Nat.le_refl _⟩, by repeat (first | exact Drawn0.refl _ | apply Drawn0.step)⟩
   case round =>
    clear H'; (try clear p2); (try clear c3); (try clear c3b0); obtain ⟨x1_1, x5_1, rfl, rfl, HA, HK1, ⟨m1, rfl⟩⟩ := hrel; cases gk with
    | zero => exact absurd HA.out (by simp [laws_szIntSS.l0])
    | succ k1 =>
     have H := HA.out; clear HA; simp only [laws_szIntSS.l0] at H; by_cases c4 : x5_1 < (l0.length : Int)
     · rw [if_pos c4] at H; have c4b0 : decide (x5_1 < (l0.length : Int)) = true := decide_eq_true c4; clear c4; by_cases c5 : 0 ≤ x5_1
       · rw [if_pos c5] at H; have c5b0 : decide (0 ≤ x5_1) = true := decide_eq_true c5; clear c5; replace H := Option.bind_eq_some_iff.mp H; obtain ⟨t102, A60, H⟩ := H; replace H : (if t102 < 0 then (some (-1)) else (laws_szIntSS.l0 k1 l0 t102 (wrap64 (x5_1 + 1)))) = some r := H; have A6 := Aside0.mk A60; clear A60; by_cases c7 : t102 < 0
         · rw [if_pos c7] at H; have c7b0 : decide (t102 < 0) = true := decide_eq_true c7; clear c7; obtain rfl := Option.some.inj H; have p101 : 0 ≤ (x5_1 : Int) := of_decide_eq_true (by assumption); have q101 : x5_1 < (l0.length : Int) := of_decide_eq_true (by assumption); obtain ⟨ad101, A101_0, c101_0, e101, hx101_0, hl101_0, hi101_0⟩ := at_L1 HR0.out x5_1 p101 q101; cases e101; have HR101_0 := Aside0.mk hi101_0; have HC101_0 := Aside0.mk hl101_0; clear hi101_0 hl101_0; replace p101 := eq_true p101; replace q101 := eq_true q101; go_wp2_with (first | ((with_reducible refine gate_callee (f := 49) rfl ?_); refine goesL_ (some 23) rfl rfl Try.func49 (by kernel_rfl) rfl #[.slice A101_0 (rd_L1 l0 x5_1).length c101_0, .int .i64 x1_1] rfl (by (try simp only [List.map_toArray, List.map_cons, List.map_nil]); first | done | rfl | (simp only [List.length_drop, List.length_take]; rfl)) ?_; (with_reducible refine (laws_szIntS.calls _ _ (rd_L1 l0 x5_1) x1_1 t102 _ ?side1 ?side2 A6.out).mono ?_); (case side1 => repeat (first | exact HR101_0.out | refine Kd.C_alloc ?_ _ | refine Kd.C_drewN ?_ _ | refine Kd.C_drew ?_)); (case side2 => exact HC101_0.out); rintro e w' ⟨rfl, ⟨nd, rfl⟩⟩; refine ⟨_, rfl, ?_⟩)); go_ret; exact ⟨by first | rfl | (simp; done) | (simp [*]; done), by repeat (first | exact Drawn0.refl _ | apply Drawn0.step)⟩
         · rw [if_neg c7] at H; have c7b0 : decide (t102 < 0) = false := decide_eq_false c7; clear c7; have H' := Aside0.mk H; clear H; have p101 : 0 ≤ (x5_1 : Int) := of_decide_eq_true (by assumption); have q101 : x5_1 < (l0.length : Int) := of_decide_eq_true (by assumption); obtain ⟨ad101, A101_0, c101_0, e101, hx101_0, hl101_0, hi101_0⟩ := at_L1 HR0.out x5_1 p101 q101; cases e101; have HR101_0 := Aside0.mk hi101_0; have HC101_0 := Aside0.mk hl101_0; clear hi101_0 hl101_0; replace p101 := eq_true p101; replace q101 := eq_true q101; go_wp2_with (first | ((with_reducible refine gate_callee (f := 49) rfl ?_); refine goesL_ (some 23) rfl rfl Try.func49 (by kernel_rfl) rfl #[.slice A101_0 (rd_L1 l0 x5_1).length c101_0, .int .i64 x1_1] rfl (by (try simp only [List.map_toArray, List.map_cons, List.map_nil]); first | done | rfl | (simp only [List.length_drop, List.length_take]; rfl)) ?_; (with_reducible refine (laws_szIntS.calls _ _ (rd_L1 l0 x5_1) x1_1 t102 _ ?side1 ?side2 A6.out).mono ?_); (case side1 => repeat (first | exact HR101_0.out | refine Kd.C_alloc ?_ _ | refine Kd.C_drewN ?_ _ | refine Kd.C_drew ?_)); (case side2 => exact HC101_0.out); rintro e w' ⟨rfl, ⟨nd, rfl⟩⟩; refine ⟨_, rfl, ?_⟩))
           go_roundg k1
           case measure => have := HK1.out; omega
           case rel => exact ⟨(t102), (wrap64 (x5_1 + 1)), (by first | rfl | (simp; done) | (simp [*]; done)), (by first | rfl | (simp; done) | (simp [*]; done)), H', ⟨by have := HK1.out; omega⟩, by repeat (first | exact Drawn0.refl _ | apply Drawn0.step)⟩
       · rw [if_neg c5] at H; exact absurd H (by simp)
     · rw [if_neg c4] at H; have c4b0 : decide (x5_1 < (l0.length : Int)) = false := decide_eq_false c4; clear c4; obtain rfl := Option.some.inj H; go_wp2; go_ret; exact ⟨by first | rfl | (simp; done) | (simp [*]; done), by repeat (first | exact Drawn0.refl _ | apply Drawn0.step)⟩
end Go.Proofs.Ytkocahlifffgjaa.P
namespace Go.Proofs.Ytkocahlifffgjaa.P
open Go.RowKit Go.Proofs.YtkocahlifffgjaaW.PrintWords Go.Proofs.YtkocahlifffgjaaW.PrintLast Go.Proofs.YtkocahlifffgjaaW.PrintMore
attribute [local go_sem] max2_int min2_int max_two min_two max_three min_three max_four min_four
set_option linter.unusedVariables false
set_option linter.unusedSimpArgs false
def laws_szBinary.f (k : Nat) (a0_0 : Int) (a0_1 : Int) (l0_2 : List (List Int)) (l0_3 : List (List Int)) (l0_4 : List Int) (l0_5 : List (List Int)) (a1 : Int) : Option (Int) := (laws_szIntSS.f k l0_2 a1).bind fun t102 => (if t102 < 0 then (some (-1)) else ((laws_szIntSS.f k l0_3 t102).bind fun t103 => (if t103 < 0 then (some (-1)) else ((laws_szIntS.f l0_4 t103).bind fun t104 => (if t104 < 0 then (some (-1)) else ((laws_szIntSS.f k l0_5 t104).bind fun t105 => (if t105 < 0 then (some (-1)) else (some t105))))))))
end Go.Proofs.Ytkocahlifffgjaa.P
namespace Go.Proofs.Ytkocahlifffgjaa.P
open Go.RowKit Go.Proofs.YtkocahlifffgjaaW.PrintWords Go.Proofs.YtkocahlifffgjaaW.PrintLast Go.Proofs.YtkocahlifffgjaaW.PrintMore
attribute [local go_sem] max2_int min2_int max_two min_two max_three min_three max_four min_four
set_option linter.unusedVariables false
set_option linter.unusedSimpArgs false
def impl_in.f (a0 : Int) (a1 : Int) (a2 : Int) : Option (Bool) := if a0 ≥ a1 then (some (decide (a0 ≤ a2))) else (some false)
set_option maxHeartbeats 8000000 in
set_option maxRecDepth 100000 in
theorem impl_in.calls (a0 : Int) (a1 : Int) (a2 : Int) (r : Bool) (w : World) (h : impl_in.f a0 a1 a2 = some r) :
 Calls Try.prog 85 #[.int .i64 a0, .int .i64 a1, .int .i64 a2] w fun e w' => e = .returned (.bool r) ∧ Drawn0 w w' := by
 have H : (if a0 ≥ a1 then (some (decide (a0 ≤ a2))) else (some false)) = some r := h; clear h; by_cases c4 : a0 ≥ a1
 · rw [if_pos c4] at H; have c4b0 : decide (a1 ≤ a0) = true := decide_eq_true c4; clear c4; obtain rfl := Option.some.inj H; go_enter Try.func85, Try.ntmps85; go_wp2; go_ret; exact ⟨by first | rfl | (simp; done) | (simp [*]; done), by repeat (first | exact Drawn0.refl _ | apply Drawn0.step)⟩
 · rw [if_neg c4] at H; have c4b0 : decide (a1 ≤ a0) = false := decide_eq_false c4; clear c4; obtain rfl := Option.some.inj H; go_enter Try.func85, Try.ntmps85; go_wp2; go_ret; exact ⟨by first | rfl | (simp; done) | (simp [*]; done), by repeat (first | exact Drawn0.refl _ | apply Drawn0.step)⟩
end Go.Proofs.Ytkocahlifffgjaa.P
namespace Go.Proofs.Ytkocahlifffgjaa.P
open Go.RowKit Go.Proofs.YtkocahlifffgjaaW.PrintWords Go.Proofs.YtkocahlifffgjaaW.PrintLast Go.Proofs.YtkocahlifffgjaaW.PrintMore
attribute [local go_sem] max2_int min2_int max_two min_two max_three min_three max_four min_four
set_option linter.unusedVariables false
set_option linter.unusedSimpArgs false
def impl_isSymbol.f (a0 : Int) (a1 : Int) (a2 : Int) : Option (Bool) := (impl_in.f a0 (wrap64 (-a2)) (wrap64 (a1 - 1))).bind fun t101 => (some t101)
set_option maxHeartbeats 8000000 in
set_option maxRecDepth 100000 in
theorem impl_isSymbol.calls (a0 : Int) (a1 : Int) (a2 : Int) (r : Bool) (w : World) (h : impl_isSymbol.f a0 a1 a2 = some r) :
 Calls Try.prog 57 #[.int .i64 a0, .int .i64 a1, .int .i64 a2] w fun e w' => e = .returned (.bool r) ∧ Drawn0 w w' := by
 have H : ((impl_in.f a0 (wrap64 (-a2)) (wrap64 (a1 - 1))).bind fun t101 => (some t101)) = some r := h; clear h; replace H := Option.bind_eq_some_iff.mp H; obtain ⟨t101, A40, H⟩ := H; replace H : (some t101) = some r := H; have A4 := Aside0.mk A40; clear A40; obtain rfl := Option.some.inj H; go_enter Try.func57, Try.ntmps57; go_wp2_with (first | ((with_reducible refine gate_callee (f := 85) rfl ?_); refine goesL_ (some 12) rfl rfl Try.func85 (by kernel_rfl) rfl #[.int .i64 a0, .int .i64 (wrap64 (-a2)), .int .i64 (wrap64 (a1 - 1))] rfl (by (try simp only [List.map_toArray, List.map_cons, List.map_nil]); first | done | rfl | (simp only [List.length_drop, List.length_take]; rfl)) ?_; (with_reducible refine (impl_in.calls a0 (wrap64 (-a2)) (wrap64 (a1 - 1)) t101 _ A4.out).mono ?_); rintro e w' ⟨rfl, ⟨nd, rfl⟩⟩; refine ⟨_, rfl, ?_⟩)); go_ret; exact ⟨by first | rfl | (simp; done) | (simp [*]; done), by repeat (first | exact Drawn0.refl _ | apply Drawn0.step)⟩
end Go.Proofs.Ytkocahlifffgjaa.P
namespace Go.Proofs.Ytkocahlifffgjaa.P
open Go.RowKit Go.Proofs.YtkocahlifffgjaaW.PrintWords Go.Proofs.YtkocahlifffgjaaW.PrintLast Go.Proofs.YtkocahlifffgjaaW.PrintMore
set_option linter.unusedVariables false
set_option linter.unusedSimpArgs false
def idxF {α : Type} (p : α → Bool) (l : List α) : Int := if l.any p = true then (l.findIdx p : Int) else -1
theorem idxF_hit {α : Type} (p : α → Bool) (l : List α) (d : α) (i : Nat) (hi : i < l.length) (h : p (l.getD i d) = true) (hb : ∀ j, j < i → p (l.getD j d) = false) : idxF p l = i := by
 have hg : ∀ j (hj : j < l.length), l.getD j d = l[j] := fun j hj => by rw [List.getD_eq_getElem?_getD, List.getElem?_eq_getElem hj]; rfl
 have hany : l.any p = true := List.any_eq_true.mpr ⟨l[i], List.getElem_mem hi, by rw [← hg i hi]; exact h⟩; unfold idxF; rw [if_pos hany]; have : l.findIdx p = i := (List.findIdx_eq hi).mpr ⟨by rw [← hg i hi]; exact h, fun j hj => by rw [← hg j (by omega)]; exact hb j hj⟩; rw [this]
theorem idxF_miss {α : Type} (p : α → Bool) (l : List α) (d : α) (hb : ∀ j, j < l.length → p (l.getD j d) = false) : idxF p l = -1 := by
 unfold idxF; rw [if_neg]; intro h; obtain ⟨x, hx, hp⟩ := List.any_eq_true.mp h; obtain ⟨j, hj, rfl⟩ := List.getElem_of_mem hx; have := hb j hj; rw [List.getD_eq_getElem?_getD, List.getElem?_eq_getElem hj] at this; simp at this; rw [this] at hp; cases hp
theorem idxF_any {α : Type} (p : α → Bool) (l : List α) : decide (0 ≤ idxF p l) = l.any p := by
 unfold idxF; cases h : l.any p <;> simp <;> omega
theorem drawn_below {w w' : World} (h : Drawn0 w w') : Below w.heap.size w w' := by
 obtain ⟨n, rfl⟩ := h; exact pw_below_drewN (Below.refl _ _) n
def PredI (g : Nat) (lb : Array Value) (p : Int → Bool) (w : World) : Prop :=
 ∀ (W : World) (x : Int), Below w.heap.size w W → Calls Try.prog g (#[.int .i64 x] ++ lb) W fun e w' => e = .returned (.bool (p x)) ∧ Below W.heap.size W w'
def PredID (g : Nat) (lb : Array Value) (D : Int → Prop) (p : Int → Bool) (w : World) : Prop :=
 ∀ (W : World) (x : Int), Below w.heap.size w W → D x → Calls Try.prog g (#[.int .i64 x] ++ lb) W fun e w' => e = .returned (.bool (p x)) ∧ Below W.heap.size W w'
set_option maxHeartbeats 2000000 in
set_option maxRecDepth 100000 in
theorem indexFunc_intD (g : Nat) (lb : Array Value) (eg : ∀ args w, (callFunc g args).run Try.prog w = .ok (.enter g args) w) (p : Int → Bool) (A : Option Addr) (c : Nat) (l : List Int) (w : World)
 (hr : Kd.C (Kd.int .i64) w A l.length l) (hc : l.length ≤ c) (D : Int → Prop) (hD : ∀ j : Nat, j < l.length → D (rd l j)) (hp : PredID g lb D p w) :
 Calls Try.prog 122 #[.slice A l.length c, .func (.func g) #[] lb] w fun e w' => e = .returned (.int .i64 (idxF p l)) ∧ Below w.heap.size w w' := by
 have hmax : l.length ≤ 9223372036854775807 := hr.2.1; go_enter Try.func122, Try.ntmps122; go_wp2; go_loopg [5, 8] l.length (fun gg _ s8 wr => ∃ kk : Nat, kk ≤ l.length ∧ l.length - kk ≤ gg ∧ s8 = .int .i64 kk ∧ Aside0 (Below w.heap.size w wr) ∧ Aside0 (∀ j, j < kk → p (l.getD j 0) = false))
 case atStart => exact ⟨0, Nat.zero_le _, by omega, rfl, ⟨Below.refl _ w⟩, ⟨fun j hj => absurd hj (Nat.not_lt_zero _)⟩⟩
 case round =>
  obtain ⟨kk, hkk, hg, rfl, BW, A0⟩ := hrel; by_cases hlt : kk < l.length
  · obtain ⟨ad, e, hx⟩ := Kd.at_int (Kd.C_below hr BW.out) (kk : Int) (by omega) (by omega); subst e; have hx2 : wr.cell? (ad.add kk) = some (.int .i64 (rd l kk)) := by simpa using hx
    have hcall := hp wr (rd l kk) BW.out (hD kk hlt); have hB := Aside0.mk (show l.getD kk 0 = rd l kk from rfl); have L := Aside0.mk hlt; have hd : decide (kk < l.length) = true := decide_eq_true hlt; clear hx hp hr hD; generalize rd l kk = y at hcall hB hx2; cases hq : p y with
    | true =>
     rw [hq] at hcall; have Q := Aside0.mk hq; clear hq; go_wp2_with fail; refine hcall.mono ?_; rintro e w' ⟨rfl, hb'⟩; clear hcall hd eg hlt; go_wp2; go_ret; refine ⟨?_, below_step BW.out hb'⟩; rw [idxF_hit p l 0 kk L.out (by rw [hB.out]; exact Q.out) A0.out]; rfl
    | false =>
     rw [hq] at hcall; have Q := Aside0.mk hq; clear hq; go_wp2_with fail; refine hcall.mono ?_; rintro e w' ⟨rfl, hb'⟩; clear hcall hd eg; go_wp2
     go_roundg (l.length - (kk + 1))
     case measure => have := L.out; omega
     case rel =>
      refine ⟨kk + 1, by have := L.out; omega, by omega, by go_num, ⟨below_step BW.out hb'⟩, ⟨fun j hj => ?_⟩⟩; by_cases ej : j = kk
      · subst ej; rw [hB.out]; exact Q.out
      · exact A0.out j (by omega)
  · have hd : decide (kk < l.length) = false := decide_eq_false hlt; have L := Aside0.mk (show kk = l.length by omega); clear hp hr hlt hD; go_wp2; go_ret; refine ⟨?_, BW.out⟩; rw [idxF_miss p l 0 (by have := A0.out; rw [L.out] at this; exact this)]; rfl
set_option maxHeartbeats 2000000 in
theorem containsFunc_intD (g : Nat) (lb : Array Value) (eg : ∀ args w, (callFunc g args).run Try.prog w = .ok (.enter g args) w) (p : Int → Bool) (A : Option Addr) (c : Nat) (l : List Int) (w : World)
 (hr : Kd.C (Kd.int .i64) w A l.length l) (hc : l.length ≤ c) (D : Int → Prop) (hD : ∀ j : Nat, j < l.length → D (rd l j)) (hp : PredID g lb D p w) :
 Calls Try.prog 103 #[.slice A l.length c, .func (.func g) #[] lb] w fun e w' => e = .returned (.bool (l.any p)) ∧ Below w.heap.size w w' := by
 have H := indexFunc_intD g lb eg p A c l w hr hc D hD hp; have hz := Aside0.mk (idxF_any p l); generalize idxF p l = i at H hz; go_enter Try.func103, Try.ntmps103; go_wp2_with (go_at_call 122; refine H.mono ?_; rintro e w' ⟨rfl, hb'⟩); go_ret; exact ⟨by rw [← hz.out]; rfl, hb'⟩
theorem containsFunc_int (g : Nat) (lb : Array Value) (eg : ∀ args w, (callFunc g args).run Try.prog w = .ok (.enter g args) w) (p : Int → Bool) (A : Option Addr) (c : Nat) (l : List Int) (w : World)
 (hr : Kd.C (Kd.int .i64) w A l.length l) (hc : l.length ≤ c) (hp : PredI g lb p w) :
 Calls Try.prog 103 #[.slice A l.length c, .func (.func g) #[] lb] w fun e w' => e = .returned (.bool (l.any p)) ∧ Below w.heap.size w w' :=
 containsFunc_intD g lb eg p A c l w hr hc (fun _ => True) (fun _ _ => trivial) (fun W x hb _ => hp W x hb)
def symB (nons toks x : Int) : Bool := decide (wrap64 (-toks) ≤ x ∧ x ≤ wrap64 (nons - 1))
theorem impl_in_eq (a b c : Int) : impl_in.f a b c = some (decide (b ≤ a ∧ a ≤ c)) := by
 unfold impl_in.f; by_cases h : a ≥ b
 · rw [if_pos h]; congr 2; simp; omega
 · rw [if_neg h]; simp; omega
theorem impl_isSymbol_eq (x nons toks : Int) : impl_isSymbol.f x nons toks = some (symB nons toks x) := by
 unfold impl_isSymbol.f symB; rw [impl_in_eq]; rfl
set_option maxHeartbeats 2000000 in
theorem pred_sym (nons toks : Int) (B C : Nat) (w : World) (hB : B < w.heap.size) (hC : C < w.heap.size) (hcB : w.cell? ⟨B, 0, none⟩ = some (.int .i64 nons)) (hcC : w.cell? ⟨C, 0, none⟩ = some (.int .i64 toks)) :
 PredI 115 #[.pointer (some ⟨B, 0, none⟩), .pointer (some ⟨C, 0, none⟩)] (fun x => !symB nons toks x) w := fun W x hb => by
 have h1 : W.cell? ⟨B, 0, none⟩ = some (.int .i64 nons) := (hb.cell (p := ⟨B, 0, none⟩) hB).trans hcB; have h2 : W.cell? ⟨C, 0, none⟩ = some (.int .i64 toks) := (hb.cell (p := ⟨C, 0, none⟩) hC).trans hcC; have hc := fun w => impl_isSymbol.calls x nons toks _ w (impl_isSymbol_eq x nons toks)
 clear hb hcB hcC; show Calls Try.prog 115 #[.int .i64 x, .pointer (some ⟨B, 0, none⟩), .pointer (some ⟨C, 0, none⟩)] W fun e w' => e = .returned (.bool (!symB nons toks x)) ∧ Below W.heap.size W w'
 generalize symB nons toks x = b at hc ⊢; go_enter Try.func115, Try.ntmps115; go_wp2_with (go_at_call 57; refine (hc _).mono ?_; rintro e w' ⟨rfl, hd⟩); go_ret; exact ⟨rfl, drawn_below hd⟩
def impl_areSymbols.f (l0 : List Int) (a1 a2 : Int) : Option Bool := some (!(l0.any fun x => !symB a1 a2 x))
set_option maxHeartbeats 2000000 in
theorem impl_areSymbols.calls (A0 : Option Addr) (c0 : Nat) (l0 : List Int) (a1 a2 : Int) (r : Bool) (w : World) (hr0 : Kd.C (Kd.int .i64) w A0 l0.length l0) (hc0 : l0.length ≤ c0) (h : impl_areSymbols.f l0 a1 a2 = some r) :
 Calls Try.prog 93 #[.slice A0 l0.length c0, .int .i64 a1, .int .i64 a2] w fun e w' => e = .returned (.bool r) ∧ Below w.heap.size w w' := by
 obtain rfl := Option.some.inj h; clear h; have eg : ∀ args w, (callFunc 115 args).run Try.prog w = .ok (.enter 115 args) w := enters_of Try.func115 (by kernel_rfl) rfl; have H := Aside0.mk fun (W : World) (B C : Nat) (hW : Below w.heap.size w W) (hB : B < W.heap.size) (hC : C < W.heap.size) (hcB : W.cell? ⟨B, 0, none⟩ = some (.int .i64 a1)) (hcC : W.cell? ⟨C, 0, none⟩ = some (.int .i64 a2)) =>
  containsFunc_int _ #[.pointer (some ⟨B, 0, none⟩), .pointer (some ⟨C, 0, none⟩)] eg (fun x => !symB a1 a2 x) A0 c0 l0 W (Kd.C_below hr0 hW) hc0 (pred_sym a1 a2 B C W hB hC hcB hcC)
 clear hr0 hc0; generalize (l0.any fun x => !symB a1 a2 x) = b at H ⊢; go_enter Try.func93, Try.ntmps93; go_wp2_with (go_at_call 103; refine (H.out _ _ _ (by repeat (first | exact Below.refl _ _ | apply below_alloc)) (by simp <;> omega) (by simp <;> omega) (by simp) (by simp)).mono ?_; rintro e w' ⟨rfl, hb'⟩); go_ret; exact ⟨rfl, below_step (by repeat (first | exact Below.refl _ _ | apply below_alloc)) hb'⟩
end Go.Proofs.Ytkocahlifffgjaa.P
namespace Go.Proofs.Ytkocahlifffgjaa.P
open Go.RowKit Go.Proofs.YtkocahlifffgjaaW.PrintWords Go.Proofs.YtkocahlifffgjaaW.PrintLast Go.Proofs.YtkocahlifffgjaaW.PrintMore
set_option linter.unusedVariables false
set_option linter.unusedSimpArgs false
set_option maxHeartbeats 8000000 in
set_option maxRecDepth 100000 in
theorem laws_eqBinary.same (k : Nat) (a0_0 : Int) (a0_1 : Int) (A0_2 : Option Addr) (c0_2 : Nat) (l0_2 : List (List Int)) (A0_3 : Option Addr) (c0_3 : Nat) (l0_3 : List (List Int)) (A0_4 : Option Addr) (c0_4 : Nat) (l0_4 : List Int) (A0_5 : Option Addr) (c0_5 : Nat) (l0_5 : List (List Int)) (a1_0 : Int) (a1_1 : Int) (A1_2 : Option Addr) (c1_2 : Nat) (l1_2 : List (List Int)) (A1_3 : Option Addr) (c1_3 : Nat) (l1_3 : List (List Int)) (A1_4 : Option Addr) (c1_4 : Nat) (l1_4 : List Int) (A1_5 : Option Addr) (c1_5 : Nat) (l1_5 : List (List Int)) (_r : Bool) (w : World) (hr0_2 : Kd.C (Kd.slice 3 (Kd.int .i64)) w A0_2 l0_2.length l0_2) (hc0_2 : l0_2.length ≤ c0_2) (hr0_3 : Kd.C (Kd.slice 3 (Kd.int .i64)) w A0_3 l0_3.length l0_3) (hc0_3 : l0_3.length ≤ c0_3) (hr0_4 : Kd.C (Kd.int .i64) w A0_4 l0_4.length l0_4) (hc0_4 : l0_4.length ≤ c0_4) (hr0_5 : Kd.C (Kd.slice 3 (Kd.int .i64)) w A0_5 l0_5.length l0_5) (hc0_5 : l0_5.length ≤ c0_5) (hr1_2 : Kd.C (Kd.slice 3 (Kd.int .i64)) w A1_2 l1_2.length l1_2) (hc1_2 : l1_2.length ≤ c1_2) (hr1_3 : Kd.C (Kd.slice 3 (Kd.int .i64)) w A1_3 l1_3.length l1_3) (hc1_3 : l1_3.length ≤ c1_3) (hr1_4 : Kd.C (Kd.int .i64) w A1_4 l1_4.length l1_4) (hc1_4 : l1_4.length ≤ c1_4) (hr1_5 : Kd.C (Kd.slice 3 (Kd.int .i64)) w A1_5 l1_5.length l1_5) (hc1_5 : l1_5.length ≤ c1_5) (h : laws_eqBinary.f k a0_0 a0_1 l0_2 l0_3 l0_4 l0_5 a1_0 a1_1 l1_2 l1_3 l1_4 l1_5 = some true) :
 Calls Try.prog 17 #[.agg #[.int .i64 a0_0, .int .i64 a0_1, .slice A0_2 l0_2.length c0_2, .slice A0_3 l0_3.length c0_3, .slice A0_4 l0_4.length c0_4, .slice A0_5 l0_5.length c0_5], .agg #[.int .i64 a1_0, .int .i64 a1_1, .slice A1_2 l1_2.length c1_2, .slice A1_3 l1_3.length c1_3, .slice A1_4 l1_4.length c1_4, .slice A1_5 l1_5.length c1_5]] w fun e w' => e = .returned (.bool true) ∧ Below w.heap.size w w' := by
 have hu := Try.underlying29; have HB := Aside0.mk (Below.refl w.heap.size w); unfold laws_eqBinary.f at h; by_cases e0 : a0_0 = a1_0; rotate_left
 · rw [if_neg e0] at h; cases h
 rw [if_pos e0] at h; subst e0; by_cases e1 : a0_1 = a1_1; rotate_left
 · rw [if_neg e1] at h; cases h
 rw [if_pos e1] at h; subst e1; obtain ⟨t2, h2, h⟩ := Option.bind_eq_some_iff.mp h; cases t2 with
 | false => rw [if_neg (by decide)] at h; cases h
 | true =>
 rw [if_pos rfl] at h; obtain ⟨t3, h3, h⟩ := Option.bind_eq_some_iff.mp h; cases t3 with
 | false => rw [if_neg (by decide)] at h; cases h
 | true =>
 rw [if_pos rfl] at h; obtain ⟨t4, h4, h⟩ := Option.bind_eq_some_iff.mp h; cases t4 with
 | false => rw [if_neg (by decide)] at h; cases h
 | true =>
 rw [if_pos rfl] at h; obtain ⟨t5, h5, h⟩ := Option.bind_eq_some_iff.mp h; cases t5 with
 | false => rw [if_neg (by decide)] at h; cases h
 | true =>
 rw [if_pos rfl] at h; clear h; go_enter Try.func17, Try.ntmps17; go_wp2_with fail; refine (laws_eqIntSS.calls k A0_2 c0_2 l0_2 A1_2 c1_2 l1_2 true _ (Kd.C_below hr0_2 (by repeat (first | (with_reducible first | exact HB.out | apply below_alloc | apply pw_below_drewN | apply below_drew1) | exact HB.out))) hc0_2 (Kd.C_below hr1_2 (by repeat (first | (with_reducible first | exact HB.out | apply below_alloc | apply pw_below_drewN | apply below_drew1) | exact HB.out))) hc1_2 h2).mono ?_; rintro e w2 ⟨rfl, hd⟩; have hb := drawn_below hd; clear hd; have NX := Aside0.mk (blk_below (o := .cells #[.int .i64 a0_0, .int .i64 a0_1, .slice A0_2 l0_2.length c0_2, .slice A0_3 l0_3.length c0_3, .slice A0_4 l0_4.length c0_4, .slice A0_5 l0_5.length c0_5] 29 (0, 0)) (blk_alloc (heap_alloc_new w _) _) hb); have NY := Aside0.mk (blk_below (g := (w.alloc (.cells #[.int .i64 a0_0, .int .i64 a0_1, .slice A0_2 l0_2.length c0_2, .slice A0_3 l0_3.length c0_3, .slice A0_4 l0_4.length c0_4, .slice A0_5 l0_5.length c0_5] 29 (0, 0))).heap.size) (o := .cells #[.int .i64 a0_0, .int .i64 a0_1, .slice A1_2 l1_2.length c1_2, .slice A1_3 l1_3.length c1_3, .slice A1_4 l1_4.length c1_4, .slice A1_5 l1_5.length c1_5] 29 (0, 0)) (heap_alloc_new _ _) hb); have NB := Aside0.mk (below_step (by repeat (first | (with_reducible first | exact HB.out | apply below_alloc | apply pw_below_drewN | apply below_drew1) | exact HB.out)) hb); clear hb HB; have BX := NX; have HB := NB; clear NX NB; have BY := NY; clear NY; have x0 : w2.cell? ⟨w.heap.size, 0, none⟩ = some (.int .i64 a0_0) := (blk_cell BX.out 0).trans rfl; have x1 : w2.cell? ⟨w.heap.size, 1, none⟩ = some (.int .i64 a0_1) := (blk_cell BX.out 1).trans rfl; have x2 : w2.cell? ⟨w.heap.size, 2, none⟩ = some (.slice A0_2 l0_2.length c0_2) := (blk_cell BX.out 2).trans rfl; have x3 : w2.cell? ⟨w.heap.size, 3, none⟩ = some (.slice A0_3 l0_3.length c0_3) := (blk_cell BX.out 3).trans rfl; have x4 : w2.cell? ⟨w.heap.size, 4, none⟩ = some (.slice A0_4 l0_4.length c0_4) := (blk_cell BX.out 4).trans rfl; have x5 : w2.cell? ⟨w.heap.size, 5, none⟩ = some (.slice A0_5 l0_5.length c0_5) := (blk_cell BX.out 5).trans rfl; have y0 : w2.cell? ⟨w.heap.size + 1, 0, none⟩ = some (.int .i64 a0_0) := (blk_cell (by have := BY.out; (try simp at this); exact this) 0).trans rfl; have y1 : w2.cell? ⟨w.heap.size + 1, 1, none⟩ = some (.int .i64 a0_1) := (blk_cell (by have := BY.out; (try simp at this); exact this) 1).trans rfl; have y2 : w2.cell? ⟨w.heap.size + 1, 2, none⟩ = some (.slice A1_2 l1_2.length c1_2) := (blk_cell (by have := BY.out; (try simp at this); exact this) 2).trans rfl; have y3 : w2.cell? ⟨w.heap.size + 1, 3, none⟩ = some (.slice A1_3 l1_3.length c1_3) := (blk_cell (by have := BY.out; (try simp at this); exact this) 3).trans rfl; have y4 : w2.cell? ⟨w.heap.size + 1, 4, none⟩ = some (.slice A1_4 l1_4.length c1_4) := (blk_cell (by have := BY.out; (try simp at this); exact this) 4).trans rfl; have y5 : w2.cell? ⟨w.heap.size + 1, 5, none⟩ = some (.slice A1_5 l1_5.length c1_5) := (blk_cell (by have := BY.out; (try simp at this); exact this) 5).trans rfl; go_wp2_with fail; clear x0 x1 x2 x3 x4 x5 y0 y1 y2 y3 y4 y5; refine (laws_eqIntSS.calls k A0_3 c0_3 l0_3 A1_3 c1_3 l1_3 true _ (Kd.C_below hr0_3 (by repeat (first | (with_reducible first | exact HB.out | apply below_alloc | apply pw_below_drewN | apply below_drew1) | exact HB.out))) hc0_3 (Kd.C_below hr1_3 (by repeat (first | (with_reducible first | exact HB.out | apply below_alloc | apply pw_below_drewN | apply below_drew1) | exact HB.out))) hc1_3 h3).mono ?_; rintro e w3 ⟨rfl, hd⟩; have hb := drawn_below hd; clear hd; have NX := Aside0.mk (blk_below BX.out hb); have NY := Aside0.mk (blk_below BY.out hb); have NB := Aside0.mk (below_step (by repeat (first | (with_reducible first | exact HB.out | apply below_alloc | apply pw_below_drewN | apply below_drew1) | exact HB.out)) hb); clear hb HB BX BY; have BX := NX; have HB := NB; clear NX NB; have BY := NY; clear NY; have x0 : w3.cell? ⟨w.heap.size, 0, none⟩ = some (.int .i64 a0_0) := (blk_cell BX.out 0).trans rfl; have x1 : w3.cell? ⟨w.heap.size, 1, none⟩ = some (.int .i64 a0_1) := (blk_cell BX.out 1).trans rfl; have x2 : w3.cell? ⟨w.heap.size, 2, none⟩ = some (.slice A0_2 l0_2.length c0_2) := (blk_cell BX.out 2).trans rfl; have x3 : w3.cell? ⟨w.heap.size, 3, none⟩ = some (.slice A0_3 l0_3.length c0_3) := (blk_cell BX.out 3).trans rfl; have x4 : w3.cell? ⟨w.heap.size, 4, none⟩ = some (.slice A0_4 l0_4.length c0_4) := (blk_cell BX.out 4).trans rfl; have x5 : w3.cell? ⟨w.heap.size, 5, none⟩ = some (.slice A0_5 l0_5.length c0_5) := (blk_cell BX.out 5).trans rfl; have y0 : w3.cell? ⟨w.heap.size + 1, 0, none⟩ = some (.int .i64 a0_0) := (blk_cell (by have := BY.out; (try simp at this); exact this) 0).trans rfl; have y1 : w3.cell? ⟨w.heap.size + 1, 1, none⟩ = some (.int .i64 a0_1) := (blk_cell (by have := BY.out; (try simp at this); exact this) 1).trans rfl; have y2 : w3.cell? ⟨w.heap.size + 1, 2, none⟩ = some (.slice A1_2 l1_2.length c1_2) := (blk_cell (by have := BY.out; (try simp at this); exact this) 2).trans rfl; have y3 : w3.cell? ⟨w.heap.size + 1, 3, none⟩ = some (.slice A1_3 l1_3.length c1_3) := (blk_cell (by have := BY.out; (try simp at this); exact this) 3).trans rfl; have y4 : w3.cell? ⟨w.heap.size + 1, 4, none⟩ = some (.slice A1_4 l1_4.length c1_4) := (blk_cell (by have := BY.out; (try simp at this); exact this) 4).trans rfl; have y5 : w3.cell? ⟨w.heap.size + 1, 5, none⟩ = some (.slice A1_5 l1_5.length c1_5) := (blk_cell (by have := BY.out; (try simp at this); exact this) 5).trans rfl; go_wp2_with fail; clear x0 x1 x2 x3 x4 x5 y0 y1 y2 y3 y4 y5; refine (laws_eqIntS.calls k A0_4 c0_4 l0_4 A1_4 c1_4 l1_4 true _ (Kd.C_below hr0_4 (by repeat (first | (with_reducible first | exact HB.out | apply below_alloc | apply pw_below_drewN | apply below_drew1) | exact HB.out))) hc0_4 (Kd.C_below hr1_4 (by repeat (first | (with_reducible first | exact HB.out | apply below_alloc | apply pw_below_drewN | apply below_drew1) | exact HB.out))) hc1_4 h4).mono ?_; rintro e w4 ⟨rfl, hd⟩; have hb := drawn_below hd; clear hd; have NX := Aside0.mk (blk_below BX.out hb); have NY := Aside0.mk (blk_below BY.out hb); have NB := Aside0.mk (below_step (by repeat (first | (with_reducible first | exact HB.out | apply below_alloc | apply pw_below_drewN | apply below_drew1) | exact HB.out)) hb); clear hb HB BX BY; have BX := NX; have HB := NB; clear NX NB; have BY := NY; clear NY; have x0 : w4.cell? ⟨w.heap.size, 0, none⟩ = some (.int .i64 a0_0) := (blk_cell BX.out 0).trans rfl; have x1 : w4.cell? ⟨w.heap.size, 1, none⟩ = some (.int .i64 a0_1) := (blk_cell BX.out 1).trans rfl; have x2 : w4.cell? ⟨w.heap.size, 2, none⟩ = some (.slice A0_2 l0_2.length c0_2) := (blk_cell BX.out 2).trans rfl; have x3 : w4.cell? ⟨w.heap.size, 3, none⟩ = some (.slice A0_3 l0_3.length c0_3) := (blk_cell BX.out 3).trans rfl; have x4 : w4.cell? ⟨w.heap.size, 4, none⟩ = some (.slice A0_4 l0_4.length c0_4) := (blk_cell BX.out 4).trans rfl; have x5 : w4.cell? ⟨w.heap.size, 5, none⟩ = some (.slice A0_5 l0_5.length c0_5) := (blk_cell BX.out 5).trans rfl; have y0 : w4.cell? ⟨w.heap.size + 1, 0, none⟩ = some (.int .i64 a0_0) := (blk_cell (by have := BY.out; (try simp at this); exact this) 0).trans rfl; have y1 : w4.cell? ⟨w.heap.size + 1, 1, none⟩ = some (.int .i64 a0_1) := (blk_cell (by have := BY.out; (try simp at this); exact this) 1).trans rfl; have y2 : w4.cell? ⟨w.heap.size + 1, 2, none⟩ = some (.slice A1_2 l1_2.length c1_2) := (blk_cell (by have := BY.out; (try simp at this); exact this) 2).trans rfl; have y3 : w4.cell? ⟨w.heap.size + 1, 3, none⟩ = some (.slice A1_3 l1_3.length c1_3) := (blk_cell (by have := BY.out; (try simp at this); exact this) 3).trans rfl; have y4 : w4.cell? ⟨w.heap.size + 1, 4, none⟩ = some (.slice A1_4 l1_4.length c1_4) := (blk_cell (by have := BY.out; (try simp at this); exact this) 4).trans rfl; have y5 : w4.cell? ⟨w.heap.size + 1, 5, none⟩ = some (.slice A1_5 l1_5.length c1_5) := (blk_cell (by have := BY.out; (try simp at this); exact this) 5).trans rfl; go_wp2_with fail; clear x0 x1 x2 x3 x4 x5 y0 y1 y2 y3 y4 y5; refine (laws_eqIntSS.calls k A0_5 c0_5 l0_5 A1_5 c1_5 l1_5 true _ (Kd.C_below hr0_5 (by repeat (first | (with_reducible first | exact HB.out | apply below_alloc | apply pw_below_drewN | apply below_drew1) | exact HB.out))) hc0_5 (Kd.C_below hr1_5 (by repeat (first | (with_reducible first | exact HB.out | apply below_alloc | apply pw_below_drewN | apply below_drew1) | exact HB.out))) hc1_5 h5).mono ?_; rintro e w5 ⟨rfl, hd⟩; have hb := drawn_below hd; clear hd; have NX := Aside0.mk (blk_below BX.out hb); have NY := Aside0.mk (blk_below BY.out hb); have NB := Aside0.mk (below_step (by repeat (first | (with_reducible first | exact HB.out | apply below_alloc | apply pw_below_drewN | apply below_drew1) | exact HB.out)) hb); clear hb HB BX BY; have BX := NX; have HB := NB; clear NX NB; have BY := NY; clear NY; have x0 : w5.cell? ⟨w.heap.size, 0, none⟩ = some (.int .i64 a0_0) := (blk_cell BX.out 0).trans rfl; have x1 : w5.cell? ⟨w.heap.size, 1, none⟩ = some (.int .i64 a0_1) := (blk_cell BX.out 1).trans rfl; have x2 : w5.cell? ⟨w.heap.size, 2, none⟩ = some (.slice A0_2 l0_2.length c0_2) := (blk_cell BX.out 2).trans rfl; have x3 : w5.cell? ⟨w.heap.size, 3, none⟩ = some (.slice A0_3 l0_3.length c0_3) := (blk_cell BX.out 3).trans rfl; have x4 : w5.cell? ⟨w.heap.size, 4, none⟩ = some (.slice A0_4 l0_4.length c0_4) := (blk_cell BX.out 4).trans rfl; have x5 : w5.cell? ⟨w.heap.size, 5, none⟩ = some (.slice A0_5 l0_5.length c0_5) := (blk_cell BX.out 5).trans rfl; have y0 : w5.cell? ⟨w.heap.size + 1, 0, none⟩ = some (.int .i64 a0_0) := (blk_cell (by have := BY.out; (try simp at this); exact this) 0).trans rfl; have y1 : w5.cell? ⟨w.heap.size + 1, 1, none⟩ = some (.int .i64 a0_1) := (blk_cell (by have := BY.out; (try simp at this); exact this) 1).trans rfl; have y2 : w5.cell? ⟨w.heap.size + 1, 2, none⟩ = some (.slice A1_2 l1_2.length c1_2) := (blk_cell (by have := BY.out; (try simp at this); exact this) 2).trans rfl; have y3 : w5.cell? ⟨w.heap.size + 1, 3, none⟩ = some (.slice A1_3 l1_3.length c1_3) := (blk_cell (by have := BY.out; (try simp at this); exact this) 3).trans rfl; have y4 : w5.cell? ⟨w.heap.size + 1, 4, none⟩ = some (.slice A1_4 l1_4.length c1_4) := (blk_cell (by have := BY.out; (try simp at this); exact this) 4).trans rfl; have y5 : w5.cell? ⟨w.heap.size + 1, 5, none⟩ = some (.slice A1_5 l1_5.length c1_5) := (blk_cell (by have := BY.out; (try simp at this); exact this) 5).trans rfl; go_wp2; go_ret; exact ⟨rfl, by repeat (first | (with_reducible first | exact HB.out | apply below_alloc | apply pw_below_drewN | apply below_drew1) | exact HB.out)⟩
set_option maxHeartbeats 8000000 in
set_option maxRecDepth 100000 in
theorem laws_szBinary.fast (k : Nat) (a0_0 : Int) (a0_1 : Int) (A0_2 : Option Addr) (c0_2 : Nat) (l0_2 : List (List Int)) (A0_3 : Option Addr) (c0_3 : Nat) (l0_3 : List (List Int)) (A0_4 : Option Addr) (c0_4 : Nat) (l0_4 : List Int) (A0_5 : Option Addr) (c0_5 : Nat) (l0_5 : List (List Int)) (a1 : Int) (r : Int) (w : World) (hr0_2 : Kd.C (Kd.slice 3 (Kd.int .i64)) w A0_2 l0_2.length l0_2) (hc0_2 : l0_2.length ≤ c0_2) (hr0_3 : Kd.C (Kd.slice 3 (Kd.int .i64)) w A0_3 l0_3.length l0_3) (hc0_3 : l0_3.length ≤ c0_3) (hr0_4 : Kd.C (Kd.int .i64) w A0_4 l0_4.length l0_4) (hc0_4 : l0_4.length ≤ c0_4) (hr0_5 : Kd.C (Kd.slice 3 (Kd.int .i64)) w A0_5 l0_5.length l0_5) (hc0_5 : l0_5.length ≤ c0_5) (h : laws_szBinary.f k a0_0 a0_1 l0_2 l0_3 l0_4 l0_5 a1 = some r) :
 Calls Try.prog 12 #[.agg #[.int .i64 a0_0, .int .i64 a0_1, .slice A0_2 l0_2.length c0_2, .slice A0_3 l0_3.length c0_3, .slice A0_4 l0_4.length c0_4, .slice A0_5 l0_5.length c0_5], .int .i64 a1] w fun e w' => e = .returned (.int .i64 r) ∧ Below w.heap.size w w' := by
 have hu := Try.underlying25; have HB := Aside0.mk (Below.refl w.heap.size w); unfold laws_szBinary.f at h; go_enter Try.func12, Try.ntmps12; obtain ⟨t2, h2, h⟩ := Option.bind_eq_some_iff.mp h; go_wp2_with fail; refine (laws_szIntSS.calls k A0_2 c0_2 l0_2 a1 t2 _ (Kd.C_below hr0_2 (by repeat (first | (with_reducible first | exact HB.out | apply below_alloc | apply pw_below_drewN | apply below_drew1) | exact HB.out))) hc0_2 h2).mono ?_; rintro e w2 ⟨rfl, hd⟩; have hb := drawn_below hd; clear hd; have NX := Aside0.mk (blk_below (o := .cells #[.int .i64 a0_0, .int .i64 a0_1, .slice A0_2 l0_2.length c0_2, .slice A0_3 l0_3.length c0_3, .slice A0_4 l0_4.length c0_4, .slice A0_5 l0_5.length c0_5] 25 (0, 0)) (heap_alloc_new w _) hb); have NB := Aside0.mk (below_step (by repeat (first | (with_reducible first | exact HB.out | apply below_alloc | apply pw_below_drewN | apply below_drew1) | exact HB.out)) hb); clear hb HB; have BX := NX; have HB := NB; clear NX NB; have x0 : w2.cell? ⟨w.heap.size, 0, none⟩ = some (.int .i64 a0_0) := (blk_cell BX.out 0).trans rfl; have x1 : w2.cell? ⟨w.heap.size, 1, none⟩ = some (.int .i64 a0_1) := (blk_cell BX.out 1).trans rfl; have x2 : w2.cell? ⟨w.heap.size, 2, none⟩ = some (.slice A0_2 l0_2.length c0_2) := (blk_cell BX.out 2).trans rfl; have x3 : w2.cell? ⟨w.heap.size, 3, none⟩ = some (.slice A0_3 l0_3.length c0_3) := (blk_cell BX.out 3).trans rfl; have x4 : w2.cell? ⟨w.heap.size, 4, none⟩ = some (.slice A0_4 l0_4.length c0_4) := (blk_cell BX.out 4).trans rfl; have x5 : w2.cell? ⟨w.heap.size, 5, none⟩ = some (.slice A0_5 l0_5.length c0_5) := (blk_cell BX.out 5).trans rfl; by_cases d2 : t2 < 0
 · rw [if_pos d2] at h; obtain rfl := Option.some.inj h; have d2' : decide (t2 < 0) = true := decide_eq_true d2; clear d2; go_wp2; go_ret; exact ⟨rfl, by repeat (first | (with_reducible first | exact HB.out | apply below_alloc | apply pw_below_drewN | apply below_drew1) | exact HB.out)⟩
 rw [if_neg d2] at h; have d2' : decide (t2 < 0) = false := decide_eq_false d2; clear d2; obtain ⟨t3, h3, h⟩ := Option.bind_eq_some_iff.mp h; go_wp2_with fail; clear x0 x1 x2 x3 x4 x5; refine (laws_szIntSS.calls k A0_3 c0_3 l0_3 t2 t3 _ (Kd.C_below hr0_3 (by repeat (first | (with_reducible first | exact HB.out | apply below_alloc | apply pw_below_drewN | apply below_drew1) | exact HB.out))) hc0_3 h3).mono ?_; rintro e w3 ⟨rfl, hd⟩; have hb := drawn_below hd; clear hd; have NX := Aside0.mk (blk_below BX.out hb); have NB := Aside0.mk (below_step (by repeat (first | (with_reducible first | exact HB.out | apply below_alloc | apply pw_below_drewN | apply below_drew1) | exact HB.out)) hb); clear hb HB BX; have BX := NX; have HB := NB; clear NX NB; have x0 : w3.cell? ⟨w.heap.size, 0, none⟩ = some (.int .i64 a0_0) := (blk_cell BX.out 0).trans rfl; have x1 : w3.cell? ⟨w.heap.size, 1, none⟩ = some (.int .i64 a0_1) := (blk_cell BX.out 1).trans rfl; have x2 : w3.cell? ⟨w.heap.size, 2, none⟩ = some (.slice A0_2 l0_2.length c0_2) := (blk_cell BX.out 2).trans rfl; have x3 : w3.cell? ⟨w.heap.size, 3, none⟩ = some (.slice A0_3 l0_3.length c0_3) := (blk_cell BX.out 3).trans rfl; have x4 : w3.cell? ⟨w.heap.size, 4, none⟩ = some (.slice A0_4 l0_4.length c0_4) := (blk_cell BX.out 4).trans rfl; have x5 : w3.cell? ⟨w.heap.size, 5, none⟩ = some (.slice A0_5 l0_5.length c0_5) := (blk_cell BX.out 5).trans rfl; by_cases d3 : t3 < 0
 · rw [if_pos d3] at h; obtain rfl := Option.some.inj h; have d3' : decide (t3 < 0) = true := decide_eq_true d3; clear d3; go_wp2; go_ret; exact ⟨rfl, by repeat (first | (with_reducible first | exact HB.out | apply below_alloc | apply pw_below_drewN | apply below_drew1) | exact HB.out)⟩
 rw [if_neg d3] at h; have d3' : decide (t3 < 0) = false := decide_eq_false d3; clear d3; obtain ⟨t4, h4, h⟩ := Option.bind_eq_some_iff.mp h; go_wp2_with fail; clear x0 x1 x2 x3 x4 x5; refine (laws_szIntS.calls A0_4 c0_4 l0_4 t3 t4 _ (Kd.C_below hr0_4 (by repeat (first | (with_reducible first | exact HB.out | apply below_alloc | apply pw_below_drewN | apply below_drew1) | exact HB.out))) hc0_4 h4).mono ?_; rintro e w4 ⟨rfl, hd⟩; have hb := drawn_below hd; clear hd; have NX := Aside0.mk (blk_below BX.out hb); have NB := Aside0.mk (below_step (by repeat (first | (with_reducible first | exact HB.out | apply below_alloc | apply pw_below_drewN | apply below_drew1) | exact HB.out)) hb); clear hb HB BX; have BX := NX; have HB := NB; clear NX NB; have x0 : w4.cell? ⟨w.heap.size, 0, none⟩ = some (.int .i64 a0_0) := (blk_cell BX.out 0).trans rfl; have x1 : w4.cell? ⟨w.heap.size, 1, none⟩ = some (.int .i64 a0_1) := (blk_cell BX.out 1).trans rfl; have x2 : w4.cell? ⟨w.heap.size, 2, none⟩ = some (.slice A0_2 l0_2.length c0_2) := (blk_cell BX.out 2).trans rfl; have x3 : w4.cell? ⟨w.heap.size, 3, none⟩ = some (.slice A0_3 l0_3.length c0_3) := (blk_cell BX.out 3).trans rfl; have x4 : w4.cell? ⟨w.heap.size, 4, none⟩ = some (.slice A0_4 l0_4.length c0_4) := (blk_cell BX.out 4).trans rfl; have x5 : w4.cell? ⟨w.heap.size, 5, none⟩ = some (.slice A0_5 l0_5.length c0_5) := (blk_cell BX.out 5).trans rfl; by_cases d4 : t4 < 0
 · rw [if_pos d4] at h; obtain rfl := Option.some.inj h; have d4' : decide (t4 < 0) = true := decide_eq_true d4; clear d4; go_wp2; go_ret; exact ⟨rfl, by repeat (first | (with_reducible first | exact HB.out | apply below_alloc | apply pw_below_drewN | apply below_drew1) | exact HB.out)⟩
 rw [if_neg d4] at h; have d4' : decide (t4 < 0) = false := decide_eq_false d4; clear d4; obtain ⟨t5, h5, h⟩ := Option.bind_eq_some_iff.mp h; go_wp2_with fail; clear x0 x1 x2 x3 x4 x5; refine (laws_szIntSS.calls k A0_5 c0_5 l0_5 t4 t5 _ (Kd.C_below hr0_5 (by repeat (first | (with_reducible first | exact HB.out | apply below_alloc | apply pw_below_drewN | apply below_drew1) | exact HB.out))) hc0_5 h5).mono ?_; rintro e w5 ⟨rfl, hd⟩; have hb := drawn_below hd; clear hd; have NX := Aside0.mk (blk_below BX.out hb); have NB := Aside0.mk (below_step (by repeat (first | (with_reducible first | exact HB.out | apply below_alloc | apply pw_below_drewN | apply below_drew1) | exact HB.out)) hb); clear hb HB BX; have BX := NX; have HB := NB; clear NX NB; have x0 : w5.cell? ⟨w.heap.size, 0, none⟩ = some (.int .i64 a0_0) := (blk_cell BX.out 0).trans rfl; have x1 : w5.cell? ⟨w.heap.size, 1, none⟩ = some (.int .i64 a0_1) := (blk_cell BX.out 1).trans rfl; have x2 : w5.cell? ⟨w.heap.size, 2, none⟩ = some (.slice A0_2 l0_2.length c0_2) := (blk_cell BX.out 2).trans rfl; have x3 : w5.cell? ⟨w.heap.size, 3, none⟩ = some (.slice A0_3 l0_3.length c0_3) := (blk_cell BX.out 3).trans rfl; have x4 : w5.cell? ⟨w.heap.size, 4, none⟩ = some (.slice A0_4 l0_4.length c0_4) := (blk_cell BX.out 4).trans rfl; have x5 : w5.cell? ⟨w.heap.size, 5, none⟩ = some (.slice A0_5 l0_5.length c0_5) := (blk_cell BX.out 5).trans rfl; by_cases d5 : t5 < 0
 · rw [if_pos d5] at h; obtain rfl := Option.some.inj h; have d5' : decide (t5 < 0) = true := decide_eq_true d5; clear d5; go_wp2; go_ret; exact ⟨rfl, by repeat (first | (with_reducible first | exact HB.out | apply below_alloc | apply pw_below_drewN | apply below_drew1) | exact HB.out)⟩
 rw [if_neg d5] at h; have d5' : decide (t5 < 0) = false := decide_eq_false d5; clear d5; obtain rfl := Option.some.inj h; go_wp2; go_ret; exact ⟨rfl, by repeat (first | (with_reducible first | exact HB.out | apply below_alloc | apply pw_below_drewN | apply below_drew1) | exact HB.out)⟩
end Go.Proofs.Ytkocahlifffgjaa.P
namespace Go.Proofs.Ytkocahlifffgjaa.P
open Go.RowKit Go.Proofs.YtkocahlifffgjaaW.PrintWords
set_option linter.unusedVariables false
set_option linter.unusedSimpArgs false
theorem w64 {x : Int} (h1 : -9223372036854775808 ≤ x) (h2 : x ≤ 9223372036854775807) : wrap64 x = x := by unfold wrap64; omega
theorem getD_drop {α : Type} (l : List α) (i : Nat) (d : α) (h : i < l.length) : l.drop i = l.getD i d :: l.drop (i + 1) := by
 rw [List.drop_eq_getElem_cons h]; congr 1; rw [List.getD_eq_getElem?_getD, List.getElem?_eq_getElem h]; rfl
theorem take_getD {α : Type} (l : List α) (i : Nat) (d : α) (h : i < l.length) : l.take (i + 1) = l.take i ++ [l.getD i d] := by
 rw [List.take_succ_eq_append_getElem h]; congr 2; rw [List.getD_eq_getElem?_getD, List.getElem?_eq_getElem h]; rfl
theorem set_mid {α : Type} (a b : List α) (i : Nat) (x y : α) (h : a.length = i) : (a ++ y :: b).set i x = a ++ x :: b := by
 subst h; rw [List.set_append_right _ _ (Nat.le_refl _), Nat.sub_self, List.set_cons_zero]
theorem rep_succ {α : Type} (n : Nat) (x : α) : List.replicate (n + 1) x = x :: List.replicate n x := rfl
end Go.Proofs.Ytkocahlifffgjaa.P
namespace Go.Proofs.Ytkocahlifffgjaa.P
open Go.RowKit Go.Proofs.YtkocahlifffgjaaW.PrintWords Go.Proofs.YtkocahlifffgjaaW.PrintLast Go.Proofs.YtkocahlifffgjaaW.PrintMore
attribute [local go_sem] max2_int min2_int max_two min_two max_three min_three max_four min_four
set_option linter.unusedVariables false
set_option linter.unusedSimpArgs false
def laws_markIntS.l0 : Nat → List Int → Int → Int → Option (Int × List Int)
 | 0, _, _, _ => none
 | k + 1, x0, x1, x5 => if x5 < (x0.length : Int) then (if 0 ≤ x5 then (laws_markIntS.l0 k (x0.set (x5 : Int).toNat x1) (wrap64 (x1 + 1)) (wrap64 (x5 + 1))) else (none)) else (some (x1, x0))
def laws_markIntS.f (k : Nat) (l0 : List Int) (a1 : Int) : Option (Int × List Int) := laws_markIntS.l0 k l0 a1 0
set_option maxHeartbeats 8000000 in
set_option maxRecDepth 100000 in
theorem laws_markIntS.calls (k : Nat) (P0_ : Nat → Prop) (u9000_ : Value) (l0 : List Int) (a1 : Int) (r1 : Int) (r2 : List Int) (w0 w : World) (hB : Below w0.heap.size w0 w) (ho0 : Kd.R (Kd.int .i64) 3 w w0.heap.size P0_ u9000_ l0) (h : laws_markIntS.f k l0 a1 = some (r1, r2)) :
 Calls Try.prog 24 #[u9000_, .int .i64 a1] w fun e w' => e = .returned (.int .i64 r1) ∧ Kd.R (Kd.int .i64) 3 w' w0.heap.size (fun k_ => (P0_ k_ ∨ w.heap.size ≤ k_)) u9000_ r2 ∧ Below w0.heap.size w0 w' ∧ Kept w w' (fun k_ => P0_ k_) := by
 have HO0 := Aside0.mk (show Kd.R (Kd.int .i64) 3 w w0.heap.size (fun k_ => (P0_ k_ ∨ w.heap.size ≤ k_)) u9000_ l0 from Kd.R_mono ho0 (fun k_ hk => (.inl hk))); have HK := Aside0.mk (Kept.refl w (fun k_ => P0_ k_)); have HW0 := Aside0.mk hB.size; have HB := Aside0.mk hB; clear hB; have H : (laws_markIntS.l0 k l0 a1 0) = some (r1, r2) := h; clear h; have H' := Aside0.mk H; clear H; go_enter Try.func24, Try.ntmps24; go_wp2; go_loopg [1, 5] k (fun kq v1 v5 w' => ∃ (x0_1 : List Int) (x1_1 : Int) (x5_1 : Int), v1 = .int .i64 x1_1 ∧ v5 = .int .i64 x5_1 ∧ Aside0 (laws_markIntS.l0 kq x0_1 x1_1 x5_1 = some (r1, r2)) ∧ Aside0 (kq ≤ k) ∧ Aside0 (Kd.R (Kd.int .i64) 3 w' w0.heap.size (fun k_ => (P0_ k_ ∨ w.heap.size ≤ k_)) u9000_ x0_1) ∧ Aside0 (Kept w w' (fun k_ => P0_ k_)) ∧ Aside0 (Below w0.heap.size w0 w'))
 case atStart => exact ⟨(l0), (a1), (0), (by first | rfl | (simp; done) | (simp [*]; done)), (by first | rfl | (simp; done) | (simp [*]; done)), H', ⟨Nat.le_refl _⟩, ⟨by (with_reducible repeat (first | apply Kd.R_alloc | apply Kd.R_drewN | apply Kd.R_drew)); exact HO0.out⟩, ⟨by repeat (first | (with_reducible first | exact HK.out | apply Kept.alloc | apply Kept.drewN | apply Kept.drew) | exact HK.out)⟩, ⟨by repeat (first | (with_reducible first | exact HB.out | apply below_alloc | apply pw_below_drewN | apply below_drew1) | exact HB.out)⟩⟩
 case round =>
  clear H'; (try clear c2); (try clear p2); obtain ⟨x0_1, x1_1, x5_1, rfl, rfl, HA, HK1, HO_0, HK, HB⟩ := hrel; cases gk with
  | zero => exact absurd HA.out (by simp [laws_markIntS.l0])
  | succ k1 =>
   have H := HA.out; clear HA; simp only [laws_markIntS.l0] at H; by_cases c3 : x5_1 < (x0_1.length : Int)
   · rw [if_pos c3] at H; have c3b0 : decide (x5_1 < (x0_1.length : Int)) = true := decide_eq_true c3; clear c3; by_cases c4 : 0 ≤ x5_1
     · rw [if_pos c4] at H; have c4b0 : decide (0 ≤ x5_1) = true := decide_eq_true c4; clear c4; obtain ⟨y101, hy101⟩ : ∃ y_ : List Int, y_ = (x0_1.set (x5_1 : Int).toNat x1_1) := ⟨_, rfl⟩
       replace H : (laws_markIntS.l0 k1 y101 (wrap64 (x1_1 + 1)) (wrap64 (x5_1 + 1))) = some (r1, r2) := by first | (rw [hy101]; with_reducible exact H) | (have H2_ := (Option.bind_some _ _).symm.trans H; rw [hy101]; with_reducible exact H2_) | (have H2_ := (Option.bind_some _ _).symm.trans H; with_reducible exact H2_) | with_reducible exact H | (rw [hy101]; exact H) | exact H
       have Ny101 := Aside0.mk hy101; clear hy101; have H' := Aside0.mk H; clear H; obtain ⟨Ao6, co6, eo6⟩ := Kd.R_slice HO_0.out; subst eo6; have p5 : 0 ≤ (x5_1 : Int) := of_decide_eq_true (by assumption); have q5 : (x5_1 : Int) < ((x0_1.length : Int) : Int) := of_decide_eq_true (by assumption); obtain ⟨go5, co5, eo5, gb5, gl5, cl5, HG5⟩ := Kd.R_form HO_0.out (by omega); (first | cases eo5 | (injection eo5 with ea_ en_ ec_; (first | subst ea_ | (injection ea_ with ea_; subst ea_)); subst ec_; clear en_)); have GB5 := Aside0.mk gb5; have GG5 := Aside0.mk HG5; clear gb5 gl5 HG5; have HMgo5 := Aside0.mk (show (P0_ go5 ∨ w.heap.size ≤ go5) from (HO_0.out.1 _ rfl)); obtain ⟨hx5_0, hf5_0⟩ := Kd.R_celln 0 HO_0.out (x5_1 : Int) p5 q5; replace p5 := eq_true p5; replace q5 := eq_true q5; have HP7 := Kd.R_putg HO_0.out (x5_1 : Int) x1_1; go_wp2_with (first | ((with_reducible refine gate_store (t := 3) (p := 15) rfl ?_); refine store_event (t := 3) (p := 15) (v := ?vo_w8) (w1 := (wr.setCell ⟨go5, (x5_1 : Int).toNat, none⟩ (.int .i64 x1_1))) ?hg ?ho ?hn ?hr ?_; (case ho => rfl); (case hg => rfl); (case hn => rfl); (case hr => first | (go_simp; done) | (go_simp; rfl)); intro w8 hw; have hg : wr.grownBy w8 (some go5) := (by rw [hw]; exact HP7.2); have hp_ : Kd.R (Kd.int .i64) 3 w8 w0.heap.size (fun k_ => (P0_ k_ ∨ w.heap.size ≤ k_)) (.slice (some ⟨go5, 0, none⟩) x0_1.length co6) y101 := (by rw [hw, Ny101.out]; exact HP7.1); clear HP7; have n0_ := Aside0.mk (hp_); have n1_ := Aside0.mk ((by rw [hw]; exact below_set (HB.out) GB5.out : Below w0.heap.size w0 w8)); have n2_ := Aside0.mk (Kept.of_grown (S := (fun k_ => P0_ k_)) hg (by repeat (first | (with_reducible first | exact HK.out | apply Kept.alloc | apply Kept.drewN | apply Kept.drew) | exact HK.out)) (fun k_ e_ => (HO_0.out.1 k_ e_))); clear HO_0; clear HB; clear HK; have HO_0 := n0_; have HB := n1_; have HK := n2_; clear n0_ n1_ n2_; clear hg hw hp_))
       go_roundg k1
       case measure => have := HK1.out; omega
       case rel => exact ⟨(y101), (wrap64 (x1_1 + 1)), (wrap64 (x5_1 + 1)), (by first | rfl | (simp; done) | (simp [*]; done)), (by first | rfl | (simp; done) | (simp [*]; done)), H', ⟨by have := HK1.out; omega⟩, ⟨by (with_reducible repeat (first | apply Kd.R_alloc | apply Kd.R_drewN | apply Kd.R_drew)); exact HO_0.out⟩, ⟨by repeat (first | (with_reducible first | exact HK.out | apply Kept.alloc | apply Kept.drewN | apply Kept.drew) | exact HK.out)⟩, ⟨by repeat (first | (with_reducible first | exact HB.out | apply below_alloc | apply pw_below_drewN | apply below_drew1) | exact HB.out)⟩⟩
     · rw [if_neg c4] at H; exact absurd H (by simp)
   · rw [if_neg c3] at H; have c3b0 : decide (x5_1 < (x0_1.length : Int)) = false := decide_eq_false c3; clear c3; simp only [Option.some.injEq, Prod.mk.injEq] at H; obtain ⟨rfl, rfl⟩ := H; obtain ⟨Ao9, co9, eo9⟩ := Kd.R_slice HO_0.out; subst eo9; go_wp2; go_ret; exact ⟨by first | rfl | (simp [errW_none, errW_some] <;> rfl) | (simp [*, errW_none, errW_some] <;> rfl), by (with_reducible repeat (first | apply Kd.R_alloc | apply Kd.R_drewN | apply Kd.R_drew)); exact HO_0.out, by repeat (first | (with_reducible first | exact HB.out | apply below_alloc | apply pw_below_drewN | apply below_drew1) | exact HB.out), by repeat (first | (with_reducible first | exact HK.out | apply Kept.alloc | apply Kept.drewN | apply Kept.drew) | exact HK.out)⟩
end Go.Proofs.Ytkocahlifffgjaa.P
namespace Go.Proofs.Ytkocahlifffgjaa.P
open Go.RowKit Go.Proofs.YtkocahlifffgjaaW.PrintWords Go.Proofs.YtkocahlifffgjaaW.PrintLast Go.Proofs.YtkocahlifffgjaaW.PrintMore
attribute [local go_sem] max2_int min2_int max_two min_two max_three min_three max_four min_four
set_option linter.unusedVariables false
set_option linter.unusedSimpArgs false
def laws_heldIntS.l0 : Nat → List Int → Int → Int → Option (Int)
 | 0, _, _, _ => none
 | k + 1, x0, x1, x5 => if x5 < (x0.length : Int) then (if 0 ≤ x5 then (if (rd x0 x5) = x1 then (laws_heldIntS.l0 k x0 (wrap64 (x1 + 1)) (wrap64 (x5 + 1))) else (some (-1))) else (none)) else (some x1)
def laws_heldIntS.f (k : Nat) (l0 : List Int) (a1 : Int) : Option (Int) := laws_heldIntS.l0 k l0 a1 0
set_option maxHeartbeats 8000000 in
set_option maxRecDepth 100000 in
theorem laws_heldIntS.calls (k : Nat) (A0 : Option Addr) (c0 : Nat) (l0 : List Int) (a1 : Int) (r : Int) (w : World) (hr0 : Kd.C (Kd.int .i64) w A0 l0.length l0) (hc0 : l0.length ≤ c0) (h : laws_heldIntS.f k l0 a1 = some r) :
 Calls Try.prog 25 #[.slice A0 l0.length c0, .int .i64 a1] w fun e w' => e = .returned (.int .i64 r) ∧ Drawn0 w w' := by
 have HR0 := Aside0.mk hr0; have HC0 := Aside0.mk hc0; clear hr0 hc0; have H : (laws_heldIntS.l0 k l0 a1 0) = some r := h; clear h; have H' := Aside0.mk H; clear H; go_enter Try.func25, Try.ntmps25; go_wp2; go_loopg [1, 5] k (fun kq v1 v5 w' => ∃ (x1_1 : Int) (x5_1 : Int), v1 = .int .i64 x1_1 ∧ v5 = .int .i64 x5_1 ∧ Aside0 (laws_heldIntS.l0 kq l0 x1_1 x5_1 = some r) ∧ Aside0 (kq ≤ k) ∧ Drawn0 w w')
 case atStart => exact ⟨(a1), (0), (by first | rfl | (simp; done) | (simp [*]; done)), (by first | rfl | (simp; done) | (simp [*]; done)), H', ⟨Nat.le_refl _⟩, by repeat (first | exact Drawn0.refl _ | apply Drawn0.step)⟩
 case round =>
  clear H'; (try clear c2); (try clear p2); obtain ⟨x1_1, x5_1, rfl, rfl, HA, HK1, ⟨m1, rfl⟩⟩ := hrel; cases gk with
  | zero => exact absurd HA.out (by simp [laws_heldIntS.l0])
  | succ k1 =>
   have H := HA.out; clear HA; simp only [laws_heldIntS.l0] at H; by_cases c3 : x5_1 < (l0.length : Int)
   · rw [if_pos c3] at H; have c3b0 : decide (x5_1 < (l0.length : Int)) = true := decide_eq_true c3; clear c3; by_cases c4 : 0 ≤ x5_1
     · rw [if_pos c4] at H; have c4b0 : decide (0 ≤ x5_1) = true := decide_eq_true c4; clear c4; by_cases c5 : (rd l0 x5_1) = x1_1
       · rw [if_pos c5] at H; have c5b0 : ((rd l0 x5_1) == x1_1) = true := beq_iff_eq.mpr c5; have c5b1 : ((rd l0 x5_1) != x1_1) = false := bne_eq_false_iff_eq.mpr c5; clear c5; have H' := Aside0.mk H; clear H; have p101 : 0 ≤ (x5_1 : Int) := of_decide_eq_true (by assumption); have q101 : x5_1 < (l0.length : Int) := of_decide_eq_true (by assumption); obtain ⟨ad101, e101, hx101_0⟩ := Kd.at_int HR0.out x5_1 p101 q101; cases e101; replace p101 := eq_true p101; replace q101 := eq_true q101; go_wp2
         go_roundg k1
         case measure => have := HK1.out; omega
         case rel => exact ⟨(wrap64 (x1_1 + 1)), (wrap64 (x5_1 + 1)), (by first | rfl | (simp; done) | (simp [*]; done)), (by first | rfl | (simp; done) | (simp [*]; done)), H', ⟨by have := HK1.out; omega⟩, by repeat (first | exact Drawn0.refl _ | apply Drawn0.step)⟩
       · rw [if_neg c5] at H; have c5b0 : ((rd l0 x5_1) == x1_1) = false := beq_eq_false_iff_ne.mpr c5; have c5b1 : ((rd l0 x5_1) != x1_1) = true := bne_iff_ne.mpr c5; obtain rfl := Option.some.inj H; have p101 : 0 ≤ (x5_1 : Int) := of_decide_eq_true (by assumption); have q101 : x5_1 < (l0.length : Int) := of_decide_eq_true (by assumption); obtain ⟨ad101, e101, hx101_0⟩ := Kd.at_int HR0.out x5_1 p101 q101; cases e101; replace p101 := eq_true p101; replace q101 := eq_true q101; go_wp2; go_ret; exact ⟨by first | rfl | (simp; done) | (simp [*]; done), by repeat (first | exact Drawn0.refl _ | apply Drawn0.step)⟩
     · rw [if_neg c4] at H; exact absurd H (by simp)
   · rw [if_neg c3] at H; have c3b0 : decide (x5_1 < (l0.length : Int)) = false := decide_eq_false c3; clear c3; obtain rfl := Option.some.inj H; go_wp2; go_ret; exact ⟨by first | rfl | (simp; done) | (simp [*]; done), by repeat (first | exact Drawn0.refl _ | apply Drawn0.step)⟩
end Go.Proofs.Ytkocahlifffgjaa.P
namespace Go.Proofs.Ytkocahlifffgjaa.P
open Go.RowKit Go.Proofs.YtkocahlifffgjaaW.PrintWords Go.Proofs.YtkocahlifffgjaaW.PrintLast Go.Proofs.YtkocahlifffgjaaW.PrintMore
set_option linter.unusedVariables false
set_option linter.unusedSimpArgs false
def ramp (n : Int) : Nat → List Int
 | 0 => []
 | m + 1 => ramp n m ++ [n + m]
theorem ramp_len (n : Int) (m : Nat) : (ramp n m).length = m := by
 induction m with
 | zero => rfl
 | succ m ih => simp [ramp, ih]
theorem ramp_get (n : Int) (m i : Nat) (h : i < m) : (ramp n m).getD i 0 = n + i := by
 induction m with
 | zero => omega
 | succ m ih =>
  simp only [ramp, List.getD_eq_getElem?_getD]; by_cases e : i < m
  · rw [List.getElem?_append_left (by rw [ramp_len]; exact e), ← List.getD_eq_getElem?_getD]; exact ih e
  · obtain rfl : i = m := by omega
    rw [List.getElem?_append_right (by rw [ramp_len]; omega)]; simp [ramp_len]
theorem markIntS_loop (l : List Int) (hl : l.length ≤ 1152921504606846976) (n : Int) (hn : 0 ≤ n) (hn' : n ≤ 1152921504606846976) (d : Nat) : ∀ (k i : Nat), i ≤ l.length → l.length - i = d → d < k →
 laws_markIntS.l0 k (ramp n i ++ l.drop i) (n + i) i = some (n + (l.length : Int), ramp n l.length) := by
 induction d with
 | zero =>
  intro k i h1 hd hk; obtain ⟨k, rfl⟩ : ∃ m, k = m + 1 := ⟨k - 1, by omega⟩
  obtain rfl : i = l.length := by omega
  simp only [laws_markIntS.l0]; rw [if_neg (by simp [ramp_len])]; simp
 | succ d ih =>
  intro k i h1 hd hk; obtain ⟨k, rfl⟩ : ∃ m, k = m + 1 := ⟨k - 1, by omega⟩
  simp only [laws_markIntS.l0]; rw [if_pos (by simp [ramp_len]; omega), if_pos (by omega)]; have e1 : wrap64 ((i : Int) + 1) = ((i + 1 : Nat) : Int) := by unfold wrap64; omega
  have e2 : wrap64 (n + (i : Int) + 1) = n + ((i + 1 : Nat) : Int) := by unfold wrap64; omega
  have e3 : (ramp n i ++ l.drop i).set (i : Int).toNat (n + i) = ramp n (i + 1) ++ l.drop (i + 1) := by
   rw [getD_drop l i 0 (by omega), Int.toNat_natCast, set_mid _ _ _ _ _ (ramp_len n i)]; simp [ramp]
  rw [e1, e2, e3]; exact ih k (i + 1) (by omega) (by omega) (by omega)
theorem markIntS_eq (l : List Int) (hl : l.length ≤ 1152921504606846976) (n : Int) (hn : 0 ≤ n) (hn' : n ≤ 1152921504606846976) (k : Nat) (hk : l.length < k) : laws_markIntS.f k l n = some (n + (l.length : Int), ramp n l.length) := by
 have := markIntS_loop l hl n hn hn' l.length k 0 (by omega) (by omega) hk; unfold laws_markIntS.f; simpa [ramp] using this
theorem heldIntS_loop (m : Nat) (hm : m ≤ 1152921504606846976) (n : Int) (hn : 0 ≤ n) (hn' : n ≤ 1152921504606846976) (d : Nat) : ∀ (k i : Nat), i ≤ m → m - i = d → d < k →
 laws_heldIntS.l0 k (ramp n m) (n + i) i = some (n + (m : Int)) := by
 induction d with
 | zero =>
  intro k i h1 hd hk; obtain ⟨k, rfl⟩ : ∃ m, k = m + 1 := ⟨k - 1, by omega⟩
  obtain rfl : i = m := by omega
  simp only [laws_heldIntS.l0]; rw [if_neg (by simp [ramp_len])]
 | succ d ih =>
  intro k i h1 hd hk; obtain ⟨k, rfl⟩ : ∃ m, k = m + 1 := ⟨k - 1, by omega⟩
  simp only [laws_heldIntS.l0]; rw [if_pos (by simp [ramp_len]; omega), if_pos (by omega), if_pos (by unfold rd; simpa using ramp_get n m i (by omega))]; have e1 : wrap64 ((i : Int) + 1) = ((i + 1 : Nat) : Int) := by unfold wrap64; omega
  have e2 : wrap64 (n + (i : Int) + 1) = n + ((i + 1 : Nat) : Int) := by unfold wrap64; omega
  rw [e1, e2]; exact ih k (i + 1) (by omega) (by omega) (by omega)
theorem heldIntS_eq (m : Nat) (hm : m ≤ 1152921504606846976) (n : Int) (hn : 0 ≤ n) (hn' : n ≤ 1152921504606846976) (k : Nat) (hk : m < k) : laws_heldIntS.f k (ramp n m) n = some (n + (m : Int)) := by
 have := heldIntS_loop m hm n hn hn' m k 0 (by omega) (by omega) hk; unfold laws_heldIntS.f; simpa using this
theorem markIntS_calls (P0_ : Nat → Prop) (u : Value) (l0 : List Int) (a1 : Int) (w0 w : World) (hB : Below w0.heap.size w0 w) (ho0 : Kd.R (Kd.int .i64) 3 w w0.heap.size P0_ u l0) (ha : 0 ≤ a1) (hs : a1 + (l0.length : Int) ≤ 1152921504606846976) :
 Calls Try.prog 24 #[u, .int .i64 a1] w fun e w' => e = .returned (.int .i64 (a1 + (l0.length : Int))) ∧ Kd.R (Kd.int .i64) 3 w' w0.heap.size P0_ u (ramp a1 l0.length) ∧ Below w0.heap.size w0 w' ∧ Kept w w' P0_ := by
 refine (laws_markIntS.calls (l0.length + 1) P0_ u l0 a1 _ _ w0 w hB ho0 (markIntS_eq l0 (by omega) a1 ha (by omega) (l0.length + 1) (by omega))).mono ?_; rintro e w' ⟨he, ho, hb, hk⟩; exact ⟨he, Kd.R_mono (Kd.R_tight rfl ho) (fun q hq => ho0.1 q hq.symm), hb, hk⟩
theorem heldIntS_calls (A : Option Addr) (c : Nat) (l : List Int) (a1 : Int) (w : World) (hr : Kd.C (Kd.int .i64) w A (ramp a1 l.length).length (ramp a1 l.length)) (hc : l.length ≤ c) (ha : 0 ≤ a1) (hs : a1 + (l.length : Int) ≤ 1152921504606846976) :
 Calls Try.prog 25 #[.slice A l.length c, .int .i64 a1] w fun e w' => e = .returned (.int .i64 (a1 + (l.length : Int))) ∧ Below w.heap.size w w' := by
 have H := laws_heldIntS.calls (l.length + 1) A c (ramp a1 l.length) a1 (a1 + (l.length : Int)) w hr (by rw [ramp_len]; exact hc) (heldIntS_eq l.length (by omega) a1 ha (by omega) (l.length + 1) (by omega)); rw [ramp_len] at H; refine H.mono ?_; rintro e w' ⟨he, n, rfl⟩; exact ⟨he, pw_below_drewN (Below.refl _ _) n⟩
end Go.Proofs.Ytkocahlifffgjaa.P
namespace Go.Proofs.Ytkocahlifffgjaa.P
open Go.RowKit Go.Proofs.YtkocahlifffgjaaW.PrintWords Go.Proofs.YtkocahlifffgjaaW.PrintLast Go.Proofs.YtkocahlifffgjaaW.PrintMore
attribute [local go_sem] max2_int min2_int max_two min_two max_three min_three max_four min_four
set_option linter.unusedVariables false
set_option linter.unusedSimpArgs false
def laws_heldIntSS.l0 : Nat → List (List Int) → Int → Int → Option (Int)
 | 0, _, _, _ => none
 | k + 1, x0, x1, x5 => if x5 < (x0.length : Int) then (if 0 ≤ x5 then ((laws_heldIntS.f k (rd_L1 x0 x5) x1).bind fun t102 => (if t102 < 0 then (some (-1)) else (laws_heldIntSS.l0 k x0 t102 (wrap64 (x5 + 1))))) else (none)) else (some x1)
def laws_heldIntSS.f (k : Nat) (l0 : List (List Int)) (a1 : Int) : Option (Int) := laws_heldIntSS.l0 k l0 a1 0
set_option maxHeartbeats 8000000 in
set_option maxRecDepth 100000 in
theorem laws_heldIntSS.calls (k : Nat) (A0 : Option Addr) (c0 : Nat) (l0 : List (List Int)) (a1 : Int) (r : Int) (w : World) (hr0 : Kd.C (Kd.slice 3 (Kd.int .i64)) w A0 l0.length l0) (hc0 : l0.length ≤ c0) (h : laws_heldIntSS.f k l0 a1 = some r) :
 Calls Try.prog 20 #[.slice A0 l0.length c0, .int .i64 a1] w fun e w' => e = .returned (.int .i64 r) ∧ Drawn0 w w' := by
 have HR0 := Aside0.mk hr0; have HC0 := Aside0.mk hc0; clear hr0 hc0; have H : (laws_heldIntSS.l0 k l0 a1 0) = some r := h; clear h; have H' := Aside0.mk H; clear H; go_enter Try.func20, Try.ntmps20; go_wp2; go_loopg [1, 5] k (fun kq v1 v5 w' => ∃ (x1_1 : Int) (x5_1 : Int), v1 = .int .i64 x1_1 ∧ v5 = .int .i64 x5_1 ∧ Aside0 (laws_heldIntSS.l0 kq l0 x1_1 x5_1 = some r) ∧ Aside0 (kq ≤ k) ∧ Drawn0 w w')
 case atStart => exact ⟨(a1), (0), (by first | rfl | (simp; done) | (simp [*]; done)), (by first | rfl | (simp; done) | (simp [*]; done)), H', ⟨Nat.le_refl _⟩, by repeat (first | exact Drawn0.refl _ | apply Drawn0.step)⟩
 case round =>
  clear H'; (try clear c2); (try clear p2); obtain ⟨x1_1, x5_1, rfl, rfl, HA, HK1, ⟨m1, rfl⟩⟩ := hrel; cases gk with
  | zero => exact absurd HA.out (by simp [laws_heldIntSS.l0])
  | succ k1 =>
   have H := HA.out; clear HA; simp only [laws_heldIntSS.l0] at H; by_cases c3 : x5_1 < (l0.length : Int)
   · rw [if_pos c3] at H; have c3b0 : decide (x5_1 < (l0.length : Int)) = true := decide_eq_true c3; clear c3; by_cases c4 : 0 ≤ x5_1
     · rw [if_pos c4] at H; have c4b0 : decide (0 ≤ x5_1) = true := decide_eq_true c4; clear c4; replace H := Option.bind_eq_some_iff.mp H; obtain ⟨t102, A50, H⟩ := H; replace H : (if t102 < 0 then (some (-1)) else (laws_heldIntSS.l0 k1 l0 t102 (wrap64 (x5_1 + 1)))) = some r := H; have A5 := Aside0.mk A50; clear A50; by_cases c6 : t102 < 0
       · rw [if_pos c6] at H; have c6b0 : decide (t102 < 0) = true := decide_eq_true c6; clear c6; obtain rfl := Option.some.inj H; have p101 : 0 ≤ (x5_1 : Int) := of_decide_eq_true (by assumption); have q101 : x5_1 < (l0.length : Int) := of_decide_eq_true (by assumption); obtain ⟨ad101, A101_0, c101_0, e101, hx101_0, hl101_0, hi101_0⟩ := at_L1 HR0.out x5_1 p101 q101; cases e101; have HR101_0 := Aside0.mk hi101_0; have HC101_0 := Aside0.mk hl101_0; clear hi101_0 hl101_0; replace p101 := eq_true p101; replace q101 := eq_true q101; go_wp2_with (first | ((with_reducible refine gate_callee (f := 25) rfl ?_); refine goesL_ (some 17) rfl rfl Try.func25 (by kernel_rfl) rfl #[.slice A101_0 (rd_L1 l0 x5_1).length c101_0, .int .i64 x1_1] rfl (by (try simp only [List.map_toArray, List.map_cons, List.map_nil]); first | done | rfl | (simp only [List.length_drop, List.length_take]; rfl)) ?_; (with_reducible refine (laws_heldIntS.calls k1 _ _ (rd_L1 l0 x5_1) x1_1 t102 _ ?side1 ?side2 A5.out).mono ?_); (case side1 => repeat (first | exact HR101_0.out | refine Kd.C_alloc ?_ _ | refine Kd.C_drewN ?_ _ | refine Kd.C_drew ?_)); (case side2 => exact HC101_0.out); rintro e w' ⟨rfl, ⟨nd, rfl⟩⟩; refine ⟨_, rfl, ?_⟩)); go_ret; exact ⟨by first | rfl | (simp; done) | (simp [*]; done), by repeat (first | exact Drawn0.refl _ | apply Drawn0.step)⟩
       · rw [if_neg c6] at H; have c6b0 : decide (t102 < 0) = false := decide_eq_false c6; clear c6; have H' := Aside0.mk H; clear H; have p101 : 0 ≤ (x5_1 : Int) := of_decide_eq_true (by assumption); have q101 : x5_1 < (l0.length : Int) := of_decide_eq_true (by assumption); obtain ⟨ad101, A101_0, c101_0, e101, hx101_0, hl101_0, hi101_0⟩ := at_L1 HR0.out x5_1 p101 q101; cases e101; have HR101_0 := Aside0.mk hi101_0; have HC101_0 := Aside0.mk hl101_0; clear hi101_0 hl101_0; replace p101 := eq_true p101; replace q101 := eq_true q101; go_wp2_with (first | ((with_reducible refine gate_callee (f := 25) rfl ?_); refine goesL_ (some 17) rfl rfl Try.func25 (by kernel_rfl) rfl #[.slice A101_0 (rd_L1 l0 x5_1).length c101_0, .int .i64 x1_1] rfl (by (try simp only [List.map_toArray, List.map_cons, List.map_nil]); first | done | rfl | (simp only [List.length_drop, List.length_take]; rfl)) ?_; (with_reducible refine (laws_heldIntS.calls k1 _ _ (rd_L1 l0 x5_1) x1_1 t102 _ ?side1 ?side2 A5.out).mono ?_); (case side1 => repeat (first | exact HR101_0.out | refine Kd.C_alloc ?_ _ | refine Kd.C_drewN ?_ _ | refine Kd.C_drew ?_)); (case side2 => exact HC101_0.out); rintro e w' ⟨rfl, ⟨nd, rfl⟩⟩; refine ⟨_, rfl, ?_⟩))
         go_roundg k1
         case measure => have := HK1.out; omega
         case rel => exact ⟨(t102), (wrap64 (x5_1 + 1)), (by first | rfl | (simp; done) | (simp [*]; done)), (by first | rfl | (simp; done) | (simp [*]; done)), H', ⟨by have := HK1.out; omega⟩, by repeat (first | exact Drawn0.refl _ | apply Drawn0.step)⟩
     · rw [if_neg c4] at H; exact absurd H (by simp)
   · rw [if_neg c3] at H; have c3b0 : decide (x5_1 < (l0.length : Int)) = false := decide_eq_false c3; clear c3; obtain rfl := Option.some.inj H; go_wp2; go_ret; exact ⟨by first | rfl | (simp; done) | (simp [*]; done), by repeat (first | exact Drawn0.refl _ | apply Drawn0.step)⟩
end Go.Proofs.Ytkocahlifffgjaa.P
namespace Go.Proofs.Ytkocahlifffgjaa.P
open Go.RowKit Go.Proofs.YtkocahlifffgjaaW.PrintWords Go.Proofs.YtkocahlifffgjaaW.PrintLast Go.Proofs.YtkocahlifffgjaaW.PrintMore
set_option linter.unusedVariables false
set_option linter.unusedSimpArgs false
def szRows : List (List Int) → Nat
 | [] => 0
 | r :: l => r.length + szRows l
def mkRows : List (List Int) → Int → List (List Int)
 | [], _ => []
 | r :: l, a => ramp a r.length :: mkRows l (a + r.length)
theorem mkRows_len (l : List (List Int)) : ∀ a, (mkRows l a).length = l.length := by
 induction l with
 | nil => intro a; rfl
 | cons r l ih => intro a; simp [mkRows, ih]
theorem szRows_append (l m : List (List Int)) : szRows (l ++ m) = szRows l + szRows m := by
 induction l with
 | nil => simp [szRows]
 | cons r l ih => simp only [List.cons_append, szRows, ih]; omega
theorem mkRows_append (l m : List (List Int)) : ∀ a, mkRows (l ++ m) a = mkRows l a ++ mkRows m (a + szRows l) := by
 induction l with
 | nil => intro a; simp [szRows, mkRows]
 | cons r l ih => intro a; simp only [List.cons_append, mkRows, szRows, ih]; congr 3; omega
theorem szRows_take (l : List (List Int)) (i : Nat) : szRows (l.take i) ≤ szRows l := by
 have := szRows_append (l.take i) (l.drop i); rw [List.take_append_drop] at this; omega
theorem szRows_small (l : List (List Int)) (B : Nat) (hs : ∀ r, r ∈ l → r.length ≤ B) : szRows l ≤ l.length * B := by
 induction l with
 | nil => simp [szRows]
 | cons r l ih =>
  have h0 := hs r (by simp); have h1 := ih (fun r hr => hs r (by simp [hr])); simp only [szRows, List.length_cons, Nat.add_mul]; omega
theorem mkRows_get (l : List (List Int)) (a : Int) (i : Nat) (hi : i < l.length) : rd_L1 (mkRows l a) (i : Int) = ramp (a + szRows (l.take i)) (rd_L1 l i).length := by
 have e : l = l.take i ++ l.getD i [] :: l.drop (i + 1) := by rw [← getD_drop l i _ hi, List.take_append_drop]
 have e2 : mkRows l a = mkRows (l.take i) a ++ mkRows (l.getD i [] :: l.drop (i + 1)) (a + szRows (l.take i)) := by rw [← mkRows_append, ← e]
 unfold rd_L1; rw [e2, Int.toNat_natCast, List.getD_eq_getElem?_getD, List.getElem?_append_right (by rw [mkRows_len, List.length_take]; omega), mkRows_len, List.length_take, Nat.min_eq_left (by omega), Nat.sub_self]; rfl
theorem heldIntSS_loop (l : List (List Int)) (hlen : l.length ≤ 1152921504606846976) (a : Int) (ha : 0 ≤ a) (hs : a + szRows l ≤ 1152921504606846976) (d : Nat) : ∀ (i : Nat), i ≤ l.length → l.length - i = d →
 Ev (fun k => laws_heldIntSS.l0 k (mkRows l a) (a + szRows (l.take i)) i) (a + szRows l) := by
 induction d with
 | zero =>
  intro i h1 hd; obtain rfl : i = l.length := by omega
  refine ⟨1, fun k hk => ?_⟩; dsimp only; obtain ⟨k, rfl⟩ : ∃ m, k = m + 1 := ⟨k - 1, by omega⟩
  simp only [laws_heldIntSS.l0]; rw [if_neg (by rw [mkRows_len]; omega), List.take_of_length_le (Nat.le_refl _)]
 | succ d ih =>
  intro i h1 hd; obtain ⟨K, h⟩ := ih (i + 1) (by omega) (by omega); dsimp only at h; have hb1 := szRows_take l i; have hb2 := szRows_take l (i + 1); have esz : szRows (l.take (i + 1)) = szRows (l.take i) + (rd_L1 l i).length := by
   rw [take_getD l i [] (by omega), szRows_append]; unfold rd_L1; simp [szRows]
  refine ⟨K + (rd_L1 l i).length + 2, fun k hk => ?_⟩; dsimp only; obtain ⟨k, rfl⟩ : ∃ m, k = m + 1 := ⟨k - 1, by omega⟩
  simp only [laws_heldIntSS.l0]; rw [if_pos (by rw [mkRows_len]; omega), if_pos (by omega), mkRows_get l a i (by omega), heldIntS_eq _ (by omega) _ (by omega) (by omega) k (by omega)]; simp only [Option.bind_some]; rw [if_neg (by omega), show wrap64 ((i : Int) + 1) = ((i + 1 : Nat) : Int) by unfold wrap64; omega, show a + (szRows (l.take i) : Int) + ((rd_L1 l i).length : Int) = a + szRows (l.take (i + 1)) by rw [esz]; omega]; exact h k (by omega)
theorem heldIntSS_ev (l : List (List Int)) (hlen : l.length ≤ 1152921504606846976) (a : Int) (ha : 0 ≤ a) (hs : a + szRows l ≤ 1152921504606846976) : Ev (fun k => laws_heldIntSS.f k (mkRows l a) a) (a + szRows l) := by
 obtain ⟨K, h⟩ := heldIntSS_loop l hlen a ha hs l.length 0 (by omega) (by omega); dsimp only at h; rw [List.take_zero] at h; refine ⟨K, fun k hk => ?_⟩; dsimp only; have h2 := h k hk; simp only [szRows, Int.natCast_zero, Int.add_zero] at h2; unfold laws_heldIntSS.f; exact h2
theorem heldIntSS_calls (A : Option Addr) (c : Nat) (l : List (List Int)) (a : Int) (w : World) (hr : Kd.C (Kd.slice 3 (Kd.int .i64)) w A (mkRows l a).length (mkRows l a)) (hc : l.length ≤ c) (ha : 0 ≤ a) (hs : a + szRows l ≤ 1152921504606846976) (hlen : l.length ≤ 1152921504606846976) :
 Calls Try.prog 20 #[.slice A l.length c, .int .i64 a] w fun e w' => e = .returned (.int .i64 (a + szRows l)) ∧ Below w.heap.size w w' := by
 obtain ⟨k, hk⟩ := (heldIntSS_ev l hlen a ha hs).rounds; have H := laws_heldIntSS.calls k A c (mkRows l a) a (a + szRows l) w hr (by rw [mkRows_len]; exact hc) hk; rw [mkRows_len] at H; refine H.mono ?_; rintro e w' ⟨he, n, rfl⟩; exact ⟨he, pw_below_drewN (Below.refl _ _) n⟩
set_option maxHeartbeats 4000000 in
set_option maxRecDepth 100000 in
theorem markIntSS_calls (P0_ : Nat → Prop) (u : Value) (l0 : List (List Int)) (a1 : Int) (w0 w : World) (hB : Below w0.heap.size w0 w) (ho0 : Kd.S (Kd.slice 3 (Kd.int .i64)) 23 w w0.heap.size P0_ u l0)
 (ha : 0 ≤ a1) (hs : a1 + szRows l0 ≤ 1152921504606846976) (hlen : l0.length ≤ 1152921504606846976) :
 Calls Try.prog 19 #[u, .int .i64 a1] w fun e w' => e = .returned (.int .i64 (a1 + szRows l0)) ∧ Kd.S (Kd.slice 3 (Kd.int .i64)) 23 w' w0.heap.size P0_ u (mkRows l0 a1) ∧ Below w0.heap.size w0 w' ∧ Kept w w' P0_ := by
 have HO := Aside0.mk ho0; have HB := Aside0.mk hB; have HW := Aside0.mk hB.size; have HS := Aside0.mk hs; have HLEN := Aside0.mk hlen; clear ho0 hB hs; go_enter Try.func19, Try.ntmps19; go_wp2; go_loopg [1, 5] l0.length (fun gg s1 s5 wr => ∃ kk : Nat, kk ≤ l0.length ∧ l0.length - kk ≤ gg ∧ s5 = .int .i64 kk ∧ s1 = .int .i64 (a1 + szRows (l0.take kk)) ∧ Aside0 (Kd.S (Kd.slice 3 (Kd.int .i64)) 23 wr w0.heap.size P0_ u (mkRows (l0.take kk) a1 ++ l0.drop kk)) ∧ Aside0 (Below w0.heap.size w0 wr) ∧ Aside0 (Kept w wr P0_))
 case atStart => exact ⟨0, Nat.zero_le _, by omega, rfl, by simp [szRows], ⟨by simpa [mkRows] using HO.out⟩, HB, ⟨Kept.refl _ _⟩⟩
 case round =>
  clear HO HB; obtain ⟨kk, hkk, hg, rfl, rfl, HO, HB, HK⟩ := hrel; have hb1 := szRows_take l0 kk; by_cases hlt : kk < l0.length
  · obtain ⟨y, hy⟩ : ∃ y, y = l0.getD kk [] := ⟨_, rfl⟩
    have ed := getD_drop l0 kk [] hlt; have et := take_getD l0 kk [] hlt; rw [← hy] at ed et; have esz : szRows (l0.take (kk + 1)) = szRows (l0.take kk) + y.length := by rw [et, szRows_append]; simp [szRows]
    have hb2 := szRows_take l0 (kk + 1); have emk : ∀ z, z = ramp (a1 + szRows (l0.take kk)) y.length → (mkRows (l0.take kk) a1 ++ l0.drop kk).set kk z = mkRows (l0.take (kk + 1)) a1 ++ l0.drop (kk + 1) := by
     rintro z rfl; rw [ed, set_mid _ _ _ _ _ (by rw [mkRows_len, List.length_take]; omega), et, mkRows_append]; simp [mkRows]
    have elen : (mkRows (l0.take kk) a1 ++ l0.drop kk).length = l0.length := by rw [List.length_append, mkRows_len, List.length_take, List.length_drop]; omega
    have eget : (mkRows (l0.take kk) a1 ++ l0.drop kk).getD kk [] = y := by
     rw [ed, List.getD_eq_getElem?_getD, List.getElem?_append_right (by rw [mkRows_len, List.length_take]; omega), mkRows_len, List.length_take, Nat.min_eq_left hkk, Nat.sub_self]; rfl
    have EM := Aside0.mk emk; have ES := Aside0.mk esz; have LN := Aside0.mk elen; clear emk esz ed et hy; obtain ⟨xs, hxs⟩ : ∃ xs, xs = mkRows (l0.take kk) a1 ++ l0.drop kk := ⟨_, rfl⟩
    rw [← hxs] at HO EM LN eget; obtain ⟨go, co, eo, gb, gl, cl, HG⟩ := Kd.S_form HO.out (by rw [LN.out]; omega); subst eo; obtain ⟨oki, c, hcl, hM, hcc, hfr, hoki, hH⟩ := Kd.S_elem HO.out [] (kk : Int) (by omega) (by rw [LN.out]; omega); rw [Int.toNat_natCast, eget] at hM; obtain ⟨v1, rfl, hR⟩ := hM; have hx0 : wr.cell? ⟨go, kk, none⟩ = some v1 := by have := hcc 0 _ rfl; simpa [Kd.slice] using this
    obtain ⟨s, hs⟩ : ∃ s : Int, s = a1 + szRows (l0.take kk) := ⟨_, rfl⟩
    rw [← hs] at EM; rw [← hs]; have hs0 : 0 ≤ s := by omega
    have hs1 : s ≤ 1152921504606846976 := by have := HS.out; omega
    have hyl : s + y.length ≤ 1152921504606846976 := by have := HS.out; have := ES.out; omega
    have hsz : xs.length = l0.length := LN.out; have hd : decide (kk < xs.length) = true := decide_eq_true (by omega); have hlt2 : kk < xs.length := by omega
    have hmx : xs.length ≤ 9223372036854775807 := by have := HLEN.out; omega
    have GB := Aside0.mk gb; have HH := Aside0.mk hH; have HR := Aside0.mk hR; have OI := Aside0.mk hoki; have L := Aside0.mk hlt; have SV := Aside0.mk hs; have EMM := EM; clear hcl hcc hfr hH hR hoki gb gl HG eget hs hlt hxs EM hsz; go_wp2_with (go_at_call 24; refine (markIntS_calls oki v1 y s w0 _ (by repeat (first | exact HB.out | apply below_drew | apply pw_below_drewN)) (by repeat (first | exact HR.out | apply Kd.R_drew | apply Kd.R_drewN)) hs0 hyl).mono ?_; rintro e w' ⟨rfl, ho, hb, hk⟩; have NB := Aside0.mk hb; have NO := Aside0.mk ho; have NK := Aside0.mk hk; clear ho hb hk)
    go_roundg (l0.length - (kk + 1))
    case measure => have := L.out; omega
    case rel =>
     refine ⟨kk + 1, by have := L.out; omega, by omega, by go_num, ?_, ?_, NB, ?_⟩
     · rw [ES.out]; have := SV.out; congr 1; omega
     · have H2 := Kd.H_kept HH.out NK.out (fun k _ hno hs => hno hs); have hR1 := HR.out.1; have H3 := Kd.H_back H2 (x' := ramp s y.length) ⟨v1, rfl, (Kd.R_mono (Kd.R_tight rfl NO.out) (fun q hq => hR1 q hq.symm))⟩ (fun _ h => h); rw [Int.toNat_natCast, EMM.out _ rfl] at H3; exact ⟨H3⟩
     · exact ⟨(HK.out).then_ NK.out (fun k hk => .inl (OI.out k hk).1)⟩
  · have e : kk = l0.length := by omega
    obtain ⟨xs, hxs⟩ : ∃ xs, xs = mkRows (l0.take kk) a1 ++ l0.drop kk := ⟨_, rfl⟩
    have hfin : xs = mkRows l0 a1 := by rw [hxs, e, List.take_of_length_le (Nat.le_refl _), List.drop_of_length_le (Nat.le_refl _), List.append_nil]
    have hsum : szRows (l0.take kk) = szRows l0 := by rw [e, List.take_of_length_le (Nat.le_refl _)]
    have hln : xs.length = l0.length := by rw [hfin, mkRows_len]
    rw [← hxs] at HO; obtain ⟨A, c, eu⟩ := Kd.R_slice (Kd.S_R HO.out); subst eu; have hd : decide (kk < xs.length) = false := decide_eq_false (by omega); have F := Aside0.mk hfin; have SU := Aside0.mk hsum; clear hfin hxs hlt e hln hsum; go_wp2; go_ret; refine ⟨by rw [← SU.out]; rfl, by rw [← F.out]; exact HO.out, HB.out, HK.out⟩
end Go.Proofs.Ytkocahlifffgjaa.P
namespace Go.Proofs.Ytkocahlifffgjaa.P
open Go.RowKit Go.Proofs.YtkocahlifffgjaaW.PrintWords
set_option linter.unusedVariables false
set_option linter.unusedSimpArgs false
theorem eqIntS_loop (l : List Int) (hl : l.length ≤ 35184372088832) (d : Nat) : ∀ (k i : Nat), i ≤ l.length → l.length - i = d → d < k → laws_eqIntS.l0 k l l i = some true := by
 induction d with
 | zero =>
  intro k i h1 hd hk; obtain ⟨k, rfl⟩ : ∃ m, k = m + 1 := ⟨k - 1, by omega⟩
  simp only [laws_eqIntS.l0]; rw [if_neg (by omega)]
 | succ d ih =>
  intro k i h1 hd hk; obtain ⟨k, rfl⟩ : ∃ m, k = m + 1 := ⟨k - 1, by omega⟩
  simp only [laws_eqIntS.l0]; rw [if_pos (by omega), if_pos (by omega), if_pos (by omega), if_pos trivial]; have : wrap64 ((i : Int) + 1) = ((i + 1 : Nat) : Int) := by unfold wrap64; omega
  rw [this]; exact ih k (i + 1) (by omega) (by omega) (by omega)
theorem eqIntS_eq (l : List Int) (hl : l.length ≤ 35184372088832) (k : Nat) (hk : l.length < k) : laws_eqIntS.f k l l = some true := by
 unfold laws_eqIntS.f; rw [if_pos rfl]; exact eqIntS_loop l hl l.length k 0 (by omega) (by omega) hk
theorem eqIntS_ev (l : List Int) (hl : l.length ≤ 35184372088832) : Ev (fun k => laws_eqIntS.f k l l) true := ⟨l.length + 1, fun k hk => eqIntS_eq l (by omega) k (by omega)⟩
end Go.Proofs.Ytkocahlifffgjaa.P
namespace Go.Proofs.Ytkocahlifffgjaa.P
open Go.RowKit Go.Proofs.YtkocahlifffgjaaW.PrintWords
set_option linter.unusedVariables false
set_option linter.unusedSimpArgs false
theorem eqIntSS_loop (l : List (List Int)) (hlen : l.length ≤ 1048576) (hs : ∀ i : Nat, i < l.length → (rd_L1 l i).length ≤ 1048576) (d : Nat) : ∀ (i : Nat), i ≤ l.length → l.length - i = d → Ev (fun k => laws_eqIntSS.l0 k l l i) true := by
 induction d with
 | zero =>
  intro i h1 hd; refine ⟨1, fun k hk => ?_⟩; dsimp only; obtain ⟨k, rfl⟩ : ∃ m, k = m + 1 := ⟨k - 1, by omega⟩
  simp only [laws_eqIntSS.l0]; rw [if_neg (by omega)]
 | succ d ih =>
  intro i h1 hd; obtain ⟨K, h⟩ := ih (i + 1) (by omega) (by omega); dsimp only at h; have hb := hs i (by omega); refine ⟨K + (rd_L1 l i).length + 2, fun k hk => ?_⟩; dsimp only; obtain ⟨k, rfl⟩ : ∃ m, k = m + 1 := ⟨k - 1, by omega⟩
  simp only [laws_eqIntSS.l0]; rw [if_pos (by omega), if_pos (by omega), if_pos (by omega), eqIntS_eq _ (by omega) k (by omega)]; simp only [Option.bind_some]; rw [if_pos trivial, show wrap64 ((i : Int) + 1) = ((i + 1 : Nat) : Int) by unfold wrap64; omega]; exact h k (by omega)
theorem eqIntSS_ev (l : List (List Int)) (hlen : l.length ≤ 1048576) (hs : ∀ i : Nat, i < l.length → (rd_L1 l i).length ≤ 1048576) : Ev (fun k => laws_eqIntSS.f k l l) true := by
 obtain ⟨K, h⟩ := eqIntSS_loop l hlen hs l.length 0 (by omega) (by omega); dsimp only at h; refine ⟨K, fun k hk => ?_⟩; dsimp only; unfold laws_eqIntSS.f; rw [if_pos rfl]; exact h k hk
end Go.Proofs.Ytkocahlifffgjaa.P
namespace Go.Proofs.Ytkocahlifffgjaa.P
open Go.RowKit Go.Proofs.YtkocahlifffgjaaW.PrintWords Go.Proofs.YtkocahlifffgjaaW.PrintLast Go.Proofs.YtkocahlifffgjaaW.PrintMore
attribute [local go_sem] max2_int min2_int max_two min_two max_three min_three max_four min_four
set_option linter.unusedVariables false
set_option linter.unusedSimpArgs false
def laws_toIntS.l0 : Nat → List Int → List Int → Int → Option (List Int)
 | 0, _, _, _ => none
 | k + 1, x0, x3, x4 => if x4 < (x0.length : Int) then (if 0 ≤ x4 then (if x4 < (x3.length : Int) then (laws_toIntS.l0 k x0 (x3.set (x4 : Int).toNat (rd x0 x4)) (wrap64 (x4 + 1))) else (none)) else (none)) else (some x3)
def laws_toIntS.f (k : Nat) (l0 : List Int) : Option (List Int) := if 0 ≤ (l0.length : Int) then (if ((l0.length : Int) : Int).toNat ≤ 35184372088832 then (laws_toIntS.l0 k l0 (List.replicate ((l0.length : Int) : Int).toNat 0) 0) else (none)) else (none)
set_option maxHeartbeats 8000000 in
set_option maxRecDepth 100000 in
theorem laws_toIntS.calls (k : Nat) (A0 : Option Addr) (c0 : Nat) (l0 : List Int) (r : List Int) (w : World) (hr0 : Kd.C (Kd.int .i64) w A0 l0.length l0) (hc0 : l0.length ≤ c0) (h : laws_toIntS.f k l0 = some r) :
 Calls Try.prog 29 #[.slice A0 l0.length c0] w fun e w' => ∃ v0_ : Value, e = .returned (v0_) ∧ Kd.R (Kd.int .i64) 3 w' w.heap.size (fun _ => True) v0_ r ∧ Below w.heap.size w w' := by
 have HR0 := Aside0.mk hr0; have HC0 := Aside0.mk hc0; clear hr0 hc0; have HB := Aside0.mk (Below.refl w.heap.size w); have H : (if 0 ≤ (l0.length : Int) then (if ((l0.length : Int) : Int).toNat ≤ 35184372088832 then (laws_toIntS.l0 k l0 (List.replicate ((l0.length : Int) : Int).toNat 0) 0) else (none)) else (none)) = some r := h; clear h; by_cases c2 : 0 ≤ (l0.length : Int)
 · rw [if_pos c2] at H; have c2b0 := eq_true c2; have c2b1 : decide (0 ≤ (l0.length : Int)) = true := decide_eq_true c2; clear c2; by_cases c3 : ((l0.length : Int) : Int).toNat ≤ 35184372088832
   · rw [if_pos c3] at H; have c3b0 := eq_true c3; have c3b1 : decide (((l0.length : Int) : Int).toNat ≤ 35184372088832) = true := decide_eq_true c3; clear c3; obtain ⟨y101, hy101⟩ : ∃ y_ : List Int, y_ = (List.replicate ((l0.length : Int) : Int).toNat 0) := ⟨_, rfl⟩
     replace H : (laws_toIntS.l0 k l0 y101 0) = some r := by first | (rw [hy101]; with_reducible exact H) | (have H2_ := (Option.bind_some _ _).symm.trans H; rw [hy101]; with_reducible exact H2_) | (have H2_ := (Option.bind_some _ _).symm.trans H; with_reducible exact H2_) | with_reducible exact H | (rw [hy101]; exact H) | exact H
     have Ny101 := Aside0.mk hy101; clear hy101; have H' := Aside0.mk H; clear H; go_enter Try.func29, Try.ntmps29; go_wp2_with (first | ((with_reducible refine gate_dst (N := 7) rfl ?_); refine Kd.R_make (Kd.int .i64) _ 3 rfl (N := 7) rfl 23 _ _ rfl (l0.length : Int) rfl rfl Try.underlying23 (.int .i64 0) 8 info3 rfl (by decide) (by omega) 0 (ok := fun _ => True) (okp := fun _ => True) rfl (fun _ hk => hk) trivial (of_decide_eq_true (by assumption)) (Nat.le_trans (Nat.mul_le_mul_right _ (of_decide_eq_true (by assumption) : (l0.length : Int).toNat ≤ 35184372088832)) (by omega)) (Below.refl _ _) (Nat.le_refl _) ?_; intro v102 w4 ho5 hb hg_ hnew_; clear hg_ hnew_; (first | rw [← Ny101.out] at ho5 | (simp only [Int.reduceToNat] at ho5; rw [← Ny101.out] at ho5)); have n0_ := Aside0.mk (Kd.R_lower ho5 (below_size (by repeat (first | (with_reducible first | exact HB.out | apply below_alloc | apply pw_below_drewN | apply below_drew1) | exact HB.out)))); have n1_ := Aside0.mk (below_step (by repeat (first | (with_reducible first | exact HB.out | apply below_alloc | apply pw_below_drewN | apply below_drew1) | exact HB.out)) hb); clear HB; have HO103 := n0_; have HB := n1_; clear n0_ n1_; clear hb ho5)); go_loopg [4] k (fun kq v4 w' => ∃ (x3_1 : List Int) (x4_1 : Int), v4 = .int .i64 x4_1 ∧ Aside0 (laws_toIntS.l0 kq l0 x3_1 x4_1 = some r) ∧ Aside0 (kq ≤ k) ∧ Aside0 (Kd.R (Kd.int .i64) 3 w' w.heap.size (fun _ => True) v102 x3_1) ∧ Aside0 (Below w.heap.size w w'))
     case atStart => exact ⟨(y101), (0), (by first | rfl | (simp; done) | (simp [*]; done)), H', ⟨Nat.le_refl _⟩, ⟨by (with_reducible repeat (first | apply Kd.R_alloc | apply Kd.R_drewN | apply Kd.R_drew)); exact HO103.out⟩, ⟨by repeat (first | (with_reducible first | exact HB.out | apply below_alloc | apply pw_below_drewN | apply below_drew1) | exact HB.out)⟩⟩
     case round =>
      clear H'; (try clear c2); (try clear c2b0); (try clear c2b1); (try clear p2); (try clear c3); (try clear c3b0); (try clear c3b1); obtain ⟨x3_1, x4_1, rfl, HA, HK1, HO_3, HB⟩ := hrel; cases gk with
      | zero => exact absurd HA.out (by simp [laws_toIntS.l0])
      | succ k1 =>
       have H := HA.out; clear HA; simp only [laws_toIntS.l0] at H; by_cases c6 : x4_1 < (l0.length : Int)
       · rw [if_pos c6] at H; have c6b0 : decide (x4_1 < (l0.length : Int)) = true := decide_eq_true c6; clear c6; by_cases c7 : 0 ≤ x4_1
         · rw [if_pos c7] at H; have c7b0 : decide (0 ≤ x4_1) = true := decide_eq_true c7; clear c7; by_cases c8 : x4_1 < (x3_1.length : Int)
           · rw [if_pos c8] at H; have c8b0 : decide (x4_1 < (x3_1.length : Int)) = true := decide_eq_true c8; clear c8; obtain ⟨y105, hy105⟩ : ∃ y_ : List Int, y_ = (x3_1.set (x4_1 : Int).toNat (rd l0 x4_1)) := ⟨_, rfl⟩
             replace H : (laws_toIntS.l0 k1 l0 y105 (wrap64 (x4_1 + 1))) = some r := by first | (rw [hy105]; with_reducible exact H) | (have H2_ := (Option.bind_some _ _).symm.trans H; rw [hy105]; with_reducible exact H2_) | (have H2_ := (Option.bind_some _ _).symm.trans H; with_reducible exact H2_) | with_reducible exact H | (rw [hy105]; exact H) | exact H
             have Ny105 := Aside0.mk hy105; clear hy105; have H' := Aside0.mk H; clear H; have p104 : 0 ≤ (x4_1 : Int) := of_decide_eq_true (by assumption); have q104 : x4_1 < (l0.length : Int) := of_decide_eq_true (by assumption); obtain ⟨ad104, e104, hx104_0⟩ := Kd.at_int HR0.out x4_1 p104 q104; cases e104; replace hx104_0 := (HB.out.cell (World.block_lt_of_cell? w _ hx104_0)).trans hx104_0; replace p104 := eq_true p104; replace q104 := eq_true q104; have p9 : 0 ≤ (x4_1 : Int) := of_decide_eq_true (by assumption); have q9 : (x4_1 : Int) < ((x3_1.length : Int) : Int) := of_decide_eq_true (by assumption); obtain ⟨go9, co9, eo9, gb9, gl9, cl9, HG9⟩ := Kd.R_form HO_3.out (by omega); (first | cases eo9 | (injection eo9 with ea_ en_ ec_; (first | subst ea_ | (injection ea_ with ea_; subst ea_)); subst ec_; clear en_)); have GB9 := Aside0.mk gb9; have GG9 := Aside0.mk HG9; clear gb9 gl9 HG9; obtain ⟨hx9_0, hf9_0⟩ := Kd.R_celln 0 HO_3.out (x4_1 : Int) p9 q9; replace p9 := eq_true p9; replace q9 := eq_true q9; have HP10 := Kd.R_putg HO_3.out (x4_1 : Int) (rd l0 x4_1); go_wp2_with (first | ((with_reducible refine gate_store (t := 3) (p := 20) rfl ?_); refine store_event (t := 3) (p := 20) (v := ?vo_w11) (w1 := (wr.setCell ⟨go9, (x4_1 : Int).toNat, none⟩ (.int .i64 (rd l0 x4_1)))) ?hg ?ho ?hn ?hr ?_; (case ho => rfl); (case hg => rfl); (case hn => rfl); (case hr => first | (go_simp; done) | (go_simp; rfl)); intro w11 hw; have hg : wr.grownBy w11 (some go9) := (by rw [hw]; exact HP10.2); have hp_ : Kd.R (Kd.int .i64) 3 w11 w.heap.size (fun _ => True) (.slice (some ⟨go9, 0, none⟩) x3_1.length co9) y105 := (by rw [hw, Ny105.out]; exact HP10.1); clear HP10; have n0_ := Aside0.mk (hp_); have n1_ := Aside0.mk ((by rw [hw]; exact below_set (HB.out) GB9.out : Below w.heap.size w w11)); clear HO_3; clear HB; have HO_3 := n0_; have HB := n1_; clear n0_ n1_; clear hg hw hp_))
             go_roundg k1
             case measure => have := HK1.out; omega
             case rel => exact ⟨(y105), (wrap64 (x4_1 + 1)), (by first | rfl | (simp; done) | (simp [*]; done)), H', ⟨by have := HK1.out; omega⟩, ⟨by (with_reducible repeat (first | apply Kd.R_alloc | apply Kd.R_drewN | apply Kd.R_drew)); exact HO_3.out⟩, ⟨by repeat (first | (with_reducible first | exact HB.out | apply below_alloc | apply pw_below_drewN | apply below_drew1) | exact HB.out)⟩⟩
           · rw [if_neg c8] at H; exact absurd H (by simp)
         · rw [if_neg c7] at H; exact absurd H (by simp)
       · rw [if_neg c6] at H; have c6b0 : decide (x4_1 < (l0.length : Int)) = false := decide_eq_false c6; clear c6; obtain rfl := Option.some.inj H; go_wp2; go_ret; exact ⟨_, by first | rfl | (simp [errW_none, errW_some] <;> rfl) | (simp [*, errW_none, errW_some] <;> rfl), by (with_reducible repeat (first | apply Kd.R_alloc | apply Kd.R_drewN | apply Kd.R_drew)); exact HO_3.out, by repeat (first | (with_reducible first | exact HB.out | apply below_alloc | apply pw_below_drewN | apply below_drew1) | exact HB.out)⟩
   · rw [if_neg c3] at H; exact absurd H (by simp)
 · rw [if_neg c2] at H; exact absurd H (by simp)
end Go.Proofs.Ytkocahlifffgjaa.P
namespace Go.Proofs.Ytkocahlifffgjaa.P
open Go.RowKit Go.Proofs.YtkocahlifffgjaaW.PrintWords
set_option linter.unusedVariables false
set_option linter.unusedSimpArgs false
theorem toIntS_loop (l : List Int) (hl : l.length ≤ 35184372088832) (d : Nat) : ∀ (k i : Nat), i ≤ l.length → l.length - i = d → d < k →
 laws_toIntS.l0 k l (l.take i ++ List.replicate d 0) i = some l := by
 induction d with
 | zero =>
  intro k i h1 hd hk; obtain ⟨k, rfl⟩ : ∃ m, k = m + 1 := ⟨k - 1, by omega⟩
  simp only [laws_toIntS.l0]; rw [if_neg (by omega)]; rw [List.take_of_length_le (by omega)]; simp
 | succ d ih =>
  intro k i h1 hd hk; obtain ⟨k, rfl⟩ : ∃ m, k = m + 1 := ⟨k - 1, by omega⟩
  simp only [laws_toIntS.l0]; rw [if_pos (by omega), if_pos (by omega), if_pos (by simp; omega)]; have e1 : wrap64 ((i : Int) + 1) = ((i + 1 : Nat) : Int) := by unfold wrap64; omega
  have e2 : (l.take i ++ List.replicate (d + 1) 0).set (i : Int).toNat (rd l i) = l.take (i + 1) ++ List.replicate d 0 := by
   rw [rep_succ, Int.toNat_natCast, set_mid _ _ _ _ _ (by rw [List.length_take]; omega), take_getD l i 0 (by omega)]; simp [rd]
  rw [e1, e2]; exact ih k (i + 1) (by omega) (by omega) (by omega)
theorem toIntS_eq (l : List Int) (hl : l.length ≤ 35184372088832) (k : Nat) (hk : l.length < k) : laws_toIntS.f k l = some l := by
 unfold laws_toIntS.f; rw [if_pos (by omega), if_pos (by omega), Int.toNat_natCast]; have := toIntS_loop l hl l.length k 0 (by omega) (by omega) hk; simpa using this
theorem toIntS_ev (l : List Int) (hl : l.length ≤ 1048576) : Ev (fun k => laws_toIntS.f k l) l := ⟨l.length + 1, fun k hk => toIntS_eq l (by omega) k (by omega)⟩
end Go.Proofs.Ytkocahlifffgjaa.P
namespace Go.Proofs.Ytkocahlifffgjaa.P
open Go.RowKit Go.Proofs.YtkocahlifffgjaaW.PrintWords
set_option linter.unusedVariables false
set_option linter.unusedSimpArgs false
theorem szIntS_eq (l : List Int) (a : Int) (ha : a ≤ 1048576) (h0 : 0 ≤ a) (hl : l.length ≤ 9223372036854775807) : laws_szIntS.f l a = some (if a - l.length < 0 then -1 else a - l.length) := by
 unfold laws_szIntS.f; rw [w64 (by omega) (by omega)]; by_cases h : a - (l.length : Int) < 0
 · rw [if_pos h, if_pos h]
 · rw [if_neg h, if_neg h]
end Go.Proofs.Ytkocahlifffgjaa.P
namespace Go.Proofs.Ytkocahlifffgjaa.P
open Go.RowKit Go.Proofs.YtkocahlifffgjaaW.PrintWords Go.Proofs.YtkocahlifffgjaaW.PrintLast Go.Proofs.YtkocahlifffgjaaW.PrintMore
attribute [local go_sem] max2_int min2_int max_two min_two max_three min_three max_four min_four
set_option linter.unusedVariables false
set_option linter.unusedSimpArgs false
def laws_toIntSS.l0 : Nat → List (List Int) → List (List Int) → Int → Option ((List (List Int)))
 | 0, _, _, _ => none
 | k + 1, x0, x3, x4 => if x4 < (x0.length : Int) then (if 0 ≤ x4 then ((laws_toIntS.f k (rd_L1 x0 x4)).bind fun t105 => (if x4 < (x3.length : Int) then (laws_toIntSS.l0 k x0 (x3.set (x4 : Int).toNat t105) (wrap64 (x4 + 1))) else (none))) else (none)) else (some x3)
def laws_toIntSS.f (k : Nat) (l0 : List (List Int)) : Option ((List (List Int))) := if 0 ≤ (l0.length : Int) then (if ((l0.length : Int) : Int).toNat ≤ 11728124029610 then (laws_toIntSS.l0 k l0 (List.replicate ((l0.length : Int) : Int).toNat []) 0) else (none)) else (none)
set_option maxHeartbeats 8000000 in
set_option maxRecDepth 100000 in
theorem laws_toIntSS.calls (k : Nat) (A0 : Option Addr) (c0 : Nat) (l0 : List (List Int)) (r : List (List Int)) (w : World) (hr0 : Kd.C (Kd.slice 3 (Kd.int .i64)) w A0 l0.length l0) (hc0 : l0.length ≤ c0) (h : laws_toIntSS.f k l0 = some r) :
 Calls Try.prog 52 #[.slice A0 l0.length c0] w fun e w' => ∃ v0_ : Value, e = .returned (v0_) ∧ Kd.S (Kd.slice 3 (Kd.int .i64)) 23 w' w.heap.size (fun _ => True) v0_ r ∧ Below w.heap.size w w' := by
 have HR0 := Aside0.mk hr0; have HC0 := Aside0.mk hc0; clear hr0 hc0; have HB := Aside0.mk (Below.refl w.heap.size w); have H : (if 0 ≤ (l0.length : Int) then (if ((l0.length : Int) : Int).toNat ≤ 11728124029610 then (laws_toIntSS.l0 k l0 (List.replicate ((l0.length : Int) : Int).toNat []) 0) else (none)) else (none)) = some r := h; clear h; by_cases c2 : 0 ≤ (l0.length : Int)
 · rw [if_pos c2] at H; have c2b0 := eq_true c2; have c2b1 : decide (0 ≤ (l0.length : Int)) = true := decide_eq_true c2; clear c2; by_cases c3 : ((l0.length : Int) : Int).toNat ≤ 11728124029610
   · rw [if_pos c3] at H; have c3b0 := eq_true c3; have c3b1 : decide (((l0.length : Int) : Int).toNat ≤ 11728124029610) = true := decide_eq_true c3; clear c3; obtain ⟨y101, hy101⟩ : ∃ y_ : List (List Int), y_ = (List.replicate ((l0.length : Int) : Int).toNat []) := ⟨_, rfl⟩
     replace H : (laws_toIntSS.l0 k l0 y101 0) = some r := by first | (rw [hy101]; with_reducible exact H) | (have H2_ := (Option.bind_some _ _).symm.trans H; rw [hy101]; with_reducible exact H2_) | (have H2_ := (Option.bind_some _ _).symm.trans H; with_reducible exact H2_) | with_reducible exact H | (rw [hy101]; exact H) | exact H
     have Ny101 := Aside0.mk hy101; clear hy101; have H' := Aside0.mk H; clear H; go_enter Try.func52, Try.ntmps52; go_wp2_with (first | ((with_reducible refine gate_dst (N := 7) rfl ?_); refine Kd.S_make (Kd.slice 3 (Kd.int .i64)) _ 23 rfl (N := 7) rfl 22 _ _ rfl (l0.length : Int) rfl rfl Try.underlying22 (.slice none 0 0) 24 info23 rfl (by decide) (by omega) [] (ok := fun _ => True) (okp := fun _ => True) ⟨_, rfl, Kd.R_nil _ _ _ _ _⟩ (fun _ hk => hk) trivial (of_decide_eq_true (by assumption)) (Nat.le_trans (Nat.mul_le_mul_right _ (of_decide_eq_true (by assumption) : (l0.length : Int).toNat ≤ 11728124029610)) (by omega)) (Below.refl _ _) (Nat.le_refl _) ?_; intro v102 w4 ho5 hb hg_ hnew_; clear hg_ hnew_; (first | rw [← Ny101.out] at ho5 | (simp only [Int.reduceToNat] at ho5; rw [← Ny101.out] at ho5)); have n0_ := Aside0.mk (Kd.S_lower ho5 (below_size (by repeat (first | (with_reducible first | exact HB.out | apply below_alloc | apply pw_below_drewN | apply below_drew1) | exact HB.out)))); have n1_ := Aside0.mk (below_step (by repeat (first | (with_reducible first | exact HB.out | apply below_alloc | apply pw_below_drewN | apply below_drew1) | exact HB.out)) hb); clear HB; have HO103 := n0_; have HB := n1_; clear n0_ n1_; clear hb ho5)); go_loopg [4] k (fun kq v4 w' => ∃ (x3_1 : List (List Int)) (x4_1 : Int), v4 = .int .i64 x4_1 ∧ Aside0 (laws_toIntSS.l0 kq l0 x3_1 x4_1 = some r) ∧ Aside0 (kq ≤ k) ∧ Aside0 (Kd.S (Kd.slice 3 (Kd.int .i64)) 23 w' w.heap.size (fun _ => True) v102 x3_1) ∧ Aside0 (Below w.heap.size w w'))
     case atStart => exact ⟨(y101), (0), (by first | rfl | (simp; done) | (simp [*]; done)), H', ⟨Nat.le_refl _⟩, ⟨by (with_reducible repeat (first | apply Kd.S_alloc | apply Kd.S_drewN | apply Kd.S_drew)); exact HO103.out⟩, ⟨by repeat (first | (with_reducible first | exact HB.out | apply below_alloc | apply pw_below_drewN | apply below_drew1) | exact HB.out)⟩⟩
     case round =>
      clear H'; (try clear c2); (try clear c2b0); (try clear c2b1); (try clear p2); (try clear c3); (try clear c3b0); (try clear c3b1); (try clear c5); obtain ⟨x3_1, x4_1, rfl, HA, HK1, HO_3, HB⟩ := hrel; cases gk with
      | zero => exact absurd HA.out (by simp [laws_toIntSS.l0])
      | succ k1 =>
       have H := HA.out; clear HA; simp only [laws_toIntSS.l0] at H; by_cases c6 : x4_1 < (l0.length : Int)
       · rw [if_pos c6] at H; have c6b0 : decide (x4_1 < (l0.length : Int)) = true := decide_eq_true c6; clear c6; by_cases c7 : 0 ≤ x4_1
         · rw [if_pos c7] at H; have c7b0 : decide (0 ≤ x4_1) = true := decide_eq_true c7; clear c7; replace H := Option.bind_eq_some_iff.mp H; obtain ⟨t105, A80, H⟩ := H; replace H : (if x4_1 < (x3_1.length : Int) then (laws_toIntSS.l0 k1 l0 (x3_1.set (x4_1 : Int).toNat t105) (wrap64 (x4_1 + 1))) else (none)) = some r := H; have A8 := Aside0.mk A80; clear A80; by_cases c9 : x4_1 < (x3_1.length : Int)
           · rw [if_pos c9] at H; have c9b0 : decide (x4_1 < (x3_1.length : Int)) = true := decide_eq_true c9; clear c9; obtain ⟨y108, hy108⟩ : ∃ y_ : List (List Int), y_ = (x3_1.set (x4_1 : Int).toNat t105) := ⟨_, rfl⟩
             replace H : (laws_toIntSS.l0 k1 l0 y108 (wrap64 (x4_1 + 1))) = some r := by first | (rw [hy108]; with_reducible exact H) | (have H2_ := (Option.bind_some _ _).symm.trans H; rw [hy108]; with_reducible exact H2_) | (have H2_ := (Option.bind_some _ _).symm.trans H; with_reducible exact H2_) | with_reducible exact H | (rw [hy108]; exact H) | exact H
             have Ny108 := Aside0.mk hy108; clear hy108; have H' := Aside0.mk H; clear H; have p104 : 0 ≤ (x4_1 : Int) := of_decide_eq_true (by assumption); have q104 : x4_1 < (l0.length : Int) := of_decide_eq_true (by assumption); obtain ⟨ad104, A104_0, c104_0, e104, hx104_0, hl104_0, hi104_0⟩ := at_L1 HR0.out x4_1 p104 q104; cases e104; replace hx104_0 := (HB.out.cell (World.block_lt_of_cell? w _ hx104_0)).trans hx104_0; have HR104_0 := Aside0.mk hi104_0; have HC104_0 := Aside0.mk hl104_0; clear hi104_0 hl104_0; replace p104 := eq_true p104; replace q104 := eq_true q104; go_wp2_with (first | ((with_reducible refine gate_callee (f := 29) rfl ?_); refine goesL_ (some 20) rfl rfl Try.func29 (by kernel_rfl) rfl #[.slice A104_0 (rd_L1 l0 x4_1).length c104_0] rfl (by (try simp only [List.map_toArray, List.map_cons, List.map_nil]); first | done | rfl | (simp only [List.length_drop, List.length_take]; rfl)) ?_; (with_reducible refine (laws_toIntS.calls k1 _ _ (rd_L1 l0 x4_1) t105 _ ?side1 ?side2 A8.out).mono ?_); (case side1 => repeat (first | exact (Kd.C_below HR104_0.out HB.out) | refine Kd.C_alloc ?_ _ | refine Kd.C_drewN ?_ _ | refine Kd.C_drew ?_)); (case side2 => exact HC104_0.out); rintro e w11 ⟨v106, rfl, ho0, hb⟩; refine ⟨_, rfl, ?_⟩; have n0_ := Aside0.mk (Kd.S_elder' (by (with_reducible repeat (first | apply Kd.S_alloc | apply Kd.S_drewN | apply Kd.S_drew)); exact HO_3.out) (Kd.R_base ho0) hb); have n1_ := Aside0.mk (Kd.R_lower ho0 (below_size (by repeat (first | (with_reducible first | exact HB.out | apply below_alloc | apply pw_below_drewN | apply below_drew1) | exact HB.out)))); have n2_ := Aside0.mk (below_step (by repeat (first | (with_reducible first | exact HB.out | apply below_alloc | apply pw_below_drewN | apply below_drew1) | exact HB.out)) hb); clear HO_3; clear HB; have HO_3 := n0_; have HO107 := n1_; have HB := n2_; clear n0_ n1_ n2_; (try clear hb); (try clear hb2); (try clear hk); (try clear hi); (try clear ho0); obtain ⟨Ao106, co106, eo106⟩ := Kd.R_slice HO107.out; subst eo106; have p10 : 0 ≤ (x4_1 : Int) := of_decide_eq_true (by assumption); have q10 : (x4_1 : Int) < ((x3_1.length : Int) : Int) := of_decide_eq_true (by assumption); obtain ⟨go10, co10, eo10, gb10, gl10, cl10, HG10⟩ := Kd.S_form HO_3.out (by omega); (first | cases eo10 | (injection eo10 with ea_ en_ ec_; (first | subst ea_ | (injection ea_ with ea_; subst ea_)); subst ec_; clear en_)); have GB10 := Aside0.mk gb10; have GG10 := Aside0.mk HG10; clear gb10 gl10 HG10; obtain ⟨_, ce10, hcl10, hM10, hcc10, hfr10, _, _⟩ := Kd.S_elem HO_3.out [] (x4_1 : Int) p10 q10; obtain ⟨ve10_0, rfl, ge10_0⟩ := hM10; have hx10_0 := hcc10 0 _ rfl; have hf10_0 := hfr10 0; (try simp only [show ((Kd.slice 3 (Kd.int .i64))).sz = 1 from rfl, Nat.mul_one, Nat.add_zero] at hx10_0); (try simp only [show ((Kd.slice 3 (Kd.int .i64))).sz = 1 from rfl, Nat.mul_one, Nat.add_zero] at hf10_0); clear hcl10 hcc10 hfr10; (try clear hM10); replace p10 := eq_true p10; replace q10 := eq_true q10; have n_ := Aside0.mk (Kd.S_mono (ok' := (fun k_ => some k_ ≠ ((.slice Ao106 t105.length co106) : Value).ownBlock)) HO_3.out (fun k_ hk => hk.2)); clear HO_3; have HO_3 := n_; clear n_; have HX12 := Aside0.mk (show Kd.S (Kd.slice 3 (Kd.int .i64)) 23 w11 w.heap.size (fun k_ => ((fun _ => True)) k_ ∧ ¬ ((fun k_ => some k_ = ((.slice Ao106 t105.length co106) : Value).ownBlock)) k_) (.slice (some ⟨go10, 0, none⟩) x3_1.length co10) x3_1 from (by (with_reducible repeat (first | apply Kd.S_alloc | apply Kd.S_drewN | apply Kd.S_drew)); exact Kd.S_mono HO_3.out (fun k_ hk => ⟨trivial, fun e_ => hk e_⟩))); obtain ⟨oki12, ce12, hcl12, hM12, hcc12, hfr12, hoki12, hH12⟩ := Kd.S_elem HX12.out [] (x4_1 : Int) (of_decide_eq_true (by assumption)) (by have h_ : (x4_1 : Int) < ((x3_1.length : Int) : Int) := of_decide_eq_true (by assumption); first | exact h_ | (have e_ := (Kd.S_reads' HO_3.out).1; omega) | simpa using h_); obtain ⟨ve12_0, rfl, ge12_0⟩ := hM12; have HP12 := Kd.S_seg hH12 (of_decide_eq_true (by assumption)) (by have h_ : (x4_1 : Int) < ((x3_1.length : Int) : Int) := of_decide_eq_true (by assumption); first | exact h_ | (have e_ := (Kd.S_reads' HO_3.out).1; omega) | simpa using h_) (seg := [(.slice Ao106 t105.length co106)]) (j := 0) (show 1 ≤ 1 from by decide) (x' := t105) (Kd.M_row (Kd.R_mono (Kd.R_tight rfl (Kd.R_mono (ok' := fun k_ => ((fun _ => True)) k_ ∧ k_ ≠ go10) (Kd.R_apart' (HO107.out) (Kd.S_typed HO_3.out) (by decide)) (fun k_ hk => ⟨trivial, fun e_ => (hk.2) (by rw [e_]; rfl)⟩))) (fun _ h_ => Or.inr (h_)))) (fun _ hk => hk) (fun k_ hk_ => ((Kd.R_mono (ok' := fun k_ => ((fun _ => True)) k_ ∧ k_ ≠ go10) (Kd.R_apart' (HO107.out) (Kd.S_typed HO_3.out) (by decide)) (fun k_ hk => ⟨trivial, fun e_ => (hk.2) (by rw [e_]; rfl)⟩))).1 k_ hk_.symm); have hx12_0 := hcc12 0 _ rfl; (try simp only [show ((Kd.slice 3 (Kd.int .i64))).sz = 1 from rfl, Nat.mul_one, Nat.add_zero] at hx12_0); have hf12_0 := hfr12 0; (try simp only [show ((Kd.slice 3 (Kd.int .i64))).sz = 1 from rfl, Nat.mul_one, Nat.add_zero] at hf12_0); clear hcl12 hcc12 hfr12 hoki12 hH12; (try clear hM12); (try simp only [show ((Kd.slice 3 (Kd.int .i64))).sz = 1 from rfl, Nat.mul_one, Nat.add_zero] at HP12)) | ((with_reducible refine gate_store (t := 23) (p := 21) rfl ?_); refine store_event (t := 23) (p := 21) (v := ?vo_w13) (w1 := (w11.setCell ⟨go10, (x4_1 : Int).toNat, none⟩ ((.slice Ao106 t105.length co106)))) ?hg ?ho ?hn ?hr ?_; (case ho => rfl); (case hg => rfl); (case hn => rfl); (case hr => first | (go_simp; done) | (go_simp; rfl)); intro w13 hw; have hg : w11.grownBy w13 (some go10) := (by rw [hw]; exact HP12.2); have hp_ : Kd.S (Kd.slice 3 (Kd.int .i64)) 23 w13 w.heap.size (fun _ => True) (.slice (some ⟨go10, 0, none⟩) x3_1.length co10) y108 := (by rw [hw, Ny108.out]; exact HP12.1); clear HP12; have n0_ := Aside0.mk (hp_); have n1_ := Aside0.mk ((by rw [hw]; exact below_set (HB.out) GB10.out : Below w.heap.size w w13)); clear HO_3; clear HB; clear HO107; have HO_3 := n0_; have HB := n1_; clear n0_ n1_; clear hg hw hp_))
             go_roundg k1
             case measure => have := HK1.out; omega
             case rel => exact ⟨(y108), (wrap64 (x4_1 + 1)), (by first | rfl | (simp; done) | (simp [*]; done)), H', ⟨by have := HK1.out; omega⟩, ⟨by (with_reducible repeat (first | apply Kd.S_alloc | apply Kd.S_drewN | apply Kd.S_drew)); exact HO_3.out⟩, ⟨by repeat (first | (with_reducible first | exact HB.out | apply below_alloc | apply pw_below_drewN | apply below_drew1) | exact HB.out)⟩⟩
           · rw [if_neg c9] at H; exact absurd H (by simp)
         · rw [if_neg c7] at H; exact absurd H (by simp)
       · rw [if_neg c6] at H; have c6b0 : decide (x4_1 < (l0.length : Int)) = false := decide_eq_false c6; clear c6; obtain rfl := Option.some.inj H; go_wp2; go_ret; exact ⟨_, by first | rfl | (simp [errW_none, errW_some] <;> rfl) | (simp [*, errW_none, errW_some] <;> rfl), by (with_reducible repeat (first | apply Kd.S_alloc | apply Kd.S_drewN | apply Kd.S_drew)); exact HO_3.out, by repeat (first | (with_reducible first | exact HB.out | apply below_alloc | apply pw_below_drewN | apply below_drew1) | exact HB.out)⟩
   · rw [if_neg c3] at H; exact absurd H (by simp)
 · rw [if_neg c2] at H; exact absurd H (by simp)
end Go.Proofs.Ytkocahlifffgjaa.P
