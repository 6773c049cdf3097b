/- A part of the proofs of some laws of this seat (words of the print and texts of this session, without what these laws do not use). -/
import Derived.Test.YtpcbjhfgfmmneaaTFnExactBinaryOfp0
import Derived.Test.YtpcbjhfgfmmneaaTFnExactBinaryOfp1
import Derived.Test.YtpcbjhfgfmmneaaProg
import Derived.Shelf.SlLaysE
import Derived.Shelf.SlLaysF
import Derived.Shelf.SlLaysM
import Derived.Shelf.SortM.Plain
import Derived.Shelf.SortM.SortNone
import Derived.Sort.OwnSortedInts
import Derived.Shelf.SlicesE.Compact
namespace Go.Proofs.Ytpcbjhfgfmmneaa.P
open Go.RowKit Go.Proofs.YtpcbjhfgfmmneaaW.PrintWords Go.Proofs.YtpcbjhfgfmmneaaW.PrintLast Go.Proofs.YtpcbjhfgfmmneaaW.PrintMore
attribute [local go_sem] max2_int min2_int max_two min_two max_three min_three max_four min_four
set_option linter.unusedVariables false
set_option linter.unusedSimpArgs false
def laws_eqIntSS.l0 : Nat → List (List Int) → List (List Int) → Int → Option (Bool)
 | 0, _, _, _ => none
 | k + 1, x0, x1, x5 => if x5 < (x0.length : Int) then (if 0 ≤ x5 then (if x5 < (x1.length : Int) then ((laws_eqIntS.f k (rd_L1 x0 x5) (rd_L1 x1 x5)).bind fun t103 => (if t103 = true then (laws_eqIntSS.l0 k x0 x1 (wrap64 (x5 + 1))) else (some false))) else (none)) else (none)) else (some true)
def laws_eqIntSS.f (k : Nat) (l0 : List (List Int)) (l1 : List (List Int)) : Option (Bool) := if (l0.length : Int) = (l1.length : Int) then (laws_eqIntSS.l0 k l0 l1 0) else (some false)
set_option maxHeartbeats 8000000 in
set_option maxRecDepth 100000 in
theorem laws_eqIntSS.calls (k : Nat) (A0 : Option Addr) (c0 : Nat) (l0 : List (List Int)) (A1 : Option Addr) (c1 : Nat) (l1 : List (List Int)) (r : Bool) (w : World) (hr0 : Kd.C (Kd.slice 3 (Kd.int .i64)) w A0 l0.length l0) (hc0 : l0.length ≤ c0) (hr1 : Kd.C (Kd.slice 3 (Kd.int .i64)) w A1 l1.length l1) (hc1 : l1.length ≤ c1) (h : laws_eqIntSS.f k l0 l1 = some r) :
 Calls Try.prog 40 #[.slice A0 l0.length c0, .slice A1 l1.length c1] w fun e w' => e = .returned (.bool r) ∧ Drawn0 w w' := by
 have HR0 := zA hr0; have HC0 := zA hc0; clear hr0 hc0; have HR1 := zA hr1; have HC1 := zA hc1; clear hr1 hc1; have H : (if (l0.length : Int) = (l1.length : Int) then (laws_eqIntSS.l0 k l0 l1 0) else (some false)) = some r := h; clear h; by_cases c3 : (l0.length : Int) = (l1.length : Int)
 · rw [if_pos c3] at H; have c3b0 : ((l0.length : Int) == (l1.length : Int)) = true := beq_iff_eq.mpr c3; have c3b1 : ((l0.length : Int) != (l1.length : Int)) = false := bne_eq_false_iff_eq.mpr c3; have c3b2 : (l0.length == l1.length) = true := by first | simpa using c3 | (simp at c3 ⊢; omega)
   clear c3; have H' := zA H; clear H; go_enter Try.func40, Try.ntmps40; go_wp2; (repeat (go_quiet (fail); try go_wp2)); go_loopg [5] k (fun kq v5 w' => ∃ (x5_1 : Int), v5 = .int .i64 x5_1 ∧ Aside0 (laws_eqIntSS.l0 kq l0 l1 x5_1 = some r) ∧ Aside0 (kq ≤ k) ∧ Drawn0 w w')
   case atStart => exact ⟨(0), (by first | rfl | (simp; done) | (simp [*]; done)), H', ⟨Nat.le_refl _⟩, by repeat (first | exact Drawn0.refl _ | apply Drawn0.step)⟩
   case round =>
    clear H'; (try clear c1); (try clear p2); (try clear c3); (try clear c3b0); (try clear c3b1); (try clear c3b2); obtain ⟨x5_1, rfl, HA, HK1, ⟨m1, rfl⟩⟩ := hrel; cases gk with
    | zero => exact absurd HA.out (by simp [laws_eqIntSS.l0])
    | succ k1 =>
     have H := HA.out; clear HA; simp only [laws_eqIntSS.l0] at H; by_cases c4 : x5_1 < (l0.length : Int)
     · rw [if_pos c4] at H; have c4b0 : decide (x5_1 < (l0.length : Int)) = true := decide_eq_true c4; clear c4; by_cases c5 : 0 ≤ x5_1
       · rw [if_pos c5] at H; have c5b0 : decide (0 ≤ x5_1) = true := decide_eq_true c5; clear c5; by_cases c6 : x5_1 < (l1.length : Int)
         · rw [if_pos c6] at H; have c6b0 : decide (x5_1 < (l1.length : Int)) = true := decide_eq_true c6; clear c6; replace H := Option.bind_eq_some_iff.mp H; obtain ⟨t103, A70, H⟩ := H; replace H : (if t103 = true then (laws_eqIntSS.l0 k1 l0 l1 (wrap64 (x5_1 + 1))) else (some false)) = some r := H; have A7 := zA A70; clear A70; by_cases c8 : t103 = true
           · subst c8; have H1 : (laws_eqIntSS.l0 k1 l0 l1 (wrap64 (x5_1 + 1))) = some r := by rw [if_pos rfl] at H; exact H
             clear H; have H := H1; clear H1; have H' := zA H; clear H; have p101 : 0 ≤ (x5_1 : Int) := of_decide_eq_true (by assumption); have q101 : x5_1 < (l0.length : Int) := of_decide_eq_true (by assumption); obtain ⟨ad101, A101_0, c101_0, e101, hx101_0, hl101_0, hi101_0⟩ := at_L1 HR0.out x5_1 p101 q101; cases e101; have HR101_0 := zA hi101_0; have HC101_0 := zA hl101_0; clear hi101_0 hl101_0; replace p101 := eq_true p101; replace q101 := eq_true q101; have p102 : 0 ≤ (x5_1 : Int) := of_decide_eq_true (by assumption); have q102 : x5_1 < (l1.length : Int) := of_decide_eq_true (by assumption); obtain ⟨ad102, A102_0, c102_0, e102, hx102_0, hl102_0, hi102_0⟩ := at_L1 HR1.out x5_1 p102 q102; cases e102; have HR102_0 := zA hi102_0; have HC102_0 := zA hl102_0; clear hi102_0 hl102_0; replace p102 := eq_true p102; replace q102 := eq_true q102; go_wp2_with (first | (go_at_call 12; (with_reducible refine (laws_eqIntS.calls k1 _ _ (rd_L1 l0 x5_1) _ _ (rd_L1 l1 x5_1) true _ ?side1 ?side2 ?side3 ?side4 A7.out).mono ?_); (case side1 => repeat (first | exact HR101_0.out | refine zP ?_ _ | refine zQ ?_ _ | refine zR ?_)); (case side2 => exact HC101_0.out); (case side3 => repeat (first | exact HR102_0.out | refine zP ?_ _ | refine zQ ?_ _ | refine zR ?_)); (case side4 => exact HC102_0.out); rintro e w' ⟨rfl, ⟨nd, rfl⟩⟩; (try first | exact ⟨rfl, _, World.drewN_drewN _ _ _⟩ | exact ⟨rfl, _, Eq.trans (World.drewN_drewN _ _ _) (congrArg (World.drewN _) (Nat.add_assoc _ _ _))⟩))); repeat (go_quiet (first | (go_at_call 12; (with_reducible refine (laws_eqIntS.calls k1 _ _ (rd_L1 l0 x5_1) _ _ (rd_L1 l1 x5_1) true _ ?side1 ?side2 ?side3 ?side4 A7.out).mono ?_); (case side1 => repeat (first | exact HR101_0.out | refine zP ?_ _ | refine zQ ?_ _ | refine zR ?_)); (case side2 => exact HC101_0.out); (case side3 => repeat (first | exact HR102_0.out | refine zP ?_ _ | refine zQ ?_ _ | refine zR ?_)); (case side4 => exact HC102_0.out); rintro e w' ⟨rfl, ⟨nd, rfl⟩⟩; (try first | exact ⟨rfl, _, World.drewN_drewN _ _ _⟩ | exact ⟨rfl, _, Eq.trans (World.drewN_drewN _ _ _) (congrArg (World.drewN _) (Nat.add_assoc _ _ _))⟩))); try go_wp2_with (first | (go_at_call 12; (with_reducible refine (laws_eqIntS.calls k1 _ _ (rd_L1 l0 x5_1) _ _ (rd_L1 l1 x5_1) true _ ?side1 ?side2 ?side3 ?side4 A7.out).mono ?_); (case side1 => repeat (first | exact HR101_0.out | refine zP ?_ _ | refine zQ ?_ _ | refine zR ?_)); (case side2 => exact HC101_0.out); (case side3 => repeat (first | exact HR102_0.out | refine zP ?_ _ | refine zQ ?_ _ | refine zR ?_)); (case side4 => exact HC102_0.out); rintro e w' ⟨rfl, ⟨nd, rfl⟩⟩; (try first | exact ⟨rfl, _, World.drewN_drewN _ _ _⟩ | exact ⟨rfl, _, Eq.trans (World.drewN_drewN _ _ _) (congrArg (World.drewN _) (Nat.add_assoc _ _ _))⟩))))
             go_roundg k1
             case measure => have := HK1.out; omega
             case rel => exact ⟨(wrap64 (x5_1 + 1)), (by first | rfl | (simp; done) | (simp [*]; done)), H', ⟨by have := HK1.out; omega⟩, by repeat (first | exact Drawn0.refl _ | apply Drawn0.step)⟩
           · replace c8 := Bool.eq_false_iff.mpr c8; subst c8; have H1 : (some false) = some r := by rw [if_neg (show ¬ (false = true) by decide)] at H; exact H
             clear H; have H := H1; clear H1; obtain rfl := Option.some.inj H; have p101 : 0 ≤ (x5_1 : Int) := of_decide_eq_true (by assumption); have q101 : x5_1 < (l0.length : Int) := of_decide_eq_true (by assumption); obtain ⟨ad101, A101_0, c101_0, e101, hx101_0, hl101_0, hi101_0⟩ := at_L1 HR0.out x5_1 p101 q101; cases e101; have HR101_0 := zA hi101_0; have HC101_0 := zA hl101_0; clear hi101_0 hl101_0; replace p101 := eq_true p101; replace q101 := eq_true q101; have p102 : 0 ≤ (x5_1 : Int) := of_decide_eq_true (by assumption); have q102 : x5_1 < (l1.length : Int) := of_decide_eq_true (by assumption); obtain ⟨ad102, A102_0, c102_0, e102, hx102_0, hl102_0, hi102_0⟩ := at_L1 HR1.out x5_1 p102 q102; cases e102; have HR102_0 := zA hi102_0; have HC102_0 := zA hl102_0; clear hi102_0 hl102_0; replace p102 := eq_true p102; replace q102 := eq_true q102; go_wp2_with (first | (go_at_call 12; (with_reducible refine (laws_eqIntS.calls k1 _ _ (rd_L1 l0 x5_1) _ _ (rd_L1 l1 x5_1) false _ ?side1 ?side2 ?side3 ?side4 A7.out).mono ?_); (case side1 => repeat (first | exact HR101_0.out | refine zP ?_ _ | refine zQ ?_ _ | refine zR ?_)); (case side2 => exact HC101_0.out); (case side3 => repeat (first | exact HR102_0.out | refine zP ?_ _ | refine zQ ?_ _ | refine zR ?_)); (case side4 => exact HC102_0.out); rintro e w' ⟨rfl, ⟨nd, rfl⟩⟩; (try first | exact ⟨rfl, _, World.drewN_drewN _ _ _⟩ | exact ⟨rfl, _, Eq.trans (World.drewN_drewN _ _ _) (congrArg (World.drewN _) (Nat.add_assoc _ _ _))⟩))); (repeat (go_quiet (first | (go_at_call 12; (with_reducible refine (laws_eqIntS.calls k1 _ _ (rd_L1 l0 x5_1) _ _ (rd_L1 l1 x5_1) false _ ?side1 ?side2 ?side3 ?side4 A7.out).mono ?_); (case side1 => repeat (first | exact HR101_0.out | refine zP ?_ _ | refine zQ ?_ _ | refine zR ?_)); (case side2 => exact HC101_0.out); (case side3 => repeat (first | exact HR102_0.out | refine zP ?_ _ | refine zQ ?_ _ | refine zR ?_)); (case side4 => exact HC102_0.out); rintro e w' ⟨rfl, ⟨nd, rfl⟩⟩; (try first | exact ⟨rfl, _, World.drewN_drewN _ _ _⟩ | exact ⟨rfl, _, Eq.trans (World.drewN_drewN _ _ _) (congrArg (World.drewN _) (Nat.add_assoc _ _ _))⟩))); try go_wp2_with (first | (go_at_call 12; (with_reducible refine (laws_eqIntS.calls k1 _ _ (rd_L1 l0 x5_1) _ _ (rd_L1 l1 x5_1) false _ ?side1 ?side2 ?side3 ?side4 A7.out).mono ?_); (case side1 => repeat (first | exact HR101_0.out | refine zP ?_ _ | refine zQ ?_ _ | refine zR ?_)); (case side2 => exact HC101_0.out); (case side3 => repeat (first | exact HR102_0.out | refine zP ?_ _ | refine zQ ?_ _ | refine zR ?_)); (case side4 => exact HC102_0.out); rintro e w' ⟨rfl, ⟨nd, rfl⟩⟩; (try first | exact ⟨rfl, _, World.drewN_drewN _ _ _⟩ | exact ⟨rfl, _, Eq.trans (World.drewN_drewN _ _ _) (congrArg (World.drewN _) (Nat.add_assoc _ _ _))⟩))))); go_ret; exact ⟨by first | rfl | (simp; done) | (simp [*]; done), by repeat (first | exact Drawn0.refl _ | apply Drawn0.step)⟩
         · rw [if_neg c6] at H; exact absurd H (by simp)
       · rw [if_neg c5] at H; exact absurd H (by simp)
     · rw [if_neg c4] at H; have c4b0 : decide (x5_1 < (l0.length : Int)) = false := decide_eq_false c4; clear c4; obtain rfl := Option.some.inj H; go_wp2; (repeat (go_quiet (fail); try go_wp2)); go_ret; exact ⟨by first | rfl | (simp; done) | (simp [*]; done), by repeat (first | exact Drawn0.refl _ | apply Drawn0.step)⟩
 · rw [if_neg c3] at H; have c3b0 : ((l0.length : Int) == (l1.length : Int)) = false := beq_eq_false_iff_ne.mpr c3; have c3b1 : ((l0.length : Int) != (l1.length : Int)) = true := bne_iff_ne.mpr c3; have c3b2 : (l0.length == l1.length) = false := by first | simpa using c3 | (simp at c3 ⊢; omega)
   obtain rfl := Option.some.inj H; go_enter Try.func40, Try.ntmps40; go_wp2; (repeat (go_quiet (fail); try go_wp2)); go_ret; exact ⟨by first | rfl | (simp; done) | (simp [*]; done), by repeat (first | exact Drawn0.refl _ | apply Drawn0.step)⟩
end Go.Proofs.Ytpcbjhfgfmmneaa.P
namespace Go.Proofs.Ytpcbjhfgfmmneaa.P
open Go.RowKit Go.Proofs.YtpcbjhfgfmmneaaW.PrintWords
set_option linter.unusedVariables false
set_option linter.unusedSimpArgs false
theorem eqIntSS_loop (l : List (List Int)) (hlen : l.length ≤ 1048576) (hs : ∀ i : Nat, i < l.length → (rd_L1 l i).length ≤ 1048576) (d : Nat) : ∀ (i : Nat), i ≤ l.length → l.length - i = d → Ev (fun k => laws_eqIntSS.l0 k l l i) true := by
 induction d with
 | zero =>
  intro i h1 hd; refine ⟨1, fun k hk => ?_⟩; dsimp only; obtain ⟨k, rfl⟩ : ∃ m, k = m + 1 := ⟨k - 1, by omega⟩
  simp only [laws_eqIntSS.l0]; rw [if_neg (by omega)]
 | succ d ih =>
  intro i h1 hd; obtain ⟨K, h⟩ := ih (i + 1) (by omega) (by omega); dsimp only at h; have hb := hs i (by omega); refine ⟨K + (rd_L1 l i).length + 2, fun k hk => ?_⟩; dsimp only; obtain ⟨k, rfl⟩ : ∃ m, k = m + 1 := ⟨k - 1, by omega⟩
  simp only [laws_eqIntSS.l0]; rw [if_pos (by omega), if_pos (by omega), if_pos (by omega), eqIntS_eq _ (by omega) k (by omega)]; simp only [Option.bind_some]; rw [if_pos trivial, show wrap64 ((i : Int) + 1) = ((i + 1 : Nat) : Int) by unfold wrap64; omega]; exact h k (by omega)
theorem eqIntSS_ev (l : List (List Int)) (hlen : l.length ≤ 1048576) (hs : ∀ i : Nat, i < l.length → (rd_L1 l i).length ≤ 1048576) : Ev (fun k => laws_eqIntSS.f k l l) true := by
 obtain ⟨K, h⟩ := eqIntSS_loop l hlen hs l.length 0 (by omega) (by omega); dsimp only at h; refine ⟨K, fun k hk => ?_⟩; dsimp only; unfold laws_eqIntSS.f; rw [if_pos rfl]; exact h k hk
end Go.Proofs.Ytpcbjhfgfmmneaa.P
namespace Go.Proofs.Ytpcbjhfgfmmneaa.P
open Go.RowKit Go.Proofs.YtpcbjhfgfmmneaaW.PrintWords Go.Proofs.YtpcbjhfgfmmneaaW.PrintLast Go.Proofs.YtpcbjhfgfmmneaaW.PrintMore
attribute [local go_sem] max2_int min2_int max_two min_two max_three min_three max_four min_four
set_option linter.unusedVariables false
set_option linter.unusedSimpArgs false
def laws_szIntSS.l0 : Nat → List (List Int) → Int → Int → Option (Int)
 | 0, _, _, _ => none
 | k + 1, x0, x1, x5 => if x5 < (x0.length : Int) then (if 0 ≤ x5 then ((laws_szIntS.f (rd_L1 x0 x5) x1).bind fun t102 => (if t102 < 0 then (some (-1)) else (laws_szIntSS.l0 k x0 t102 (wrap64 (x5 + 1))))) else (none)) else (some x1)
def laws_szIntSS.f (k : Nat) (l0 : List (List Int)) (a1 : Int) : Option (Int) := if (wrap64 (a1 - (l0.length : Int))) < 0 then (some (-1)) else (laws_szIntSS.l0 k l0 (wrap64 (a1 - (l0.length : Int))) 0)
def laws_toIntSS.l0 : Nat → List (List Int) → List (List Int) → Int → Option ((List (List Int)))
 | 0, _, _, _ => none
 | k + 1, x0, x3, x4 => if x4 < (x0.length : Int) then (if 0 ≤ x4 then ((laws_toIntS.f k (rd_L1 x0 x4)).bind fun t105 => (if x4 < (x3.length : Int) then (laws_toIntSS.l0 k x0 (x3.set (x4 : Int).toNat t105) (wrap64 (x4 + 1))) else (none))) else (none)) else (some x3)
def laws_toIntSS.f (k : Nat) (l0 : List (List Int)) : Option ((List (List Int))) := if 0 ≤ (l0.length : Int) then (if ((l0.length : Int) : Int).toNat ≤ 11728124029610 then (laws_toIntSS.l0 k l0 (List.replicate ((l0.length : Int) : Int).toNat []) 0) else (none)) else (none)
end Go.Proofs.Ytpcbjhfgfmmneaa.P
namespace Go.Proofs.Ytpcbjhfgfmmneaa.P
open Go.RowKit Go.Proofs.YtpcbjhfgfmmneaaW.PrintWords
set_option linter.unusedVariables false
set_option linter.unusedSimpArgs false
def smallL (l : List (List Int)) : Prop := l.length ≤ 1048576 ∧ ∀ i : Nat, i < l.length → (rd_L1 l i).length ≤ 1048576
def fitL (l : List (List Int)) : Prop := l.length ≤ 9223372036854775807 ∧ ∀ i : Nat, i < l.length → (rd_L1 l i).length ≤ 9223372036854775807
end Go.Proofs.Ytpcbjhfgfmmneaa.P
namespace Go.Proofs.Ytpcbjhfgfmmneaa.P
open Go.RowKit Go.Proofs.YtpcbjhfgfmmneaaW.PrintWords Go.Proofs.YtpcbjhfgfmmneaaW.PrintLast Go.Proofs.YtpcbjhfgfmmneaaW.PrintMore
attribute [local go_sem] max2_int min2_int max_two min_two max_three min_three max_four min_four
set_option linter.unusedVariables false
set_option linter.unusedSimpArgs false
def laws_szBinary.f (k : Nat) (a0_0 : Int) (a0_1 : Int) (l0_2 : List (List Int)) (l0_3 : List (List Int)) (l0_4 : List Int) (l0_5 : List (List Int)) (a1 : Int) : Option (Int) := (laws_szIntSS.f k l0_2 a1).bind fun t102 => (if t102 < 0 then (some (-1)) else ((laws_szIntSS.f k l0_3 t102).bind fun t103 => (if t103 < 0 then (some (-1)) else ((laws_szIntS.f l0_4 t103).bind fun t104 => (if t104 < 0 then (some (-1)) else ((laws_szIntSS.f k l0_5 t104).bind fun t105 => (if t105 < 0 then (some (-1)) else (some t105))))))))
def laws_toBinary.f (k : Nat) (a0_0 : Int) (a0_1 : Int) (l0_2 : List (List Int)) (l0_3 : List (List Int)) (l0_4 : List Int) (l0_5 : List (List Int)) : Option (Int × Int × (List (List Int)) × (List (List Int)) × List Int × (List (List Int))) := (laws_toIntSS.f k l0_2).bind fun t104 => ((laws_toIntSS.f k l0_3).bind fun t107 => ((laws_toIntS.f k l0_4).bind fun t110 => ((laws_toIntSS.f k l0_5).bind fun t113 => (some (a0_0, a0_1, t104, t107, t110, t113)))))
def laws_eqBinary.f (k : Nat) (a0_0 : Int) (a0_1 : Int) (l0_2 : List (List Int)) (l0_3 : List (List Int)) (l0_4 : List Int) (l0_5 : List (List Int)) (a1_0 : Int) (a1_1 : Int) (l1_2 : List (List Int)) (l1_3 : List (List Int)) (l1_4 : List Int) (l1_5 : List (List Int)) : Option (Bool) := if a0_0 = a1_0 then (if a0_1 = a1_1 then ((laws_eqIntSS.f k l0_2 l1_2).bind fun t103 => (if t103 = true then ((laws_eqIntSS.f k l0_3 l1_3).bind fun t104 => (if t104 = true then ((laws_eqIntS.f k l0_4 l1_4).bind fun t105 => (if t105 = true then ((laws_eqIntSS.f k l0_5 l1_5).bind fun t106 => (if t106 = true then (some true) else (some false))) else (some false))) else (some false))) else (some false))) else (some false)) else (some false)
end Go.Proofs.Ytpcbjhfgfmmneaa.P
namespace Go.Proofs.Ytpcbjhfgfmmneaa.P
open Go.RowKit Go.Proofs.YtpcbjhfgfmmneaaW.PrintWords
set_option linter.unusedVariables false
set_option linter.unusedSimpArgs false
def smallB (ps os : List (List Int)) (es : List Int) (fs : List (List Int)) : Prop := smallL ps ∧ smallL os ∧ es.length ≤ 1048576 ∧ smallL fs
theorem eqBinary_ev (a0 a1 : Int) (l2 l3 : List (List Int)) (l4 : List Int) (l5 : List (List Int)) (h : smallB l2 l3 l4 l5) : Ev (fun k => laws_eqBinary.f k a0 a1 l2 l3 l4 l5 a0 a1 l2 l3 l4 l5) true := by
 obtain ⟨K2, e2⟩ := eqIntSS_ev l2 h.1.1 h.1.2; obtain ⟨K3, e3⟩ := eqIntSS_ev l3 h.2.1.1 h.2.1.2; obtain ⟨K4, e4⟩ := eqIntS_ev l4 (by have := h.2.2.1; omega); obtain ⟨K5, e5⟩ := eqIntSS_ev l5 h.2.2.2.1 h.2.2.2.2; dsimp only at e2 e3 e4 e5; refine ⟨K2 + K3 + K4 + K5, fun k hk => ?_⟩; dsimp only; unfold laws_eqBinary.f; rw [if_pos rfl, if_pos rfl, e2 k (by omega)]; simp only [Option.bind_some, if_true]; rw [e3 k (by omega)]; simp only [Option.bind_some, if_true]; rw [e4 k (by omega)]; simp only [Option.bind_some, if_true]; rw [e5 k (by omega)]; rfl
end Go.Proofs.Ytpcbjhfgfmmneaa.P
namespace Go.Proofs.Ytpcbjhfgfmmneaa.P
open Go.RowKit Go.Proofs.YtpcbjhfgfmmneaaW.PrintWords Go.Proofs.YtpcbjhfgfmmneaaW.PrintLast Go.Proofs.YtpcbjhfgfmmneaaW.PrintMore
set_option linter.unusedVariables false
set_option linter.unusedSimpArgs false
def szB (l2 l3 : List (List Int)) (l4 : List Int) (l5 : List (List Int)) : Nat := szRows l2 + szRows l3 + l4.length + szRows l5
def mkB0 (l2 l3 : List (List Int)) (l4 : List Int) (l5 : List (List Int)) (k : Int) : List (List Int) := mkRows l2 k
def mkB1 (l2 l3 : List (List Int)) (l4 : List Int) (l5 : List (List Int)) (k : Int) : List (List Int) := mkRows l3 (k + szRows l2)
def mkB2 (l2 l3 : List (List Int)) (l4 : List Int) (l5 : List (List Int)) (k : Int) : List Int := ramp (k + szRows l2 + szRows l3) l4.length
def mkB3 (l2 l3 : List (List Int)) (l4 : List Int) (l5 : List (List Int)) (k : Int) : List (List Int) := mkRows l5 (k + szRows l2 + szRows l3 + l4.length)
theorem szRows_bound {l : List (List Int)} (h : smallL l) : szRows l ≤ 1099511627776 := by
 have := szRows_small l 1048576 (fun r hr => by
  obtain ⟨j, hj, rfl⟩ := List.getElem_of_mem hr; have := h.2 j hj; unfold rd_L1 at this; rwa [Int.toNat_natCast, List.getD_eq_getElem?_getD, List.getElem?_eq_getElem hj] at this)
 have h1 := h.1; have : l.length * 1048576 ≤ 1048576 * 1048576 := Nat.mul_le_mul_right _ h1; omega
theorem szB_bound {l2 l3 : List (List Int)} {l4 : List Int} {l5 : List (List Int)} (h : smallB l2 l3 l4 l5) : szB l2 l3 l4 l5 ≤ 4398047559680 := by
 have h1 := szRows_bound h.1; have h2 := szRows_bound h.2.1; have h3 := h.2.2.1; have h4 := szRows_bound h.2.2.2; unfold szB; omega
set_option maxHeartbeats 8000000 in
set_option maxRecDepth 100000 in
theorem markBinary_calls (P2 P3 P4 P5 : Nat → Prop) (a0 a1 : Int) (u2 u3 u4 u5 : Value) (l2 l3 : List (List Int)) (l4 : List Int) (l5 : List (List Int)) (k : Int) (w0 w : World) (hB : Below w0.heap.size w0 w)
 (ho2 : Kd.S (Kd.slice 3 (Kd.int .i64)) 23 w w0.heap.size P2 u2 l2) (ho3 : Kd.S (Kd.slice 3 (Kd.int .i64)) 23 w w0.heap.size P3 u3 l3) (ho4 : Kd.R (Kd.int .i64) 3 w w0.heap.size P4 u4 l4) (ho5 : Kd.S (Kd.slice 3 (Kd.int .i64)) 23 w w0.heap.size P5 u5 l5)
 (hd : ∀ q, (P2 q → ¬ P3 q ∧ ¬ P4 q ∧ ¬ P5 q ∧ q < w.heap.size) ∧ (P3 q → ¬ P2 q ∧ ¬ P4 q ∧ ¬ P5 q ∧ q < w.heap.size) ∧ (P4 q → ¬ P2 q ∧ ¬ P3 q ∧ ¬ P5 q ∧ q < w.heap.size) ∧ (P5 q → ¬ P2 q ∧ ¬ P3 q ∧ ¬ P4 q ∧ q < w.heap.size))
 (ha : 0 ≤ k) (hs : k + szB l2 l3 l4 l5 ≤ 1152921504606846976) (hn2 : l2.length ≤ 1152921504606846976) (hn3 : l3.length ≤ 1152921504606846976) (hn5 : l5.length ≤ 1152921504606846976) :
 Calls Try.prog 14 #[.agg #[.int .i64 a0, .int .i64 a1, u2, u3, u4, u5], .int .i64 k] w fun e w' => e = .returned (.int .i64 (k + szB l2 l3 l4 l5)) ∧ Kd.S (Kd.slice 3 (Kd.int .i64)) 23 w' w0.heap.size P2 u2 (mkB0 l2 l3 l4 l5 k) ∧ Kd.S (Kd.slice 3 (Kd.int .i64)) 23 w' w0.heap.size P3 u3 (mkB1 l2 l3 l4 l5 k) ∧ Kd.R (Kd.int .i64) 3 w' w0.heap.size P4 u4 (mkB2 l2 l3 l4 l5 k) ∧ Kd.S (Kd.slice 3 (Kd.int .i64)) 23 w' w0.heap.size P5 u5 (mkB3 l2 l3 l4 l5 k) ∧ Below w0.heap.size w0 w' ∧ Kept w w' (fun q => P2 q ∨ P3 q ∨ P4 q ∨ P5 q) := by
 unfold szB at hs ⊢; unfold mkB0 mkB1 mkB2 mkB3; obtain ⟨A2, c2, eu⟩ := Kd.S_slice ho2; subst eu; obtain ⟨A3, c3, eu⟩ := Kd.S_slice ho3; subst eu; obtain ⟨A4, c4, eu⟩ := Kd.R_slice ho4; subst eu; obtain ⟨A5, c5, eu⟩ := Kd.S_slice ho5; subst eu; have hu := Try.underlying29; have O2 := zA ho2; have O3 := zA ho3; have O4 := zA ho4; have O5 := zA ho5; have HB := zA hB; have HD := zA hd; have HS := zA hs; have HA := zA ha; have HN := zA (show l2.length ≤ 1152921504606846976 ∧ l3.length ≤ 1152921504606846976 ∧ l5.length ≤ 1152921504606846976 from ⟨hn2, hn3, hn5⟩); clear ho2 ho3 ho4 ho5 hB hd hs ha hn2 hn3 hn5; go_enter Try.func14, Try.ntmps14; go_wp2_with fail; refine (markIntSS_calls P2 _ l2 k w0 _ (by repeat (first | exact HB.out | apply zB)) (by repeat (first | exact O2.out | apply Kd.S_alloc)) (by have := HA.out; omega) (by have := HS.out; omega) HN.out.1).mono ?_; rintro e w2 ⟨rfl, ho, hb, hk⟩; have N2 := zA ho; have N3 := zA (Kd.S_kept (by repeat (first | exact O3.out | apply Kd.S_alloc)) hk (fun q h1_ h2_ => ((HD.out q).2.1 h1_).1 h2_)); have N4 := zA (Kd.R_kept (by repeat (first | exact O4.out | apply zT)) hk (fun q h1_ h2_ => ((HD.out q).2.2.1 h1_).1 h2_)); have N5 := zA (Kd.S_kept (by repeat (first | exact O5.out | apply Kd.S_alloc)) hk (fun q h1_ h2_ => ((HD.out q).2.2.2 h1_).1 h2_)); have NX := zA (blk_kept (o := .cells #[.int .i64 a0, .int .i64 a1, .slice A2 l2.length c2, .slice A3 l3.length c3, .slice A4 l4.length c4, .slice A5 l5.length c5] 29 (0, 0)) (heap_alloc_new w _) hk (fun h_ => absurd ((HD.out _).1 h_).2.2.2 (Nat.lt_irrefl _))); have NK := zA ((Kept.alloc (Kept.refl w (fun q => P2 q ∨ P3 q ∨ P4 q ∨ P5 q)) _).then_ hk (fun q hq => .inl ((fun h_ => .inl h_) hq))); have NB := zA hb; clear ho hb hk O2 O3 O4 O5 HB; have O2 := N2; have O3 := N3; have O4 := N4; have O5 := N5; have BX := NX; have HK := NK; have HB := NB; clear N2 N3 N4 N5 NX NK NB; have hc0 : w2.cell? ⟨w.heap.size, 0, none⟩ = some (.int .i64 a0) := (zK BX.out 0).trans rfl; have hc1 : w2.cell? ⟨w.heap.size, 1, none⟩ = some (.int .i64 a1) := (zK BX.out 1).trans rfl; have hc2 : w2.cell? ⟨w.heap.size, 2, none⟩ = some (.slice A2 l2.length c2) := (zK BX.out 2).trans rfl; have hc3 : w2.cell? ⟨w.heap.size, 3, none⟩ = some (.slice A3 l3.length c3) := (zK BX.out 3).trans rfl; have hc4 : w2.cell? ⟨w.heap.size, 4, none⟩ = some (.slice A4 l4.length c4) := (zK BX.out 4).trans rfl; have hc5 : w2.cell? ⟨w.heap.size, 5, none⟩ = some (.slice A5 l5.length c5) := (zK BX.out 5).trans rfl; go_wp2_with fail; clear hc0 hc1 hc2 hc3 hc4 hc5; refine (markIntSS_calls P3 _ l3 (k + szRows l2) w0 _ (by repeat (first | exact HB.out | apply zB)) (by repeat (first | exact O3.out | apply Kd.S_alloc)) (by have := HA.out; omega) (by have := HS.out; omega) HN.out.2.1).mono ?_; rintro e w3 ⟨rfl, ho, hb, hk⟩; have N2 := zA (Kd.S_kept (by repeat (first | exact O2.out | apply Kd.S_alloc)) hk (fun q h1_ h2_ => ((HD.out q).1 h1_).1 h2_)); have N3 := zA ho; have N4 := zA (Kd.R_kept (by repeat (first | exact O4.out | apply zT)) hk (fun q h1_ h2_ => ((HD.out q).2.2.1 h1_).2.1 h2_)); have N5 := zA (Kd.S_kept (by repeat (first | exact O5.out | apply Kd.S_alloc)) hk (fun q h1_ h2_ => ((HD.out q).2.2.2 h1_).2.1 h2_)); have NX := zA (blk_kept BX.out hk (fun h_ => absurd ((HD.out _).2.1 h_).2.2.2 (Nat.lt_irrefl _))); have NK := zA (HK.out.then_ hk (fun q hq => .inl ((fun h_ => .inr (.inl h_)) hq))); have NB := zA hb; clear ho hb hk O2 O3 O4 O5 HB BX HK; have O2 := N2; have O3 := N3; have O4 := N4; have O5 := N5; have BX := NX; have HK := NK; have HB := NB; clear N2 N3 N4 N5 NX NK NB; have hc0 : w3.cell? ⟨w.heap.size, 0, none⟩ = some (.int .i64 a0) := (zK BX.out 0).trans rfl; have hc1 : w3.cell? ⟨w.heap.size, 1, none⟩ = some (.int .i64 a1) := (zK BX.out 1).trans rfl; have hc2 : w3.cell? ⟨w.heap.size, 2, none⟩ = some (.slice A2 l2.length c2) := (zK BX.out 2).trans rfl; have hc3 : w3.cell? ⟨w.heap.size, 3, none⟩ = some (.slice A3 l3.length c3) := (zK BX.out 3).trans rfl; have hc4 : w3.cell? ⟨w.heap.size, 4, none⟩ = some (.slice A4 l4.length c4) := (zK BX.out 4).trans rfl; have hc5 : w3.cell? ⟨w.heap.size, 5, none⟩ = some (.slice A5 l5.length c5) := (zK BX.out 5).trans rfl; go_wp2_with fail; clear hc0 hc1 hc2 hc3 hc4 hc5; refine (markIntS_calls P4 _ l4 (k + szRows l2 + szRows l3) w0 _ (by repeat (first | exact HB.out | apply zB)) (by repeat (first | exact O4.out | apply zT)) (by have := HA.out; omega) (by have := HS.out; omega)).mono ?_; rintro e w4 ⟨rfl, ho, hb, hk⟩; have N2 := zA (Kd.S_kept (by repeat (first | exact O2.out | apply Kd.S_alloc)) hk (fun q h1_ h2_ => ((HD.out q).1 h1_).2.1 h2_)); have N3 := zA (Kd.S_kept (by repeat (first | exact O3.out | apply Kd.S_alloc)) hk (fun q h1_ h2_ => ((HD.out q).2.1 h1_).2.1 h2_)); have N4 := zA ho; have N5 := zA (Kd.S_kept (by repeat (first | exact O5.out | apply Kd.S_alloc)) hk (fun q h1_ h2_ => ((HD.out q).2.2.2 h1_).2.2.1 h2_)); have NX := zA (blk_kept BX.out hk (fun h_ => absurd ((HD.out _).2.2.1 h_).2.2.2 (Nat.lt_irrefl _))); have NK := zA (HK.out.then_ hk (fun q hq => .inl ((fun h_ => .inr (.inr (.inl h_))) hq))); have NB := zA hb; clear ho hb hk O2 O3 O4 O5 HB BX HK; have O2 := N2; have O3 := N3; have O4 := N4; have O5 := N5; have BX := NX; have HK := NK; have HB := NB; clear N2 N3 N4 N5 NX NK NB; have hc0 : w4.cell? ⟨w.heap.size, 0, none⟩ = some (.int .i64 a0) := (zK BX.out 0).trans rfl; have hc1 : w4.cell? ⟨w.heap.size, 1, none⟩ = some (.int .i64 a1) := (zK BX.out 1).trans rfl; have hc2 : w4.cell? ⟨w.heap.size, 2, none⟩ = some (.slice A2 l2.length c2) := (zK BX.out 2).trans rfl; have hc3 : w4.cell? ⟨w.heap.size, 3, none⟩ = some (.slice A3 l3.length c3) := (zK BX.out 3).trans rfl; have hc4 : w4.cell? ⟨w.heap.size, 4, none⟩ = some (.slice A4 l4.length c4) := (zK BX.out 4).trans rfl; have hc5 : w4.cell? ⟨w.heap.size, 5, none⟩ = some (.slice A5 l5.length c5) := (zK BX.out 5).trans rfl; go_wp2_with fail; clear hc0 hc1 hc2 hc3 hc4 hc5; refine (markIntSS_calls P5 _ l5 (k + szRows l2 + szRows l3 + l4.length) w0 _ (by repeat (first | exact HB.out | apply zB)) (by repeat (first | exact O5.out | apply Kd.S_alloc)) (by have := HA.out; omega) (by have := HS.out; omega) HN.out.2.2).mono ?_; rintro e w5 ⟨rfl, ho, hb, hk⟩; have N2 := zA (Kd.S_kept (by repeat (first | exact O2.out | apply Kd.S_alloc)) hk (fun q h1_ h2_ => ((HD.out q).1 h1_).2.2.1 h2_)); have N3 := zA (Kd.S_kept (by repeat (first | exact O3.out | apply Kd.S_alloc)) hk (fun q h1_ h2_ => ((HD.out q).2.1 h1_).2.2.1 h2_)); have N4 := zA (Kd.R_kept (by repeat (first | exact O4.out | apply zT)) hk (fun q h1_ h2_ => ((HD.out q).2.2.1 h1_).2.2.1 h2_)); have N5 := zA ho; have NX := zA (blk_kept BX.out hk (fun h_ => absurd ((HD.out _).2.2.2 h_).2.2.2 (Nat.lt_irrefl _))); have NK := zA (HK.out.then_ hk (fun q hq => .inl ((fun h_ => .inr (.inr (.inr h_))) hq))); have NB := zA hb; clear ho hb hk O2 O3 O4 O5 HB BX HK; have O2 := N2; have O3 := N3; have O4 := N4; have O5 := N5; have BX := NX; have HK := NK; have HB := NB; clear N2 N3 N4 N5 NX NK NB; go_wp2; go_ret; exact ⟨by show Ending.returned (Value.int .i64 (k + szRows l2 + szRows l3 + l4.length + szRows l5)) = _; rw [show (k + ((szRows l2 + szRows l3 + l4.length + szRows l5 : Nat) : Int)) = k + szRows l2 + szRows l3 + l4.length + szRows l5 by omega], O2.out, O3.out, O4.out, O5.out, HB.out, HK.out⟩
end Go.Proofs.Ytpcbjhfgfmmneaa.P
namespace Go.Proofs.Ytpcbjhfgfmmneaa.P
open Go.RowKit Go.Proofs.YtpcbjhfgfmmneaaW.PrintWords Go.Proofs.YtpcbjhfgfmmneaaW.PrintLast Go.Proofs.YtpcbjhfgfmmneaaW.PrintMore
attribute [local go_sem] max2_int min2_int max_two min_two max_three min_three max_four min_four
set_option linter.unusedVariables false
set_option linter.unusedSimpArgs false
def laws_heldBinary.f (k : Nat) (a0_0 : Int) (a0_1 : Int) (l0_2 : List (List Int)) (l0_3 : List (List Int)) (l0_4 : List Int) (l0_5 : List (List Int)) (a1 : Int) : Option (Int) := (laws_heldIntSS.f k l0_2 a1).bind fun t102 => (if t102 < 0 then (some (-1)) else ((laws_heldIntSS.f k l0_3 t102).bind fun t103 => (if t103 < 0 then (some (-1)) else ((laws_heldIntS.f k l0_4 t103).bind fun t104 => (if t104 < 0 then (some (-1)) else ((laws_heldIntSS.f k l0_5 t104).bind fun t105 => (if t105 < 0 then (some (-1)) else (some t105))))))))
set_option maxHeartbeats 8000000 in
set_option maxRecDepth 100000 in
theorem laws_heldBinary.calls (k : Nat) (a0_0 : Int) (a0_1 : Int) (A0_2 : Option Addr) (c0_2 : Nat) (l0_2 : List (List Int)) (A0_3 : Option Addr) (c0_3 : Nat) (l0_3 : List (List Int)) (A0_4 : Option Addr) (c0_4 : Nat) (l0_4 : List Int) (A0_5 : Option Addr) (c0_5 : Nat) (l0_5 : List (List Int)) (a1 : Int) (r : Int) (w : World) (hr0_2 : Kd.C (Kd.slice 3 (Kd.int .i64)) w A0_2 l0_2.length l0_2) (hc0_2 : l0_2.length ≤ c0_2) (hr0_3 : Kd.C (Kd.slice 3 (Kd.int .i64)) w A0_3 l0_3.length l0_3) (hc0_3 : l0_3.length ≤ c0_3) (hr0_4 : Kd.C (Kd.int .i64) w A0_4 l0_4.length l0_4) (hc0_4 : l0_4.length ≤ c0_4) (hr0_5 : Kd.C (Kd.slice 3 (Kd.int .i64)) w A0_5 l0_5.length l0_5) (hc0_5 : l0_5.length ≤ c0_5) (h : laws_heldBinary.f k a0_0 a0_1 l0_2 l0_3 l0_4 l0_5 a1 = some r) :
 Calls Try.prog 26 #[.agg #[.int .i64 a0_0, .int .i64 a0_1, .slice A0_2 l0_2.length c0_2, .slice A0_3 l0_3.length c0_3, .slice A0_4 l0_4.length c0_4, .slice A0_5 l0_5.length c0_5], .int .i64 a1] w fun e w' => e = .returned (.int .i64 r) ∧ Below w.heap.size w w' := by
 have hu29 := Try.underlying29; have HR0_2 := zA hr0_2; have HC0_2 := zA hc0_2; clear hr0_2 hc0_2; have HR0_3 := zA hr0_3; have HC0_3 := zA hc0_3; clear hr0_3 hc0_3; have HR0_4 := zA hr0_4; have HC0_4 := zA hc0_4; clear hr0_4 hc0_4; have HR0_5 := zA hr0_5; have HC0_5 := zA hc0_5; clear hr0_5 hc0_5; have HB := zA (Below.refl w.heap.size w); have H : ((laws_heldIntSS.f k l0_2 a1).bind fun t102 => (if t102 < 0 then (some (-1)) else ((laws_heldIntSS.f k l0_3 t102).bind fun t103 => (if t103 < 0 then (some (-1)) else ((laws_heldIntS.f k l0_4 t103).bind fun t104 => (if t104 < 0 then (some (-1)) else ((laws_heldIntSS.f k l0_5 t104).bind fun t105 => (if t105 < 0 then (some (-1)) else (some t105))))))))) = some r := h; clear h; replace H := Option.bind_eq_some_iff.mp H; obtain ⟨t102, A30, H⟩ := H; replace H : (if t102 < 0 then (some (-1)) else ((laws_heldIntSS.f k l0_3 t102).bind fun t103 => (if t103 < 0 then (some (-1)) else ((laws_heldIntS.f k l0_4 t103).bind fun t104 => (if t104 < 0 then (some (-1)) else ((laws_heldIntSS.f k l0_5 t104).bind fun t105 => (if t105 < 0 then (some (-1)) else (some t105)))))))) = some r := H; have A3 := zA A30; clear A30; by_cases c4 : t102 < 0
 · rw [if_pos c4] at H; have c4b0 : decide (t102 < 0) = true := decide_eq_true c4; clear c4; obtain rfl := Option.some.inj H; go_enter Try.func26, Try.ntmps26; go_wp2_with (first | ((with_reducible refine gate_dst (N := 2) rfl ?_); refine box_event ?hg (N := 2) ?hd (cs := #[.int .i64 a0_0, .int .i64 a0_1, .slice A0_2 l0_2.length c0_2, .slice A0_3 l0_3.length c0_3, .slice A0_4 l0_4.length c0_4, .slice A0_5 l0_5.length c0_5]) (t := 29) ?hr ?_; (case hd => rfl); (case hg => rfl); (case hr => first | (go_simp; done) | (go_simp; rfl)); intro gb101 hg w5 hbox hb; have n0_ := zA (zG (by repeat (first | (with_reducible first | exact HB.out | apply zB | apply zC | apply zD) | exact HB.out)) hb); have n1_ := zA (hbox); have n2_ := zA ((by rw [hg]; exact (zF (by repeat (first | (with_reducible first | exact HB.out | apply zB | apply zC | apply zD) | exact HB.out))) : w.heap.size ≤ gb101)); have n3_ := zA ((by rw [hg]; exact (zF (by repeat (first | (with_reducible first | exact HB.out | apply zB | apply zC | apply zD) | exact HB.out))) : w.heap.size ≤ gb101)); clear HB; have HB := n0_; have BK101 := n1_; have GW101 := n2_; have GE101 := n3_; clear n0_ n1_ n2_ n3_; clear hb hbox hg; have hcz6_0 : w5.cell? ⟨gb101, 0, none⟩ = some (.int .i64 a0_0) := (zK BK101.out 0).trans rfl; have hcz6_1 : w5.cell? ⟨gb101, 1, none⟩ = some (.int .i64 a0_1) := (zK BK101.out 1).trans rfl; have hcz6_2 : w5.cell? ⟨gb101, 2, none⟩ = some (.slice A0_2 l0_2.length c0_2) := (zK BK101.out 2).trans rfl; have hcz6_3 : w5.cell? ⟨gb101, 3, none⟩ = some (.slice A0_3 l0_3.length c0_3) := (zK BK101.out 3).trans rfl; have hcz6_4 : w5.cell? ⟨gb101, 4, none⟩ = some (.slice A0_4 l0_4.length c0_4) := (zK BK101.out 4).trans rfl; have hcz6_5 : w5.cell? ⟨gb101, 5, none⟩ = some (.slice A0_5 l0_5.length c0_5) := (zK BK101.out 5).trans rfl; have hfz6_0 := zL BK101.out 0; have hfz6_1 := zL BK101.out 1; have hfz6_2 := zL BK101.out 2; have hfz6_3 := zL BK101.out 3; have hfz6_4 := zL BK101.out 4; have hfz6_5 := zL BK101.out 5) | ((with_reducible refine gate_callee (f := 52) rfl ?_); refine goesL_ (some 8) rfl rfl Try.func52 (by kernel_rfl) rfl #[.slice A0_2 l0_2.length c0_2, .int .i64 a1] rfl (by (try simp only [List.map_toArray, List.map_cons, List.map_nil]); first | done | rfl | (simp only [List.length_drop, List.length_take]; rfl)) ?_; (with_reducible refine (laws_heldIntSS.calls k _ _ l0_2 a1 t102 _ ?side1 ?side2 A3.out).mono ?_); (case side1 => repeat (first | exact (zS HR0_2.out HB.out) | refine zP ?_ _ | refine zQ ?_ _ | refine zR ?_)); (case side2 => exact HC0_2.out); rintro e w' ⟨rfl, ⟨nd, rfl⟩⟩; refine ⟨_, rfl, ?_⟩)); go_ret; exact ⟨by first | rfl | (simp [errW_none, errW_some] <;> rfl) | (simp [*, errW_none, errW_some] <;> rfl), by repeat (first | (with_reducible first | exact HB.out | apply zB | apply zC | apply zD | refine zE ?_ GE101.out) | exact HB.out)⟩
 · rw [if_neg c4] at H; have c4b0 : decide (t102 < 0) = false := decide_eq_false c4; clear c4; replace H := Option.bind_eq_some_iff.mp H; obtain ⟨t103, A70, H⟩ := H; replace H : (if t103 < 0 then (some (-1)) else ((laws_heldIntS.f k l0_4 t103).bind fun t104 => (if t104 < 0 then (some (-1)) else ((laws_heldIntSS.f k l0_5 t104).bind fun t105 => (if t105 < 0 then (some (-1)) else (some t105)))))) = some r := H; have A7 := zA A70; clear A70; by_cases c8 : t103 < 0
   · rw [if_pos c8] at H; have c8b0 : decide (t103 < 0) = true := decide_eq_true c8; clear c8; obtain rfl := Option.some.inj H; go_enter Try.func26, Try.ntmps26; go_wp2_with (first | ((with_reducible refine gate_dst (N := 2) rfl ?_); refine box_event ?hg (N := 2) ?hd (cs := #[.int .i64 a0_0, .int .i64 a0_1, .slice A0_2 l0_2.length c0_2, .slice A0_3 l0_3.length c0_3, .slice A0_4 l0_4.length c0_4, .slice A0_5 l0_5.length c0_5]) (t := 29) ?hr ?_; (case hd => rfl); (case hg => rfl); (case hr => first | (go_simp; done) | (go_simp; rfl)); intro gb101 hg w9 hbox hb; have n0_ := zA (zG (by repeat (first | (with_reducible first | exact HB.out | apply zB | apply zC | apply zD) | exact HB.out)) hb); have n1_ := zA (hbox); have n2_ := zA ((by rw [hg]; exact (zF (by repeat (first | (with_reducible first | exact HB.out | apply zB | apply zC | apply zD) | exact HB.out))) : w.heap.size ≤ gb101)); have n3_ := zA ((by rw [hg]; exact (zF (by repeat (first | (with_reducible first | exact HB.out | apply zB | apply zC | apply zD) | exact HB.out))) : w.heap.size ≤ gb101)); clear HB; have HB := n0_; have BK101 := n1_; have GW101 := n2_; have GE101 := n3_; clear n0_ n1_ n2_ n3_; clear hb hbox hg; have hcz10_0 : w9.cell? ⟨gb101, 0, none⟩ = some (.int .i64 a0_0) := (zK BK101.out 0).trans rfl; have hcz10_1 : w9.cell? ⟨gb101, 1, none⟩ = some (.int .i64 a0_1) := (zK BK101.out 1).trans rfl; have hcz10_2 : w9.cell? ⟨gb101, 2, none⟩ = some (.slice A0_2 l0_2.length c0_2) := (zK BK101.out 2).trans rfl; have hcz10_3 : w9.cell? ⟨gb101, 3, none⟩ = some (.slice A0_3 l0_3.length c0_3) := (zK BK101.out 3).trans rfl; have hcz10_4 : w9.cell? ⟨gb101, 4, none⟩ = some (.slice A0_4 l0_4.length c0_4) := (zK BK101.out 4).trans rfl; have hcz10_5 : w9.cell? ⟨gb101, 5, none⟩ = some (.slice A0_5 l0_5.length c0_5) := (zK BK101.out 5).trans rfl; have hfz10_0 := zL BK101.out 0; have hfz10_1 := zL BK101.out 1; have hfz10_2 := zL BK101.out 2; have hfz10_3 := zL BK101.out 3; have hfz10_4 := zL BK101.out 4; have hfz10_5 := zL BK101.out 5) | ((with_reducible refine gate_callee (f := 52) rfl ?_); refine goesL_ (some 8) rfl rfl Try.func52 (by kernel_rfl) rfl #[.slice A0_2 l0_2.length c0_2, .int .i64 a1] rfl (by (try simp only [List.map_toArray, List.map_cons, List.map_nil]); first | done | rfl | (simp only [List.length_drop, List.length_take]; rfl)) ?_; (with_reducible refine (laws_heldIntSS.calls k _ _ l0_2 a1 t102 _ ?side1 ?side2 A3.out).mono ?_); (case side1 => repeat (first | exact (zS HR0_2.out HB.out) | refine zP ?_ _ | refine zQ ?_ _ | refine zR ?_)); (case side2 => exact HC0_2.out); rintro e w' ⟨rfl, ⟨nd, rfl⟩⟩; refine ⟨_, rfl, ?_⟩) | ((with_reducible refine gate_callee (f := 52) rfl ?_); refine goesL_ (some 14) rfl rfl Try.func52 (by kernel_rfl) rfl #[.slice A0_3 l0_3.length c0_3, .int .i64 t102] rfl (by (try simp only [List.map_toArray, List.map_cons, List.map_nil]); first | done | rfl | (simp only [List.length_drop, List.length_take]; rfl)) ?_; (with_reducible refine (laws_heldIntSS.calls k _ _ l0_3 t102 t103 _ ?side1 ?side2 A7.out).mono ?_); (case side1 => repeat (first | exact (zS HR0_3.out (by repeat (first | (with_reducible first | exact HB.out | apply zB | apply zC | apply zD | refine zE ?_ GE101.out) | exact HB.out))) | refine zP ?_ _ | refine zQ ?_ _ | refine zR ?_)); (case side2 => exact HC0_3.out); rintro e w' ⟨rfl, ⟨nd, rfl⟩⟩; refine ⟨_, rfl, ?_⟩)); go_ret; exact ⟨by first | rfl | (simp [errW_none, errW_some] <;> rfl) | (simp [*, errW_none, errW_some] <;> rfl), by repeat (first | (with_reducible first | exact HB.out | apply zB | apply zC | apply zD | refine zE ?_ GE101.out) | exact HB.out)⟩
   · rw [if_neg c8] at H; have c8b0 : decide (t103 < 0) = false := decide_eq_false c8; clear c8; replace H := Option.bind_eq_some_iff.mp H; obtain ⟨t104, A110, H⟩ := H; replace H : (if t104 < 0 then (some (-1)) else ((laws_heldIntSS.f k l0_5 t104).bind fun t105 => (if t105 < 0 then (some (-1)) else (some t105)))) = some r := H; have A11 := zA A110; clear A110; by_cases c12 : t104 < 0
     · rw [if_pos c12] at H; have c12b0 : decide (t104 < 0) = true := decide_eq_true c12; clear c12; obtain rfl := Option.some.inj H; go_enter Try.func26, Try.ntmps26; go_wp2_with (first | ((with_reducible refine gate_dst (N := 2) rfl ?_); refine box_event ?hg (N := 2) ?hd (cs := #[.int .i64 a0_0, .int .i64 a0_1, .slice A0_2 l0_2.length c0_2, .slice A0_3 l0_3.length c0_3, .slice A0_4 l0_4.length c0_4, .slice A0_5 l0_5.length c0_5]) (t := 29) ?hr ?_; (case hd => rfl); (case hg => rfl); (case hr => first | (go_simp; done) | (go_simp; rfl)); intro gb101 hg w13 hbox hb; have n0_ := zA (zG (by repeat (first | (with_reducible first | exact HB.out | apply zB | apply zC | apply zD) | exact HB.out)) hb); have n1_ := zA (hbox); have n2_ := zA ((by rw [hg]; exact (zF (by repeat (first | (with_reducible first | exact HB.out | apply zB | apply zC | apply zD) | exact HB.out))) : w.heap.size ≤ gb101)); have n3_ := zA ((by rw [hg]; exact (zF (by repeat (first | (with_reducible first | exact HB.out | apply zB | apply zC | apply zD) | exact HB.out))) : w.heap.size ≤ gb101)); clear HB; have HB := n0_; have BK101 := n1_; have GW101 := n2_; have GE101 := n3_; clear n0_ n1_ n2_ n3_; clear hb hbox hg; have hcz14_0 : w13.cell? ⟨gb101, 0, none⟩ = some (.int .i64 a0_0) := (zK BK101.out 0).trans rfl; have hcz14_1 : w13.cell? ⟨gb101, 1, none⟩ = some (.int .i64 a0_1) := (zK BK101.out 1).trans rfl; have hcz14_2 : w13.cell? ⟨gb101, 2, none⟩ = some (.slice A0_2 l0_2.length c0_2) := (zK BK101.out 2).trans rfl; have hcz14_3 : w13.cell? ⟨gb101, 3, none⟩ = some (.slice A0_3 l0_3.length c0_3) := (zK BK101.out 3).trans rfl; have hcz14_4 : w13.cell? ⟨gb101, 4, none⟩ = some (.slice A0_4 l0_4.length c0_4) := (zK BK101.out 4).trans rfl; have hcz14_5 : w13.cell? ⟨gb101, 5, none⟩ = some (.slice A0_5 l0_5.length c0_5) := (zK BK101.out 5).trans rfl; have hfz14_0 := zL BK101.out 0; have hfz14_1 := zL BK101.out 1; have hfz14_2 := zL BK101.out 2; have hfz14_3 := zL BK101.out 3; have hfz14_4 := zL BK101.out 4; have hfz14_5 := zL BK101.out 5) | ((with_reducible refine gate_callee (f := 52) rfl ?_); refine goesL_ (some 8) rfl rfl Try.func52 (by kernel_rfl) rfl #[.slice A0_2 l0_2.length c0_2, .int .i64 a1] rfl (by (try simp only [List.map_toArray, List.map_cons, List.map_nil]); first | done | rfl | (simp only [List.length_drop, List.length_take]; rfl)) ?_; (with_reducible refine (laws_heldIntSS.calls k _ _ l0_2 a1 t102 _ ?side1 ?side2 A3.out).mono ?_); (case side1 => repeat (first | exact (zS HR0_2.out HB.out) | refine zP ?_ _ | refine zQ ?_ _ | refine zR ?_)); (case side2 => exact HC0_2.out); rintro e w' ⟨rfl, ⟨nd, rfl⟩⟩; refine ⟨_, rfl, ?_⟩) | ((with_reducible refine gate_callee (f := 52) rfl ?_); refine goesL_ (some 14) rfl rfl Try.func52 (by kernel_rfl) rfl #[.slice A0_3 l0_3.length c0_3, .int .i64 t102] rfl (by (try simp only [List.map_toArray, List.map_cons, List.map_nil]); first | done | rfl | (simp only [List.length_drop, List.length_take]; rfl)) ?_; (with_reducible refine (laws_heldIntSS.calls k _ _ l0_3 t102 t103 _ ?side1 ?side2 A7.out).mono ?_); (case side1 => repeat (first | exact (zS HR0_3.out (by repeat (first | (with_reducible first | exact HB.out | apply zB | apply zC | apply zD | refine zE ?_ GE101.out) | exact HB.out))) | refine zP ?_ _ | refine zQ ?_ _ | refine zR ?_)); (case side2 => exact HC0_3.out); rintro e w' ⟨rfl, ⟨nd, rfl⟩⟩; refine ⟨_, rfl, ?_⟩) | ((with_reducible refine gate_callee (f := 16) rfl ?_); refine goesL_ (some 20) rfl rfl Try.func16 (by kernel_rfl) rfl #[.slice A0_4 l0_4.length c0_4, .int .i64 t103] rfl (by (try simp only [List.map_toArray, List.map_cons, List.map_nil]); first | done | rfl | (simp only [List.length_drop, List.length_take]; rfl)) ?_; (with_reducible refine (laws_heldIntS.calls k _ _ l0_4 t103 t104 _ ?side1 ?side2 A11.out).mono ?_); (case side1 => repeat (first | exact (zS HR0_4.out (by repeat (first | (with_reducible first | exact HB.out | apply zB | apply zC | apply zD | refine zE ?_ GE101.out) | exact HB.out))) | refine zP ?_ _ | refine zQ ?_ _ | refine zR ?_)); (case side2 => exact HC0_4.out); rintro e w' ⟨rfl, ⟨nd, rfl⟩⟩; refine ⟨_, rfl, ?_⟩)); go_ret; exact ⟨by first | rfl | (simp [errW_none, errW_some] <;> rfl) | (simp [*, errW_none, errW_some] <;> rfl), by repeat (first | (with_reducible first | exact HB.out | apply zB | apply zC | apply zD | refine zE ?_ GE101.out) | exact HB.out)⟩
     · rw [if_neg c12] at H; have c12b0 : decide (t104 < 0) = false := decide_eq_false c12; clear c12; replace H := Option.bind_eq_some_iff.mp H; obtain ⟨t105, A150, H⟩ := H; replace H : (if t105 < 0 then (some (-1)) else (some t105)) = some r := H; have A15 := zA A150; clear A150; by_cases c16 : t105 < 0
       · rw [if_pos c16] at H; have c16b0 : decide (t105 < 0) = true := decide_eq_true c16; clear c16; obtain rfl := Option.some.inj H; go_enter Try.func26, Try.ntmps26; go_wp2_with (first | ((with_reducible refine gate_dst (N := 2) rfl ?_); refine box_event ?hg (N := 2) ?hd (cs := #[.int .i64 a0_0, .int .i64 a0_1, .slice A0_2 l0_2.length c0_2, .slice A0_3 l0_3.length c0_3, .slice A0_4 l0_4.length c0_4, .slice A0_5 l0_5.length c0_5]) (t := 29) ?hr ?_; (case hd => rfl); (case hg => rfl); (case hr => first | (go_simp; done) | (go_simp; rfl)); intro gb101 hg w17 hbox hb; have n0_ := zA (zG (by repeat (first | (with_reducible first | exact HB.out | apply zB | apply zC | apply zD) | exact HB.out)) hb); have n1_ := zA (hbox); have n2_ := zA ((by rw [hg]; exact (zF (by repeat (first | (with_reducible first | exact HB.out | apply zB | apply zC | apply zD) | exact HB.out))) : w.heap.size ≤ gb101)); have n3_ := zA ((by rw [hg]; exact (zF (by repeat (first | (with_reducible first | exact HB.out | apply zB | apply zC | apply zD) | exact HB.out))) : w.heap.size ≤ gb101)); clear HB; have HB := n0_; have BK101 := n1_; have GW101 := n2_; have GE101 := n3_; clear n0_ n1_ n2_ n3_; clear hb hbox hg; have hcz18_0 : w17.cell? ⟨gb101, 0, none⟩ = some (.int .i64 a0_0) := (zK BK101.out 0).trans rfl; have hcz18_1 : w17.cell? ⟨gb101, 1, none⟩ = some (.int .i64 a0_1) := (zK BK101.out 1).trans rfl; have hcz18_2 : w17.cell? ⟨gb101, 2, none⟩ = some (.slice A0_2 l0_2.length c0_2) := (zK BK101.out 2).trans rfl; have hcz18_3 : w17.cell? ⟨gb101, 3, none⟩ = some (.slice A0_3 l0_3.length c0_3) := (zK BK101.out 3).trans rfl; have hcz18_4 : w17.cell? ⟨gb101, 4, none⟩ = some (.slice A0_4 l0_4.length c0_4) := (zK BK101.out 4).trans rfl; have hcz18_5 : w17.cell? ⟨gb101, 5, none⟩ = some (.slice A0_5 l0_5.length c0_5) := (zK BK101.out 5).trans rfl; have hfz18_0 := zL BK101.out 0; have hfz18_1 := zL BK101.out 1; have hfz18_2 := zL BK101.out 2; have hfz18_3 := zL BK101.out 3; have hfz18_4 := zL BK101.out 4; have hfz18_5 := zL BK101.out 5) | ((with_reducible refine gate_callee (f := 52) rfl ?_); refine goesL_ (some 8) rfl rfl Try.func52 (by kernel_rfl) rfl #[.slice A0_2 l0_2.length c0_2, .int .i64 a1] rfl (by (try simp only [List.map_toArray, List.map_cons, List.map_nil]); first | done | rfl | (simp only [List.length_drop, List.length_take]; rfl)) ?_; (with_reducible refine (laws_heldIntSS.calls k _ _ l0_2 a1 t102 _ ?side1 ?side2 A3.out).mono ?_); (case side1 => repeat (first | exact (zS HR0_2.out HB.out) | refine zP ?_ _ | refine zQ ?_ _ | refine zR ?_)); (case side2 => exact HC0_2.out); rintro e w' ⟨rfl, ⟨nd, rfl⟩⟩; refine ⟨_, rfl, ?_⟩) | ((with_reducible refine gate_callee (f := 52) rfl ?_); refine goesL_ (some 14) rfl rfl Try.func52 (by kernel_rfl) rfl #[.slice A0_3 l0_3.length c0_3, .int .i64 t102] rfl (by (try simp only [List.map_toArray, List.map_cons, List.map_nil]); first | done | rfl | (simp only [List.length_drop, List.length_take]; rfl)) ?_; (with_reducible refine (laws_heldIntSS.calls k _ _ l0_3 t102 t103 _ ?side1 ?side2 A7.out).mono ?_); (case side1 => repeat (first | exact (zS HR0_3.out (by repeat (first | (with_reducible first | exact HB.out | apply zB | apply zC | apply zD | refine zE ?_ GE101.out) | exact HB.out))) | refine zP ?_ _ | refine zQ ?_ _ | refine zR ?_)); (case side2 => exact HC0_3.out); rintro e w' ⟨rfl, ⟨nd, rfl⟩⟩; refine ⟨_, rfl, ?_⟩) | ((with_reducible refine gate_callee (f := 16) rfl ?_); refine goesL_ (some 20) rfl rfl Try.func16 (by kernel_rfl) rfl #[.slice A0_4 l0_4.length c0_4, .int .i64 t103] rfl (by (try simp only [List.map_toArray, List.map_cons, List.map_nil]); first | done | rfl | (simp only [List.length_drop, List.length_take]; rfl)) ?_; (with_reducible refine (laws_heldIntS.calls k _ _ l0_4 t103 t104 _ ?side1 ?side2 A11.out).mono ?_); (case side1 => repeat (first | exact (zS HR0_4.out (by repeat (first | (with_reducible first | exact HB.out | apply zB | apply zC | apply zD | refine zE ?_ GE101.out) | exact HB.out))) | refine zP ?_ _ | refine zQ ?_ _ | refine zR ?_)); (case side2 => exact HC0_4.out); rintro e w' ⟨rfl, ⟨nd, rfl⟩⟩; refine ⟨_, rfl, ?_⟩) | ((with_reducible refine gate_callee (f := 52) rfl ?_); refine goesL_ (some 26) rfl rfl Try.func52 (by kernel_rfl) rfl #[.slice A0_5 l0_5.length c0_5, .int .i64 t104] rfl (by (try simp only [List.map_toArray, List.map_cons, List.map_nil]); first | done | rfl | (simp only [List.length_drop, List.length_take]; rfl)) ?_; (with_reducible refine (laws_heldIntSS.calls k _ _ l0_5 t104 t105 _ ?side1 ?side2 A15.out).mono ?_); (case side1 => repeat (first | exact (zS HR0_5.out (by repeat (first | (with_reducible first | exact HB.out | apply zB | apply zC | apply zD | refine zE ?_ GE101.out) | exact HB.out))) | refine zP ?_ _ | refine zQ ?_ _ | refine zR ?_)); (case side2 => exact HC0_5.out); rintro e w' ⟨rfl, ⟨nd, rfl⟩⟩; refine ⟨_, rfl, ?_⟩)); go_ret; exact ⟨by first | rfl | (simp [errW_none, errW_some] <;> rfl) | (simp [*, errW_none, errW_some] <;> rfl), by repeat (first | (with_reducible first | exact HB.out | apply zB | apply zC | apply zD | refine zE ?_ GE101.out) | exact HB.out)⟩
       · rw [if_neg c16] at H; have c16b0 : decide (t105 < 0) = false := decide_eq_false c16; clear c16; obtain rfl := Option.some.inj H; go_enter Try.func26, Try.ntmps26; go_wp2_with (first | ((with_reducible refine gate_dst (N := 2) rfl ?_); refine box_event ?hg (N := 2) ?hd (cs := #[.int .i64 a0_0, .int .i64 a0_1, .slice A0_2 l0_2.length c0_2, .slice A0_3 l0_3.length c0_3, .slice A0_4 l0_4.length c0_4, .slice A0_5 l0_5.length c0_5]) (t := 29) ?hr ?_; (case hd => rfl); (case hg => rfl); (case hr => first | (go_simp; done) | (go_simp; rfl)); intro gb101 hg w19 hbox hb; have n0_ := zA (zG (by repeat (first | (with_reducible first | exact HB.out | apply zB | apply zC | apply zD) | exact HB.out)) hb); have n1_ := zA (hbox); have n2_ := zA ((by rw [hg]; exact (zF (by repeat (first | (with_reducible first | exact HB.out | apply zB | apply zC | apply zD) | exact HB.out))) : w.heap.size ≤ gb101)); have n3_ := zA ((by rw [hg]; exact (zF (by repeat (first | (with_reducible first | exact HB.out | apply zB | apply zC | apply zD) | exact HB.out))) : w.heap.size ≤ gb101)); clear HB; have HB := n0_; have BK101 := n1_; have GW101 := n2_; have GE101 := n3_; clear n0_ n1_ n2_ n3_; clear hb hbox hg; have hcz20_0 : w19.cell? ⟨gb101, 0, none⟩ = some (.int .i64 a0_0) := (zK BK101.out 0).trans rfl; have hcz20_1 : w19.cell? ⟨gb101, 1, none⟩ = some (.int .i64 a0_1) := (zK BK101.out 1).trans rfl; have hcz20_2 : w19.cell? ⟨gb101, 2, none⟩ = some (.slice A0_2 l0_2.length c0_2) := (zK BK101.out 2).trans rfl; have hcz20_3 : w19.cell? ⟨gb101, 3, none⟩ = some (.slice A0_3 l0_3.length c0_3) := (zK BK101.out 3).trans rfl; have hcz20_4 : w19.cell? ⟨gb101, 4, none⟩ = some (.slice A0_4 l0_4.length c0_4) := (zK BK101.out 4).trans rfl; have hcz20_5 : w19.cell? ⟨gb101, 5, none⟩ = some (.slice A0_5 l0_5.length c0_5) := (zK BK101.out 5).trans rfl; have hfz20_0 := zL BK101.out 0; have hfz20_1 := zL BK101.out 1; have hfz20_2 := zL BK101.out 2; have hfz20_3 := zL BK101.out 3; have hfz20_4 := zL BK101.out 4; have hfz20_5 := zL BK101.out 5) | ((with_reducible refine gate_callee (f := 52) rfl ?_); refine goesL_ (some 8) rfl rfl Try.func52 (by kernel_rfl) rfl #[.slice A0_2 l0_2.length c0_2, .int .i64 a1] rfl (by (try simp only [List.map_toArray, List.map_cons, List.map_nil]); first | done | rfl | (simp only [List.length_drop, List.length_take]; rfl)) ?_; (with_reducible refine (laws_heldIntSS.calls k _ _ l0_2 a1 t102 _ ?side1 ?side2 A3.out).mono ?_); (case side1 => repeat (first | exact (zS HR0_2.out HB.out) | refine zP ?_ _ | refine zQ ?_ _ | refine zR ?_)); (case side2 => exact HC0_2.out); rintro e w' ⟨rfl, ⟨nd, rfl⟩⟩; refine ⟨_, rfl, ?_⟩) | ((with_reducible refine gate_callee (f := 52) rfl ?_); refine goesL_ (some 14) rfl rfl Try.func52 (by kernel_rfl) rfl #[.slice A0_3 l0_3.length c0_3, .int .i64 t102] rfl (by (try simp only [List.map_toArray, List.map_cons, List.map_nil]); first | done | rfl | (simp only [List.length_drop, List.length_take]; rfl)) ?_; (with_reducible refine (laws_heldIntSS.calls k _ _ l0_3 t102 t103 _ ?side1 ?side2 A7.out).mono ?_); (case side1 => repeat (first | exact (zS HR0_3.out (by repeat (first | (with_reducible first | exact HB.out | apply zB | apply zC | apply zD | refine zE ?_ GE101.out) | exact HB.out))) | refine zP ?_ _ | refine zQ ?_ _ | refine zR ?_)); (case side2 => exact HC0_3.out); rintro e w' ⟨rfl, ⟨nd, rfl⟩⟩; refine ⟨_, rfl, ?_⟩) | ((with_reducible refine gate_callee (f := 16) rfl ?_); refine goesL_ (some 20) rfl rfl Try.func16 (by kernel_rfl) rfl #[.slice A0_4 l0_4.length c0_4, .int .i64 t103] rfl (by (try simp only [List.map_toArray, List.map_cons, List.map_nil]); first | done | rfl | (simp only [List.length_drop, List.length_take]; rfl)) ?_; (with_reducible refine (laws_heldIntS.calls k _ _ l0_4 t103 t104 _ ?side1 ?side2 A11.out).mono ?_); (case side1 => repeat (first | exact (zS HR0_4.out (by repeat (first | (with_reducible first | exact HB.out | apply zB | apply zC | apply zD | refine zE ?_ GE101.out) | exact HB.out))) | refine zP ?_ _ | refine zQ ?_ _ | refine zR ?_)); (case side2 => exact HC0_4.out); rintro e w' ⟨rfl, ⟨nd, rfl⟩⟩; refine ⟨_, rfl, ?_⟩) | ((with_reducible refine gate_callee (f := 52) rfl ?_); refine goesL_ (some 26) rfl rfl Try.func52 (by kernel_rfl) rfl #[.slice A0_5 l0_5.length c0_5, .int .i64 t104] rfl (by (try simp only [List.map_toArray, List.map_cons, List.map_nil]); first | done | rfl | (simp only [List.length_drop, List.length_take]; rfl)) ?_; (with_reducible refine (laws_heldIntSS.calls k _ _ l0_5 t104 t105 _ ?side1 ?side2 A15.out).mono ?_); (case side1 => repeat (first | exact (zS HR0_5.out (by repeat (first | (with_reducible first | exact HB.out | apply zB | apply zC | apply zD | refine zE ?_ GE101.out) | exact HB.out))) | refine zP ?_ _ | refine zQ ?_ _ | refine zR ?_)); (case side2 => exact HC0_5.out); rintro e w' ⟨rfl, ⟨nd, rfl⟩⟩; refine ⟨_, rfl, ?_⟩)); go_ret; exact ⟨by first | rfl | (simp [errW_none, errW_some] <;> rfl) | (simp [*, errW_none, errW_some] <;> rfl), by repeat (first | (with_reducible first | exact HB.out | apply zB | apply zC | apply zD | refine zE ?_ GE101.out) | exact HB.out)⟩
end Go.Proofs.Ytpcbjhfgfmmneaa.P
namespace Go.Proofs.Ytpcbjhfgfmmneaa.P
open Go.RowKit Go.Proofs.YtpcbjhfgfmmneaaW.PrintWords Go.Proofs.YtpcbjhfgfmmneaaW.PrintLast Go.Proofs.YtpcbjhfgfmmneaaW.PrintMore
set_option linter.unusedVariables false
set_option linter.unusedSimpArgs false
theorem heldBinary_ev (a0 a1 : Int) (l2 l3 : List (List Int)) (l4 : List Int) (l5 : List (List Int)) (a : Int) (ha : 0 ≤ a) (hs : a + szB l2 l3 l4 l5 ≤ 1152921504606846976) (hn2 : l2.length ≤ 1152921504606846976) (hn3 : l3.length ≤ 1152921504606846976) (hn5 : l5.length ≤ 1152921504606846976) :
 Ev (fun k => laws_heldBinary.f k a0 a1 (mkB0 l2 l3 l4 l5 a) (mkB1 l2 l3 l4 l5 a) (mkB2 l2 l3 l4 l5 a) (mkB3 l2 l3 l4 l5 a) a) (a + szB l2 l3 l4 l5) := by
 unfold szB at hs ⊢; obtain ⟨K2, e2⟩ := heldIntSS_ev l2 hn2 a ha (by omega); obtain ⟨K3, e3⟩ := heldIntSS_ev l3 hn3 (a + szRows l2) (by omega) (by omega); obtain ⟨K5, e5⟩ := heldIntSS_ev l5 hn5 (a + szRows l2 + szRows l3 + l4.length) (by omega) (by omega); dsimp only at e2 e3 e5; refine ⟨K2 + K3 + K5 + l4.length + 2, fun k hk => ?_⟩; dsimp only; unfold laws_heldBinary.f mkB0 mkB1 mkB2 mkB3; rw [e2 k (by omega)]; simp only [Option.bind_some]; rw [if_neg (by omega), e3 k (by omega)]; simp only [Option.bind_some]; rw [if_neg (by omega), heldIntS_eq _ (by omega) _ (by omega) (by omega) k (by omega)]; simp only [Option.bind_some]; rw [if_neg (by omega), e5 k (by omega)]; simp only [Option.bind_some]; rw [if_neg (by omega)]; congr 1; omega
theorem heldBinary_calls (a0 a1 : Int) (A2 : Option Addr) (c2 : Nat) (A3 : Option Addr) (c3 : Nat) (A4 : Option Addr) (c4 : Nat) (A5 : Option Addr) (c5 : Nat) (l2 l3 : List (List Int)) (l4 : List Int) (l5 : List (List Int)) (a : Int) (w : World)
 (h2 : Kd.C (Kd.slice 3 (Kd.int .i64)) w A2 (mkB0 l2 l3 l4 l5 a).length (mkB0 l2 l3 l4 l5 a)) (hc2 : l2.length ≤ c2) (h3 : Kd.C (Kd.slice 3 (Kd.int .i64)) w A3 (mkB1 l2 l3 l4 l5 a).length (mkB1 l2 l3 l4 l5 a)) (hc3 : l3.length ≤ c3)
 (h4 : Kd.C (Kd.int .i64) w A4 (mkB2 l2 l3 l4 l5 a).length (mkB2 l2 l3 l4 l5 a)) (hc4 : l4.length ≤ c4) (h5 : Kd.C (Kd.slice 3 (Kd.int .i64)) w A5 (mkB3 l2 l3 l4 l5 a).length (mkB3 l2 l3 l4 l5 a)) (hc5 : l5.length ≤ c5)
 (ha : 0 ≤ a) (hs : a + szB l2 l3 l4 l5 ≤ 1152921504606846976) (hn2 : l2.length ≤ 1152921504606846976) (hn3 : l3.length ≤ 1152921504606846976) (hn5 : l5.length ≤ 1152921504606846976) :
 Calls Try.prog 26 #[.agg #[.int .i64 a0, .int .i64 a1, .slice A2 l2.length c2, .slice A3 l3.length c3, .slice A4 l4.length c4, .slice A5 l5.length c5], .int .i64 a] w fun e w' => e = .returned (.int .i64 (a + szB l2 l3 l4 l5)) ∧ Below w.heap.size w w' := by
 obtain ⟨k, hk⟩ := (heldBinary_ev a0 a1 l2 l3 l4 l5 a ha hs hn2 hn3 hn5).rounds; have e2 : (mkB0 l2 l3 l4 l5 a).length = l2.length := mkRows_len _ _; have e3 : (mkB1 l2 l3 l4 l5 a).length = l3.length := mkRows_len _ _; have e4 : (mkB2 l2 l3 l4 l5 a).length = l4.length := ramp_len _ _; have e5 : (mkB3 l2 l3 l4 l5 a).length = l5.length := mkRows_len _ _; have H := laws_heldBinary.calls k a0 a1 A2 c2 (mkB0 l2 l3 l4 l5 a) A3 c3 (mkB1 l2 l3 l4 l5 a) A4 c4 (mkB2 l2 l3 l4 l5 a) A5 c5 (mkB3 l2 l3 l4 l5 a) a (a + szB l2 l3 l4 l5) w h2 (by rw [e2]; exact hc2) h3 (by rw [e3]; exact hc3) h4 (by rw [e4]; exact hc4) h5 (by rw [e5]; exact hc5) hk; rw [e2, e3, e4, e5] at H; exact H
set_option maxHeartbeats 8000000 in
set_option maxRecDepth 100000 in
theorem laws_eqBinary.same (k : Nat) (a0_0 : Int) (a0_1 : Int) (A0_2 : Option Addr) (c0_2 : Nat) (l0_2 : List (List Int)) (A0_3 : Option Addr) (c0_3 : Nat) (l0_3 : List (List Int)) (A0_4 : Option Addr) (c0_4 : Nat) (l0_4 : List Int) (A0_5 : Option Addr) (c0_5 : Nat) (l0_5 : List (List Int)) (a1_0 : Int) (a1_1 : Int) (A1_2 : Option Addr) (c1_2 : Nat) (l1_2 : List (List Int)) (A1_3 : Option Addr) (c1_3 : Nat) (l1_3 : List (List Int)) (A1_4 : Option Addr) (c1_4 : Nat) (l1_4 : List Int) (A1_5 : Option Addr) (c1_5 : Nat) (l1_5 : List (List Int)) (_r : Bool) (w : World) (hr0_2 : Kd.C (Kd.slice 3 (Kd.int .i64)) w A0_2 l0_2.length l0_2) (hc0_2 : l0_2.length ≤ c0_2) (hr0_3 : Kd.C (Kd.slice 3 (Kd.int .i64)) w A0_3 l0_3.length l0_3) (hc0_3 : l0_3.length ≤ c0_3) (hr0_4 : Kd.C (Kd.int .i64) w A0_4 l0_4.length l0_4) (hc0_4 : l0_4.length ≤ c0_4) (hr0_5 : Kd.C (Kd.slice 3 (Kd.int .i64)) w A0_5 l0_5.length l0_5) (hc0_5 : l0_5.length ≤ c0_5) (hr1_2 : Kd.C (Kd.slice 3 (Kd.int .i64)) w A1_2 l1_2.length l1_2) (hc1_2 : l1_2.length ≤ c1_2) (hr1_3 : Kd.C (Kd.slice 3 (Kd.int .i64)) w A1_3 l1_3.length l1_3) (hc1_3 : l1_3.length ≤ c1_3) (hr1_4 : Kd.C (Kd.int .i64) w A1_4 l1_4.length l1_4) (hc1_4 : l1_4.length ≤ c1_4) (hr1_5 : Kd.C (Kd.slice 3 (Kd.int .i64)) w A1_5 l1_5.length l1_5) (hc1_5 : l1_5.length ≤ c1_5) (h : laws_eqBinary.f k a0_0 a0_1 l0_2 l0_3 l0_4 l0_5 a1_0 a1_1 l1_2 l1_3 l1_4 l1_5 = some true) :
 Calls Try.prog 13 #[.agg #[.int .i64 a0_0, .int .i64 a0_1, .slice A0_2 l0_2.length c0_2, .slice A0_3 l0_3.length c0_3, .slice A0_4 l0_4.length c0_4, .slice A0_5 l0_5.length c0_5], .agg #[.int .i64 a1_0, .int .i64 a1_1, .slice A1_2 l1_2.length c1_2, .slice A1_3 l1_3.length c1_3, .slice A1_4 l1_4.length c1_4, .slice A1_5 l1_5.length c1_5]] w fun e w' => e = .returned (.bool true) ∧ Below w.heap.size w w' := by
 have hu := Try.underlying29; have HB := zA (Below.refl w.heap.size w); unfold laws_eqBinary.f at h; by_cases e0 : a0_0 = a1_0; rotate_left
 · rw [if_neg e0] at h; cases h
 rw [if_pos e0] at h; subst e0; by_cases e1 : a0_1 = a1_1; rotate_left
 · rw [if_neg e1] at h; cases h
 rw [if_pos e1] at h; subst e1; obtain ⟨t2, h2, h⟩ := Option.bind_eq_some_iff.mp h; cases t2 with
 | false => rw [if_neg (by decide)] at h; cases h
 | true =>
 rw [if_pos rfl] at h; obtain ⟨t3, h3, h⟩ := Option.bind_eq_some_iff.mp h; cases t3 with
 | false => rw [if_neg (by decide)] at h; cases h
 | true =>
 rw [if_pos rfl] at h; obtain ⟨t4, h4, h⟩ := Option.bind_eq_some_iff.mp h; cases t4 with
 | false => rw [if_neg (by decide)] at h; cases h
 | true =>
 rw [if_pos rfl] at h; obtain ⟨t5, h5, h⟩ := Option.bind_eq_some_iff.mp h; cases t5 with
 | false => rw [if_neg (by decide)] at h; cases h
 | true =>
 rw [if_pos rfl] at h; clear h; go_enter Try.func13, Try.ntmps13; go_wp2_with fail; refine (laws_eqIntSS.calls k A0_2 c0_2 l0_2 A1_2 c1_2 l1_2 true _ (zS hr0_2 (by repeat (first | (with_reducible first | exact HB.out | apply zB | apply zC | apply zD) | exact HB.out))) hc0_2 (zS hr1_2 (by repeat (first | (with_reducible first | exact HB.out | apply zB | apply zC | apply zD) | exact HB.out))) hc1_2 h2).mono ?_; rintro e w2 ⟨rfl, hd⟩; have hb := drawn_below hd; clear hd; have NX := zA (zM (o := .cells #[.int .i64 a0_0, .int .i64 a0_1, .slice A0_2 l0_2.length c0_2, .slice A0_3 l0_3.length c0_3, .slice A0_4 l0_4.length c0_4, .slice A0_5 l0_5.length c0_5] 29 (0, 0)) (zH (heap_alloc_new w _) _) hb); have NY := zA (zM (g := (w.alloc (.cells #[.int .i64 a0_0, .int .i64 a0_1, .slice A0_2 l0_2.length c0_2, .slice A0_3 l0_3.length c0_3, .slice A0_4 l0_4.length c0_4, .slice A0_5 l0_5.length c0_5] 29 (0, 0))).heap.size) (o := .cells #[.int .i64 a0_0, .int .i64 a0_1, .slice A1_2 l1_2.length c1_2, .slice A1_3 l1_3.length c1_3, .slice A1_4 l1_4.length c1_4, .slice A1_5 l1_5.length c1_5] 29 (0, 0)) (heap_alloc_new _ _) hb); have NB := zA (zG (by repeat (first | (with_reducible first | exact HB.out | apply zB | apply zC | apply zD) | exact HB.out)) hb); clear hb HB; have BX := NX; have HB := NB; clear NX NB; have BY := NY; clear NY; have x0 : w2.cell? ⟨w.heap.size, 0, none⟩ = some (.int .i64 a0_0) := (zK BX.out 0).trans rfl; have x1 : w2.cell? ⟨w.heap.size, 1, none⟩ = some (.int .i64 a0_1) := (zK BX.out 1).trans rfl; have x2 : w2.cell? ⟨w.heap.size, 2, none⟩ = some (.slice A0_2 l0_2.length c0_2) := (zK BX.out 2).trans rfl; have x3 : w2.cell? ⟨w.heap.size, 3, none⟩ = some (.slice A0_3 l0_3.length c0_3) := (zK BX.out 3).trans rfl; have x4 : w2.cell? ⟨w.heap.size, 4, none⟩ = some (.slice A0_4 l0_4.length c0_4) := (zK BX.out 4).trans rfl; have x5 : w2.cell? ⟨w.heap.size, 5, none⟩ = some (.slice A0_5 l0_5.length c0_5) := (zK BX.out 5).trans rfl; have y0 : w2.cell? ⟨w.heap.size + 1, 0, none⟩ = some (.int .i64 a0_0) := (zK (by have := BY.out; (try simp at this); exact this) 0).trans rfl; have y1 : w2.cell? ⟨w.heap.size + 1, 1, none⟩ = some (.int .i64 a0_1) := (zK (by have := BY.out; (try simp at this); exact this) 1).trans rfl; have y2 : w2.cell? ⟨w.heap.size + 1, 2, none⟩ = some (.slice A1_2 l1_2.length c1_2) := (zK (by have := BY.out; (try simp at this); exact this) 2).trans rfl; have y3 : w2.cell? ⟨w.heap.size + 1, 3, none⟩ = some (.slice A1_3 l1_3.length c1_3) := (zK (by have := BY.out; (try simp at this); exact this) 3).trans rfl; have y4 : w2.cell? ⟨w.heap.size + 1, 4, none⟩ = some (.slice A1_4 l1_4.length c1_4) := (zK (by have := BY.out; (try simp at this); exact this) 4).trans rfl; have y5 : w2.cell? ⟨w.heap.size + 1, 5, none⟩ = some (.slice A1_5 l1_5.length c1_5) := (zK (by have := BY.out; (try simp at this); exact this) 5).trans rfl; go_wp2_with fail; clear x0 x1 x2 x3 x4 x5 y0 y1 y2 y3 y4 y5; refine (laws_eqIntSS.calls k A0_3 c0_3 l0_3 A1_3 c1_3 l1_3 true _ (zS hr0_3 (by repeat (first | (with_reducible first | exact HB.out | apply zB | apply zC | apply zD) | exact HB.out))) hc0_3 (zS hr1_3 (by repeat (first | (with_reducible first | exact HB.out | apply zB | apply zC | apply zD) | exact HB.out))) hc1_3 h3).mono ?_; rintro e w3 ⟨rfl, hd⟩; have hb := drawn_below hd; clear hd; have NX := zA (zM BX.out hb); have NY := zA (zM BY.out hb); have NB := zA (zG (by repeat (first | (with_reducible first | exact HB.out | apply zB | apply zC | apply zD) | exact HB.out)) hb); clear hb HB BX BY; have BX := NX; have HB := NB; clear NX NB; have BY := NY; clear NY; have x0 : w3.cell? ⟨w.heap.size, 0, none⟩ = some (.int .i64 a0_0) := (zK BX.out 0).trans rfl; have x1 : w3.cell? ⟨w.heap.size, 1, none⟩ = some (.int .i64 a0_1) := (zK BX.out 1).trans rfl; have x2 : w3.cell? ⟨w.heap.size, 2, none⟩ = some (.slice A0_2 l0_2.length c0_2) := (zK BX.out 2).trans rfl; have x3 : w3.cell? ⟨w.heap.size, 3, none⟩ = some (.slice A0_3 l0_3.length c0_3) := (zK BX.out 3).trans rfl; have x4 : w3.cell? ⟨w.heap.size, 4, none⟩ = some (.slice A0_4 l0_4.length c0_4) := (zK BX.out 4).trans rfl; have x5 : w3.cell? ⟨w.heap.size, 5, none⟩ = some (.slice A0_5 l0_5.length c0_5) := (zK BX.out 5).trans rfl; have y0 : w3.cell? ⟨w.heap.size + 1, 0, none⟩ = some (.int .i64 a0_0) := (zK (by have := BY.out; (try simp at this); exact this) 0).trans rfl; have y1 : w3.cell? ⟨w.heap.size + 1, 1, none⟩ = some (.int .i64 a0_1) := (zK (by have := BY.out; (try simp at this); exact this) 1).trans rfl; have y2 : w3.cell? ⟨w.heap.size + 1, 2, none⟩ = some (.slice A1_2 l1_2.length c1_2) := (zK (by have := BY.out; (try simp at this); exact this) 2).trans rfl; have y3 : w3.cell? ⟨w.heap.size + 1, 3, none⟩ = some (.slice A1_3 l1_3.length c1_3) := (zK (by have := BY.out; (try simp at this); exact this) 3).trans rfl; have y4 : w3.cell? ⟨w.heap.size + 1, 4, none⟩ = some (.slice A1_4 l1_4.length c1_4) := (zK (by have := BY.out; (try simp at this); exact this) 4).trans rfl; have y5 : w3.cell? ⟨w.heap.size + 1, 5, none⟩ = some (.slice A1_5 l1_5.length c1_5) := (zK (by have := BY.out; (try simp at this); exact this) 5).trans rfl; go_wp2_with fail; clear x0 x1 x2 x3 x4 x5 y0 y1 y2 y3 y4 y5; refine (laws_eqIntS.calls k A0_4 c0_4 l0_4 A1_4 c1_4 l1_4 true _ (zS hr0_4 (by repeat (first | (with_reducible first | exact HB.out | apply zB | apply zC | apply zD) | exact HB.out))) hc0_4 (zS hr1_4 (by repeat (first | (with_reducible first | exact HB.out | apply zB | apply zC | apply zD) | exact HB.out))) hc1_4 h4).mono ?_; rintro e w4 ⟨rfl, hd⟩; have hb := drawn_below hd; clear hd; have NX := zA (zM BX.out hb); have NY := zA (zM BY.out hb); have NB := zA (zG (by repeat (first | (with_reducible first | exact HB.out | apply zB | apply zC | apply zD) | exact HB.out)) hb); clear hb HB BX BY; have BX := NX; have HB := NB; clear NX NB; have BY := NY; clear NY; have x0 : w4.cell? ⟨w.heap.size, 0, none⟩ = some (.int .i64 a0_0) := (zK BX.out 0).trans rfl; have x1 : w4.cell? ⟨w.heap.size, 1, none⟩ = some (.int .i64 a0_1) := (zK BX.out 1).trans rfl; have x2 : w4.cell? ⟨w.heap.size, 2, none⟩ = some (.slice A0_2 l0_2.length c0_2) := (zK BX.out 2).trans rfl; have x3 : w4.cell? ⟨w.heap.size, 3, none⟩ = some (.slice A0_3 l0_3.length c0_3) := (zK BX.out 3).trans rfl; have x4 : w4.cell? ⟨w.heap.size, 4, none⟩ = some (.slice A0_4 l0_4.length c0_4) := (zK BX.out 4).trans rfl; have x5 : w4.cell? ⟨w.heap.size, 5, none⟩ = some (.slice A0_5 l0_5.length c0_5) := (zK BX.out 5).trans rfl; have y0 : w4.cell? ⟨w.heap.size + 1, 0, none⟩ = some (.int .i64 a0_0) := (zK (by have := BY.out; (try simp at this); exact this) 0).trans rfl; have y1 : w4.cell? ⟨w.heap.size + 1, 1, none⟩ = some (.int .i64 a0_1) := (zK (by have := BY.out; (try simp at this); exact this) 1).trans rfl; have y2 : w4.cell? ⟨w.heap.size + 1, 2, none⟩ = some (.slice A1_2 l1_2.length c1_2) := (zK (by have := BY.out; (try simp at this); exact this) 2).trans rfl; have y3 : w4.cell? ⟨w.heap.size + 1, 3, none⟩ = some (.slice A1_3 l1_3.length c1_3) := (zK (by have := BY.out; (try simp at this); exact this) 3).trans rfl; have y4 : w4.cell? ⟨w.heap.size + 1, 4, none⟩ = some (.slice A1_4 l1_4.length c1_4) := (zK (by have := BY.out; (try simp at this); exact this) 4).trans rfl; have y5 : w4.cell? ⟨w.heap.size + 1, 5, none⟩ = some (.slice A1_5 l1_5.length c1_5) := (zK (by have := BY.out; (try simp at this); exact this) 5).trans rfl; go_wp2_with fail; clear x0 x1 x2 x3 x4 x5 y0 y1 y2 y3 y4 y5; refine (laws_eqIntSS.calls k A0_5 c0_5 l0_5 A1_5 c1_5 l1_5 true _ (zS hr0_5 (by repeat (first | (with_reducible first | exact HB.out | apply zB | apply zC | apply zD) | exact HB.out))) hc0_5 (zS hr1_5 (by repeat (first | (with_reducible first | exact HB.out | apply zB | apply zC | apply zD) | exact HB.out))) hc1_5 h5).mono ?_; rintro e w5 ⟨rfl, hd⟩; have hb := drawn_below hd; clear hd; have NX := zA (zM BX.out hb); have NY := zA (zM BY.out hb); have NB := zA (zG (by repeat (first | (with_reducible first | exact HB.out | apply zB | apply zC | apply zD) | exact HB.out)) hb); clear hb HB BX BY; have BX := NX; have HB := NB; clear NX NB; have BY := NY; clear NY; have x0 : w5.cell? ⟨w.heap.size, 0, none⟩ = some (.int .i64 a0_0) := (zK BX.out 0).trans rfl; have x1 : w5.cell? ⟨w.heap.size, 1, none⟩ = some (.int .i64 a0_1) := (zK BX.out 1).trans rfl; have x2 : w5.cell? ⟨w.heap.size, 2, none⟩ = some (.slice A0_2 l0_2.length c0_2) := (zK BX.out 2).trans rfl; have x3 : w5.cell? ⟨w.heap.size, 3, none⟩ = some (.slice A0_3 l0_3.length c0_3) := (zK BX.out 3).trans rfl; have x4 : w5.cell? ⟨w.heap.size, 4, none⟩ = some (.slice A0_4 l0_4.length c0_4) := (zK BX.out 4).trans rfl; have x5 : w5.cell? ⟨w.heap.size, 5, none⟩ = some (.slice A0_5 l0_5.length c0_5) := (zK BX.out 5).trans rfl; have y0 : w5.cell? ⟨w.heap.size + 1, 0, none⟩ = some (.int .i64 a0_0) := (zK (by have := BY.out; (try simp at this); exact this) 0).trans rfl; have y1 : w5.cell? ⟨w.heap.size + 1, 1, none⟩ = some (.int .i64 a0_1) := (zK (by have := BY.out; (try simp at this); exact this) 1).trans rfl; have y2 : w5.cell? ⟨w.heap.size + 1, 2, none⟩ = some (.slice A1_2 l1_2.length c1_2) := (zK (by have := BY.out; (try simp at this); exact this) 2).trans rfl; have y3 : w5.cell? ⟨w.heap.size + 1, 3, none⟩ = some (.slice A1_3 l1_3.length c1_3) := (zK (by have := BY.out; (try simp at this); exact this) 3).trans rfl; have y4 : w5.cell? ⟨w.heap.size + 1, 4, none⟩ = some (.slice A1_4 l1_4.length c1_4) := (zK (by have := BY.out; (try simp at this); exact this) 4).trans rfl; have y5 : w5.cell? ⟨w.heap.size + 1, 5, none⟩ = some (.slice A1_5 l1_5.length c1_5) := (zK (by have := BY.out; (try simp at this); exact this) 5).trans rfl; go_wp2; go_ret; exact ⟨rfl, by repeat (first | (with_reducible first | exact HB.out | apply zB | apply zC | apply zD) | exact HB.out)⟩
end Go.Proofs.Ytpcbjhfgfmmneaa.P
namespace Go.Proofs.Ytpcbjhfgfmmneaa.P
open Go.RowKit Go.Proofs.YtpcbjhfgfmmneaaW.PrintWords Go.Proofs.YtpcbjhfgfmmneaaW.PrintLast Go.Proofs.YtpcbjhfgfmmneaaW.PrintMore
attribute [local go_sem] max2_int min2_int max_two min_two max_three min_three max_four min_four
set_option linter.unusedVariables false
set_option linter.unusedSimpArgs false
def cmp_isNaN_int.f (a0 : Int) : Option (Bool) := some (a0 != a0)
set_option maxHeartbeats 8000000 in
set_option maxRecDepth 100000 in
theorem cmp_isNaN_int.calls (a0 : Int) (r : Bool) (w : World) (h : cmp_isNaN_int.f a0 = some r) :
 Calls Try.prog 104 #[.int .i64 a0] w fun e w' => e = .returned (.bool r) ∧ Drawn0 w w' := by
 have H : (some (a0 != a0)) = some r := h; clear h; obtain rfl := Option.some.inj H; go_enter Try.func104, Try.ntmps104; go_wp2; go_ret; exact ⟨by first | rfl | (simp; done) | (simp [*]; done), by repeat (first | exact Drawn0.refl _ | apply Drawn0.step)⟩
def cmp_Compare_int.f (a0 : Int) (a1 : Int) : Option (Int) := (cmp_isNaN_int.f a0).bind fun t101 => ((cmp_isNaN_int.f a1).bind fun t102 => (if t101 = true then (if t102 = true then (some 0) else (some (-1))) else (if t102 = true then (some 1) else (if a0 < a1 then (some (-1)) else (if a0 > a1 then (some 1) else (some 0))))))
set_option maxHeartbeats 8000000 in
set_option maxRecDepth 100000 in
theorem cmp_Compare_int.calls (a0 : Int) (a1 : Int) (r : Int) (w : World) (h : cmp_Compare_int.f a0 a1 = some r) :
 Calls Try.prog 95 #[.int .i64 a0, .int .i64 a1] w fun e w' => e = .returned (.int .i64 r) ∧ Drawn0 w w' := by
 have H : ((cmp_isNaN_int.f a0).bind fun t101 => ((cmp_isNaN_int.f a1).bind fun t102 => (if t101 = true then (if t102 = true then (some 0) else (some (-1))) else (if t102 = true then (some 1) else (if a0 < a1 then (some (-1)) else (if a0 > a1 then (some 1) else (some 0))))))) = some r := h; clear h; replace H := Option.bind_eq_some_iff.mp H; obtain ⟨t101, A30, H⟩ := H; replace H : ((cmp_isNaN_int.f a1).bind fun t102 => (if t101 = true then (if t102 = true then (some 0) else (some (-1))) else (if t102 = true then (some 1) else (if a0 < a1 then (some (-1)) else (if a0 > a1 then (some 1) else (some 0)))))) = some r := H; have A3 := zA A30; clear A30; replace H := Option.bind_eq_some_iff.mp H; obtain ⟨t102, A40, H⟩ := H; replace H : (if t101 = true then (if t102 = true then (some 0) else (some (-1))) else (if t102 = true then (some 1) else (if a0 < a1 then (some (-1)) else (if a0 > a1 then (some 1) else (some 0))))) = some r := H; have A4 := zA A40; clear A40; by_cases c5 : t101 = true
 · subst c5; have H1 : (if t102 = true then (some 0) else (some (-1))) = some r := by rw [if_pos rfl] at H; exact H
   clear H; have H := H1; clear H1; by_cases c6 : t102 = true
   · subst c6; have H1 : (some 0) = some r := by rw [if_pos rfl] at H; exact H
     clear H; have H := H1; clear H1; obtain rfl := Option.some.inj H; go_enter Try.func95, Try.ntmps95; go_wp2_with (first | ((with_reducible refine gate_callee (f := 104) rfl ?_); refine goesL_ (some 8) rfl rfl Try.func104 (by kernel_rfl) rfl #[.int .i64 a0] rfl (by (try simp only [List.map_toArray, List.map_cons, List.map_nil]); first | done | rfl | (simp only [List.length_drop, List.length_take]; rfl)) ?_; (with_reducible refine (cmp_isNaN_int.calls a0 true _ A3.out).mono ?_); rintro e w' ⟨rfl, ⟨nd, rfl⟩⟩; refine ⟨_, rfl, ?_⟩) | ((with_reducible refine gate_callee (f := 104) rfl ?_); refine goesL_ (some 10) rfl rfl Try.func104 (by kernel_rfl) rfl #[.int .i64 a1] rfl (by (try simp only [List.map_toArray, List.map_cons, List.map_nil]); first | done | rfl | (simp only [List.length_drop, List.length_take]; rfl)) ?_; (with_reducible refine (cmp_isNaN_int.calls a1 true _ A4.out).mono ?_); rintro e w' ⟨rfl, ⟨nd, rfl⟩⟩; refine ⟨_, rfl, ?_⟩)); go_ret; exact ⟨by first | rfl | (simp; done) | (simp [*]; done), by repeat (first | exact Drawn0.refl _ | apply Drawn0.step)⟩
   · replace c6 := Bool.eq_false_iff.mpr c6; subst c6; have H1 : (some (-1)) = some r := by rw [if_neg (show ¬ (false = true) by decide)] at H; exact H
     clear H; have H := H1; clear H1; obtain rfl := Option.some.inj H; go_enter Try.func95, Try.ntmps95; go_wp2_with (first | ((with_reducible refine gate_callee (f := 104) rfl ?_); refine goesL_ (some 8) rfl rfl Try.func104 (by kernel_rfl) rfl #[.int .i64 a0] rfl (by (try simp only [List.map_toArray, List.map_cons, List.map_nil]); first | done | rfl | (simp only [List.length_drop, List.length_take]; rfl)) ?_; (with_reducible refine (cmp_isNaN_int.calls a0 true _ A3.out).mono ?_); rintro e w' ⟨rfl, ⟨nd, rfl⟩⟩; refine ⟨_, rfl, ?_⟩) | ((with_reducible refine gate_callee (f := 104) rfl ?_); refine goesL_ (some 10) rfl rfl Try.func104 (by kernel_rfl) rfl #[.int .i64 a1] rfl (by (try simp only [List.map_toArray, List.map_cons, List.map_nil]); first | done | rfl | (simp only [List.length_drop, List.length_take]; rfl)) ?_; (with_reducible refine (cmp_isNaN_int.calls a1 false _ A4.out).mono ?_); rintro e w' ⟨rfl, ⟨nd, rfl⟩⟩; refine ⟨_, rfl, ?_⟩)); go_ret; exact ⟨by first | rfl | (simp; done) | (simp [*]; done), by repeat (first | exact Drawn0.refl _ | apply Drawn0.step)⟩
 · replace c5 := Bool.eq_false_iff.mpr c5; subst c5; have H1 : (if t102 = true then (some 1) else (if a0 < a1 then (some (-1)) else (if a0 > a1 then (some 1) else (some 0)))) = some r := by rw [if_neg (show ¬ (false = true) by decide)] at H; exact H
   clear H; have H := H1; clear H1; by_cases c7 : t102 = true
   · subst c7; have H1 : (some 1) = some r := by rw [if_pos rfl] at H; exact H
     clear H; have H := H1; clear H1; obtain rfl := Option.some.inj H; go_enter Try.func95, Try.ntmps95; go_wp2_with (first | ((with_reducible refine gate_callee (f := 104) rfl ?_); refine goesL_ (some 8) rfl rfl Try.func104 (by kernel_rfl) rfl #[.int .i64 a0] rfl (by (try simp only [List.map_toArray, List.map_cons, List.map_nil]); first | done | rfl | (simp only [List.length_drop, List.length_take]; rfl)) ?_; (with_reducible refine (cmp_isNaN_int.calls a0 false _ A3.out).mono ?_); rintro e w' ⟨rfl, ⟨nd, rfl⟩⟩; refine ⟨_, rfl, ?_⟩) | ((with_reducible refine gate_callee (f := 104) rfl ?_); refine goesL_ (some 10) rfl rfl Try.func104 (by kernel_rfl) rfl #[.int .i64 a1] rfl (by (try simp only [List.map_toArray, List.map_cons, List.map_nil]); first | done | rfl | (simp only [List.length_drop, List.length_take]; rfl)) ?_; (with_reducible refine (cmp_isNaN_int.calls a1 true _ A4.out).mono ?_); rintro e w' ⟨rfl, ⟨nd, rfl⟩⟩; refine ⟨_, rfl, ?_⟩)); go_ret; exact ⟨by first | rfl | (simp; done) | (simp [*]; done), by repeat (first | exact Drawn0.refl _ | apply Drawn0.step)⟩
   · replace c7 := Bool.eq_false_iff.mpr c7; subst c7; have H1 : (if a0 < a1 then (some (-1)) else (if a0 > a1 then (some 1) else (some 0))) = some r := by rw [if_neg (show ¬ (false = true) by decide)] at H; exact H
     clear H; have H := H1; clear H1; by_cases c8 : a0 < a1
     · rw [if_pos c8] at H; have c8b0 : decide (a0 < a1) = true := decide_eq_true c8; clear c8; obtain rfl := Option.some.inj H; go_enter Try.func95, Try.ntmps95; go_wp2_with (first | ((with_reducible refine gate_callee (f := 104) rfl ?_); refine goesL_ (some 8) rfl rfl Try.func104 (by kernel_rfl) rfl #[.int .i64 a0] rfl (by (try simp only [List.map_toArray, List.map_cons, List.map_nil]); first | done | rfl | (simp only [List.length_drop, List.length_take]; rfl)) ?_; (with_reducible refine (cmp_isNaN_int.calls a0 false _ A3.out).mono ?_); rintro e w' ⟨rfl, ⟨nd, rfl⟩⟩; refine ⟨_, rfl, ?_⟩) | ((with_reducible refine gate_callee (f := 104) rfl ?_); refine goesL_ (some 10) rfl rfl Try.func104 (by kernel_rfl) rfl #[.int .i64 a1] rfl (by (try simp only [List.map_toArray, List.map_cons, List.map_nil]); first | done | rfl | (simp only [List.length_drop, List.length_take]; rfl)) ?_; (with_reducible refine (cmp_isNaN_int.calls a1 false _ A4.out).mono ?_); rintro e w' ⟨rfl, ⟨nd, rfl⟩⟩; refine ⟨_, rfl, ?_⟩)); go_ret; exact ⟨by first | rfl | (simp; done) | (simp [*]; done), by repeat (first | exact Drawn0.refl _ | apply Drawn0.step)⟩
     · rw [if_neg c8] at H; have c8b0 : decide (a0 < a1) = false := decide_eq_false c8; clear c8; by_cases c9 : a0 > a1
       · rw [if_pos c9] at H; have c9b0 : decide (a1 < a0) = true := decide_eq_true c9; clear c9; obtain rfl := Option.some.inj H; go_enter Try.func95, Try.ntmps95; go_wp2_with (first | ((with_reducible refine gate_callee (f := 104) rfl ?_); refine goesL_ (some 8) rfl rfl Try.func104 (by kernel_rfl) rfl #[.int .i64 a0] rfl (by (try simp only [List.map_toArray, List.map_cons, List.map_nil]); first | done | rfl | (simp only [List.length_drop, List.length_take]; rfl)) ?_; (with_reducible refine (cmp_isNaN_int.calls a0 false _ A3.out).mono ?_); rintro e w' ⟨rfl, ⟨nd, rfl⟩⟩; refine ⟨_, rfl, ?_⟩) | ((with_reducible refine gate_callee (f := 104) rfl ?_); refine goesL_ (some 10) rfl rfl Try.func104 (by kernel_rfl) rfl #[.int .i64 a1] rfl (by (try simp only [List.map_toArray, List.map_cons, List.map_nil]); first | done | rfl | (simp only [List.length_drop, List.length_take]; rfl)) ?_; (with_reducible refine (cmp_isNaN_int.calls a1 false _ A4.out).mono ?_); rintro e w' ⟨rfl, ⟨nd, rfl⟩⟩; refine ⟨_, rfl, ?_⟩)); go_ret; exact ⟨by first | rfl | (simp; done) | (simp [*]; done), by repeat (first | exact Drawn0.refl _ | apply Drawn0.step)⟩
       · rw [if_neg c9] at H; have c9b0 : decide (a1 < a0) = false := decide_eq_false c9; clear c9; obtain rfl := Option.some.inj H; go_enter Try.func95, Try.ntmps95; go_wp2_with (first | ((with_reducible refine gate_callee (f := 104) rfl ?_); refine goesL_ (some 8) rfl rfl Try.func104 (by kernel_rfl) rfl #[.int .i64 a0] rfl (by (try simp only [List.map_toArray, List.map_cons, List.map_nil]); first | done | rfl | (simp only [List.length_drop, List.length_take]; rfl)) ?_; (with_reducible refine (cmp_isNaN_int.calls a0 false _ A3.out).mono ?_); rintro e w' ⟨rfl, ⟨nd, rfl⟩⟩; refine ⟨_, rfl, ?_⟩) | ((with_reducible refine gate_callee (f := 104) rfl ?_); refine goesL_ (some 10) rfl rfl Try.func104 (by kernel_rfl) rfl #[.int .i64 a1] rfl (by (try simp only [List.map_toArray, List.map_cons, List.map_nil]); first | done | rfl | (simp only [List.length_drop, List.length_take]; rfl)) ?_; (with_reducible refine (cmp_isNaN_int.calls a1 false _ A4.out).mono ?_); rintro e w' ⟨rfl, ⟨nd, rfl⟩⟩; refine ⟨_, rfl, ?_⟩)); go_ret; exact ⟨by first | rfl | (simp; done) | (simp [*]; done), by repeat (first | exact Drawn0.refl _ | apply Drawn0.step)⟩
def slices_Compare_int_int.l0 : Nat → List Int → List Int → List Int → Int → Int → Option (Int)
 | 0, _, _, _, _, _ => none
 | k + 1, x0, x1, x9, x10, x11 => if x11 < x10 then (if 0 ≤ x11 then (if x11 < (x9.length : Int) then (if x11 ≥ (x1.length : Int) then (some 1) else (if x11 < (x1.length : Int) then ((cmp_Compare_int.f (rd x9 x11) (rd x1 x11)).bind fun t103 => (if t103 = 0 then (slices_Compare_int_int.l0 k x0 x1 x9 x10 (wrap64 (x11 + 1))) else (some t103))) else (none))) else (none)) else (none)) else (if (x0.length : Int) < (x1.length : Int) then (some (-1)) else (some 0))
def slices_Compare_int_int.f (k : Nat) (l0 : List Int) (l1 : List Int) : Option (Int) := slices_Compare_int_int.l0 k l0 l1 l0 (l0.length : Int) 0
set_option maxHeartbeats 8000000 in
set_option maxRecDepth 100000 in
theorem slices_Compare_int_int.calls (k : Nat) (A0 : Option Addr) (c0 : Nat) (l0 : List Int) (A1 : Option Addr) (c1 : Nat) (l1 : List Int) (r : Int) (w : World) (hr0 : Kd.C (Kd.int .i64) w A0 l0.length l0) (hc0 : l0.length ≤ c0) (hr1 : Kd.C (Kd.int .i64) w A1 l1.length l1) (hc1 : l1.length ≤ c1) (h : slices_Compare_int_int.f k l0 l1 = some r) :
 Calls Try.prog 66 #[.slice A0 l0.length c0, .slice A1 l1.length c1] w fun e w' => e = .returned (.int .i64 r) ∧ Drawn0 w w' := by
 have HR0 := zA hr0; have HC0 := zA hc0; clear hr0 hc0; have HR1 := zA hr1; have HC1 := zA hc1; clear hr1 hc1; have H : (slices_Compare_int_int.l0 k l0 l1 l0 (l0.length : Int) 0) = some r := h; clear h; have H' := zA H; clear H; go_enter Try.func66, Try.ntmps66; go_wp2; go_loopg [11] k (fun kq v11 w' => ∃ (x11_1 : Int), v11 = .int .i64 x11_1 ∧ Aside0 (slices_Compare_int_int.l0 kq l0 l1 l0 (l0.length : Int) x11_1 = some r) ∧ Aside0 (kq ≤ k) ∧ Drawn0 w w')
 case atStart => exact ⟨(0), (by first | rfl | (simp; done) | (simp [*]; done)), H', ⟨Nat.le_refl _⟩, by repeat (first | exact Drawn0.refl _ | apply Drawn0.step)⟩
 case round =>
  clear H'; (try clear c1); (try clear p2); obtain ⟨x11_1, rfl, HA, HK1, ⟨m1, rfl⟩⟩ := hrel; cases gk with
  | zero => exact absurd HA.out (by simp [slices_Compare_int_int.l0])
  | succ k1 =>
   have H := HA.out; clear HA; simp only [slices_Compare_int_int.l0] at H; by_cases c3 : x11_1 < (l0.length : Int)
   · rw [if_pos c3] at H; have c3b0 : decide (x11_1 < (l0.length : Int)) = true := decide_eq_true c3; clear c3; by_cases c4 : 0 ≤ x11_1
     · rw [if_pos c4] at H; have c4b0 : decide (0 ≤ x11_1) = true := decide_eq_true c4; clear c4; by_cases c5 : x11_1 < (l0.length : Int)
       · rw [if_pos c5] at H; have c5b0 : decide (x11_1 < (l0.length : Int)) = true := decide_eq_true c5; clear c5; by_cases c6 : x11_1 ≥ (l1.length : Int)
         · rw [if_pos c6] at H; have c6b0 : decide ((l1.length : Int) ≤ x11_1) = true := decide_eq_true c6; clear c6; obtain rfl := Option.some.inj H; have p101 : 0 ≤ (x11_1 : Int) := of_decide_eq_true (by assumption); have q101 : x11_1 < (l0.length : Int) := of_decide_eq_true (by assumption); obtain ⟨ad101, e101, hx101_0⟩ := Kd.at_int HR0.out x11_1 p101 q101; cases e101; replace p101 := eq_true p101; replace q101 := eq_true q101; go_wp2; go_ret; exact ⟨by first | rfl | (simp; done) | (simp [*]; done), by repeat (first | exact Drawn0.refl _ | apply Drawn0.step)⟩
         · rw [if_neg c6] at H; have c6b0 : decide ((l1.length : Int) ≤ x11_1) = false := decide_eq_false c6; clear c6; by_cases c7 : x11_1 < (l1.length : Int)
           · rw [if_pos c7] at H; have c7b0 : decide (x11_1 < (l1.length : Int)) = true := decide_eq_true c7; clear c7; replace H := Option.bind_eq_some_iff.mp H; obtain ⟨t103, A80, H⟩ := H; replace H : (if t103 = 0 then (slices_Compare_int_int.l0 k1 l0 l1 l0 (l0.length : Int) (wrap64 (x11_1 + 1))) else (some t103)) = some r := H; have A8 := zA A80; clear A80; by_cases c9 : t103 = 0
             · rw [if_pos c9] at H; have c9b0 : (t103 == 0) = true := beq_iff_eq.mpr c9; have c9b1 : (t103 != 0) = false := bne_eq_false_iff_eq.mpr c9; clear c9; have H' := zA H; clear H; have p101 : 0 ≤ (x11_1 : Int) := of_decide_eq_true (by assumption); have q101 : x11_1 < (l0.length : Int) := of_decide_eq_true (by assumption); obtain ⟨ad101, e101, hx101_0⟩ := Kd.at_int HR0.out x11_1 p101 q101; cases e101; replace p101 := eq_true p101; replace q101 := eq_true q101; have p102 : 0 ≤ (x11_1 : Int) := of_decide_eq_true (by assumption); have q102 : x11_1 < (l1.length : Int) := of_decide_eq_true (by assumption); obtain ⟨ad102, e102, hx102_0⟩ := Kd.at_int HR1.out x11_1 p102 q102; cases e102; replace p102 := eq_true p102; replace q102 := eq_true q102; go_wp2_with (first | ((with_reducible refine gate_callee (f := 95) rfl ?_); refine goesL_ (some 26) rfl rfl Try.func95 (by kernel_rfl) rfl #[.int .i64 (rd l0 x11_1), .int .i64 (rd l1 x11_1)] rfl (by (try simp only [List.map_toArray, List.map_cons, List.map_nil]); first | done | rfl | (simp only [List.length_drop, List.length_take]; rfl)) ?_; (with_reducible refine (cmp_Compare_int.calls (rd l0 x11_1) (rd l1 x11_1) t103 _ A8.out).mono ?_); rintro e w' ⟨rfl, ⟨nd, rfl⟩⟩; refine ⟨_, rfl, ?_⟩))
               go_roundg k1
               case measure => have := HK1.out; omega
               case rel => exact ⟨(wrap64 (x11_1 + 1)), (by first | rfl | (simp; done) | (simp [*]; done)), H', ⟨by have := HK1.out; omega⟩, by repeat (first | exact Drawn0.refl _ | apply Drawn0.step)⟩
             · rw [if_neg c9] at H; have c9b0 : (t103 == 0) = false := beq_eq_false_iff_ne.mpr c9; have c9b1 : (t103 != 0) = true := bne_iff_ne.mpr c9; obtain rfl := Option.some.inj H; have p101 : 0 ≤ (x11_1 : Int) := of_decide_eq_true (by assumption); have q101 : x11_1 < (l0.length : Int) := of_decide_eq_true (by assumption); obtain ⟨ad101, e101, hx101_0⟩ := Kd.at_int HR0.out x11_1 p101 q101; cases e101; replace p101 := eq_true p101; replace q101 := eq_true q101; have p102 : 0 ≤ (x11_1 : Int) := of_decide_eq_true (by assumption); have q102 : x11_1 < (l1.length : Int) := of_decide_eq_true (by assumption); obtain ⟨ad102, e102, hx102_0⟩ := Kd.at_int HR1.out x11_1 p102 q102; cases e102; replace p102 := eq_true p102; replace q102 := eq_true q102; go_wp2_with (first | ((with_reducible refine gate_callee (f := 95) rfl ?_); refine goesL_ (some 26) rfl rfl Try.func95 (by kernel_rfl) rfl #[.int .i64 (rd l0 x11_1), .int .i64 (rd l1 x11_1)] rfl (by (try simp only [List.map_toArray, List.map_cons, List.map_nil]); first | done | rfl | (simp only [List.length_drop, List.length_take]; rfl)) ?_; (with_reducible refine (cmp_Compare_int.calls (rd l0 x11_1) (rd l1 x11_1) t103 _ A8.out).mono ?_); rintro e w' ⟨rfl, ⟨nd, rfl⟩⟩; refine ⟨_, rfl, ?_⟩)); go_ret; exact ⟨by first | rfl | (simp; done) | (simp [*]; done), by repeat (first | exact Drawn0.refl _ | apply Drawn0.step)⟩
           · rw [if_neg c7] at H; exact absurd H (by simp)
       · rw [if_neg c5] at H; exact absurd H (by simp)
     · rw [if_neg c4] at H; exact absurd H (by simp)
   · rw [if_neg c3] at H; have c3b0 : decide (x11_1 < (l0.length : Int)) = false := decide_eq_false c3; clear c3; by_cases c10 : (l0.length : Int) < (l1.length : Int)
     · rw [if_pos c10] at H; have c10b0 : decide ((l0.length : Int) < (l1.length : Int)) = true := decide_eq_true c10; have c10b1 : decide (l0.length < l1.length) = true := decide_eq_true (Int.ofNat_lt.mp c10); clear c10; obtain rfl := Option.some.inj H; go_wp2; go_ret; exact ⟨by first | rfl | (simp; done) | (simp [*]; done), by repeat (first | exact Drawn0.refl _ | apply Drawn0.step)⟩
     · rw [if_neg c10] at H; have c10b0 : decide ((l0.length : Int) < (l1.length : Int)) = false := decide_eq_false c10; have c10b1 : decide (l0.length < l1.length) = false := decide_eq_false (fun h => c10 (Int.ofNat_lt.mpr h)); clear c10; obtain rfl := Option.some.inj H; go_wp2; go_ret; exact ⟨by first | rfl | (simp; done) | (simp [*]; done), by repeat (first | exact Drawn0.refl _ | apply Drawn0.step)⟩
def impl_areRising.l0 : Nat → List Int → Int → List Int → Int → Int → Option (Bool)
 | 0, _, _, _, _, _ => none
 | k + 1, x0, x1, x7, x8, x9 => if x9 < x8 then (if 0 ≤ x9 then (if x9 < (x7.length : Int) then ((impl_in.f (rd x7 x9) 0 (wrap64 (x1 - 1))).bind fun t102 => (if t102 = true then (if x9 > 0 then (if 0 ≤ (wrap64 (x9 - 1)) then (if (wrap64 (x9 - 1)) < (x0.length : Int) then (if (rd x0 (wrap64 (x9 - 1))) ≥ (rd x7 x9) then (some false) else (impl_areRising.l0 k x0 x1 x7 x8 (wrap64 (x9 + 1)))) else (none)) else (none)) else (impl_areRising.l0 k x0 x1 x7 x8 (wrap64 (x9 + 1)))) else (some false))) else (none)) else (none)) else (some true)
def impl_areRising.f (k : Nat) (l0 : List Int) (a1 : Int) : Option (Bool) := impl_areRising.l0 k l0 a1 l0 (l0.length : Int) 0
def spec_l1In.f (a0 : Int) (a1 : Int) (a2 : Int) : Option (Bool) := if a0 ≥ a1 then (some (decide (a0 ≤ a2))) else (some false)
set_option maxHeartbeats 8000000 in
set_option maxRecDepth 100000 in
theorem spec_l1In.calls (a0 : Int) (a1 : Int) (a2 : Int) (r : Bool) (w : World) (h : spec_l1In.f a0 a1 a2 = some r) :
 Calls Try.prog 53 #[.int .i64 a0, .int .i64 a1, .int .i64 a2] w fun e w' => e = .returned (.bool r) ∧ Drawn0 w w' := by
 have H : (if a0 ≥ a1 then (some (decide (a0 ≤ a2))) else (some false)) = some r := h; clear h; by_cases c4 : a0 ≥ a1
 · rw [if_pos c4] at H; have c4b0 : decide (a1 ≤ a0) = true := decide_eq_true c4; clear c4; obtain rfl := Option.some.inj H; go_enter Try.func53, Try.ntmps53; go_wp2; go_ret; exact ⟨by first | rfl | (simp; done) | (simp [*]; done), by repeat (first | exact Drawn0.refl _ | apply Drawn0.step)⟩
 · rw [if_neg c4] at H; have c4b0 : decide (a1 ≤ a0) = false := decide_eq_false c4; clear c4; obtain rfl := Option.some.inj H; go_enter Try.func53, Try.ntmps53; go_wp2; go_ret; exact ⟨by first | rfl | (simp; done) | (simp [*]; done), by repeat (first | exact Drawn0.refl _ | apply Drawn0.step)⟩
def spec_l1Rising.l0 : Nat → List Int → Int → Int → List Int → Int → Int → Option (Bool)
 | 0, _, _, _, _, _, _ => none
 | k + 1, x0, x1, x2, x9, x10, x11 => if x11 < x10 then (if 0 ≤ x11 then (if x11 < (x9.length : Int) then ((spec_l1In.f (rd x9 x11) x1 x2).bind fun t102 => (if t102 = true then (if x11 > 0 then (if 0 ≤ (wrap64 (x11 - 1)) then (if (wrap64 (x11 - 1)) < (x0.length : Int) then (if (rd x0 (wrap64 (x11 - 1))) ≥ (rd x9 x11) then (some false) else (spec_l1Rising.l0 k x0 x1 x2 x9 x10 (wrap64 (x11 + 1)))) else (none)) else (none)) else (spec_l1Rising.l0 k x0 x1 x2 x9 x10 (wrap64 (x11 + 1)))) else (some false))) else (none)) else (none)) else (some true)
def spec_l1Rising.f (k : Nat) (l0 : List Int) (a1 : Int) (a2 : Int) : Option (Bool) := spec_l1Rising.l0 k l0 a1 a2 l0 (l0.length : Int) 0
end Go.Proofs.Ytpcbjhfgfmmneaa.P
namespace Go.Proofs.Ytpcbjhfgfmmneaa.P
open Go.RowKit Go.Proofs.YtpcbjhfgfmmneaaW.PrintWords
set_option linter.unusedVariables false
set_option linter.unusedSimpArgs false
def cmpL : List Int → List Int → Int
 | [], [] => 0
 | [], _ :: _ => -1
 | _ :: _, [] => 1
 | a :: l, b :: m => if a < b then -1 else if b < a then 1 else cmpL l m
theorem cmpInt_eq (a b : Int) : cmp_Compare_int.f a b = some (if a < b then -1 else if b < a then 1 else 0) := by
 unfold cmp_Compare_int.f cmp_isNaN_int.f; simp only [Option.bind_some, bne_self_eq_false, Bool.false_eq_true, if_false]; by_cases h1 : a < b
 · simp [h1]
 · by_cases h2 : b < a
   · simp [h1, h2]
   · simp [h1, h2]
theorem compare_loop (a b : List Int) (hb : a.length ≤ 9223372036854775807) (d : Nat) : ∀ (k i : Nat), i ≤ a.length → i ≤ b.length → a.length - i = d → d < k →
 slices_Compare_int_int.l0 k a b a a.length i = some (cmpL (a.drop i) (b.drop i)) := by
 induction d with
 | zero =>
  intro k i h1 h2 hd hk; obtain ⟨k, rfl⟩ : ∃ m, k = m + 1 := ⟨k - 1, by omega⟩
  simp only [slices_Compare_int_int.l0]; rw [if_neg (by omega), List.drop_of_length_le (show a.length ≤ i by omega)]; by_cases hl : a.length < b.length
  · rw [if_pos (by omega), getD_drop b i 0 (by omega)]; rfl
  · rw [if_neg (by omega), List.drop_of_length_le (show b.length ≤ i by omega)]; rfl
 | succ d ih =>
  intro k i h1 h2 hd hk; obtain ⟨k, rfl⟩ : ∃ m, k = m + 1 := ⟨k - 1, by omega⟩
  simp only [slices_Compare_int_int.l0]; rw [if_pos (by omega), if_pos (by omega), if_pos (by omega)]; have ea : a.drop i = rd a i :: a.drop (i + 1) := getD_drop a i 0 (by omega); by_cases hl : i < b.length
  · have eb : b.drop i = rd b i :: b.drop (i + 1) := getD_drop b i 0 (by omega); rw [if_neg (by omega), if_pos (by omega), cmpInt_eq, ea, eb]; simp only [Option.bind_some, cmpL]; by_cases h3 : rd a i < rd b i
    · rw [if_pos h3, if_pos h3, if_neg (by decide)]
    · by_cases h4 : rd b i < rd a i
      · rw [if_neg h3, if_pos h4, if_neg h3, if_pos h4, if_neg (by decide)]
      · rw [if_neg h3, if_neg h4, if_neg h3, if_neg h4, if_pos rfl, show wrap64 ((i : Int) + 1) = ((i + 1 : Nat) : Int) by unfold wrap64; omega]; exact ih k (i + 1) (by omega) (by omega) (by omega) (by omega)
  · rw [if_pos (by omega), ea, List.drop_of_length_le (show b.length ≤ i by omega)]; rfl
theorem compare_eq (a b : List Int) (hb : a.length ≤ 9223372036854775807) (k : Nat) (hk : a.length < k) : slices_Compare_int_int.f k a b = some (cmpL a b) := by
 unfold slices_Compare_int_int.f; have := compare_loop a b hb a.length k 0 (by omega) (by omega) (by omega) hk; simpa using this
def riseF (lo hi : Int) : Option Int → List Int → Bool
 | _, [] => true
 | p, x :: l => decide (lo ≤ x ∧ x ≤ hi) && ((match p with | none => true | some y => decide (y < x)) && riseF lo hi (some x) l)
def prevI (l : List Int) : Nat → Option Int
 | 0 => none
 | i + 1 => some (rd l i)
def rowOk (nons toks many : Int) (x : List Int) : Bool := decide ((x.length : Int) = many) && (decide (0 ≤ rd x 0 ∧ rd x 0 ≤ wrap64 (nons - 1)) && !((x.drop 1).any fun y => !symB nons toks y))
def listsF (nons toks many : Int) : Option (List Int) → List (List Int) → Bool
 | _, [] => true
 | p, x :: l => rowOk nons toks many x && ((match p with | none => true | some y => decide (cmpL y x < 0)) && listsF nons toks many (some x) l)
def prevL (l : List (List Int)) : Nat → Option (List Int)
 | 0 => none
 | i + 1 => some (l.getD i [])
def goodB (nons toks : Int) (ps os : List (List Int)) (es : List Int) (fs : List (List Int)) : Bool :=
 decide (1 ≤ nons ∧ nons ≤ 40) && (decide (1 ≤ toks ∧ toks ≤ 4) && (riseF 0 (wrap64 (nons - 1)) none es && (decide ((fs.length : Int) ≤ nons) && (!(fs.any fun f => (f.length : Int) != 2) && (listsF nons toks 3 none ps && listsF nons toks 2 none os)))))
theorem rise_ext {α : Type} (lt : α → α → Prop) (irr : ∀ x, ¬ lt x x) (tr : ∀ x y z, lt x y → lt y z → lt x z) : ∀ {a b : List α}, a.Pairwise lt → b.Pairwise lt → (∀ x, x ∈ a ↔ x ∈ b) → a = b
 | [], [], _, _, _ => rfl
 | [], y :: b, _, _, h => absurd ((h y).2 List.mem_cons_self) (by simp)
 | x :: a, [], _, _, h => absurd ((h x).1 List.mem_cons_self) (by simp)
 | x :: a, y :: b, ha, hb, h => by
  obtain ⟨ha1, ha2⟩ := List.pairwise_cons.1 ha; obtain ⟨hb1, hb2⟩ := List.pairwise_cons.1 hb; have e : x = y := by
   rcases List.mem_cons.1 ((h x).1 List.mem_cons_self) with h1 | h1
   · exact h1
   · rcases List.mem_cons.1 ((h y).2 List.mem_cons_self) with h2 | h2
     · exact h2.symm
     · exact absurd (tr _ _ _ (ha1 y h2) (hb1 x h1)) (irr x)
  subst e; rw [rise_ext lt irr tr ha2 hb2 fun z => ⟨fun hz => ?_, fun hz => ?_⟩]
  · rcases List.mem_cons.1 ((h z).1 (List.mem_cons_of_mem _ hz)) with h1 | h1
    · subst h1; exact absurd (ha1 z hz) (irr z)
    · exact h1
  · rcases List.mem_cons.1 ((h z).2 (List.mem_cons_of_mem _ hz)) with h1 | h1
    · subst h1; exact absurd (hb1 z hz) (irr z)
    · exact h1
def UpI (l : List Int) : Prop := l.Pairwise (· < ·)
theorem upI_ext {a b : List Int} (ha : UpI a) (hb : UpI b) (h : ∀ x, x ∈ a ↔ x ∈ b) : a = b := rise_ext (· < ·) (fun x h => by omega) (fun x y z h1 h2 => by omega) ha hb h
def putI : List Int → Int → List Int
 | [], n => [n]
 | a :: l, n => if a < n then a :: putI l n else if a = n then a :: l else n :: a :: l
theorem mem_putI (l : List Int) (n x : Int) : x ∈ putI l n ↔ x = n ∨ x ∈ l := by
 induction l with
 | nil => simp [putI]
 | cons a l ih =>
  simp only [putI]; by_cases h1 : a < n
  · rw [if_pos h1, List.mem_cons, ih, List.mem_cons]; exact ⟨fun h => h.elim (fun h => .inr (.inl h)) (fun h => h.elim .inl (fun h => .inr (.inr h))), fun h => h.elim (fun h => .inr (.inl h)) (fun h => h.elim .inl (fun h => .inr (.inr h)))⟩
  · rw [if_neg h1]; by_cases h2 : a = n
    · rw [if_pos h2]; subst h2; exact ⟨.inr, fun h => h.elim (fun h => by subst h; exact List.mem_cons_self) id⟩
    · rw [if_neg h2, List.mem_cons]
theorem upI_put (l : List Int) (n : Int) (h : UpI l) : UpI (putI l n) := by
 induction l with
 | nil => exact List.pairwise_singleton _ _
 | cons a l ih =>
  obtain ⟨h1, h2⟩ := List.pairwise_cons.1 h; simp only [putI]; by_cases h3 : a < n
  · rw [if_pos h3]; refine List.pairwise_cons.2 ⟨fun x hx => ?_, ih h2⟩; rcases (mem_putI l n x).1 hx with h4 | h4
    · omega
    · exact h1 x h4
  · rw [if_neg h3]; by_cases h4 : a = n
    · rw [if_pos h4]; exact h
    · rw [if_neg h4]; refine List.pairwise_cons.2 ⟨fun x hx => ?_, h⟩; rcases List.mem_cons.1 hx with h5 | h5
      · omega
      · have := h1 x h5; omega
theorem putI_len (l : List Int) (n : Int) : (putI l n).length ≤ l.length + 1 := by
 induction l with
 | nil => simp [putI]
 | cons a l ih =>
  simp only [putI]
  split
  · simp; omega
  · split <;> simp
def sortI (l : List Int) : List Int := l.foldl putI []
theorem foldI_ok (l : List Int) : ∀ a, UpI a → UpI (l.foldl putI a) ∧ ∀ x, x ∈ l.foldl putI a ↔ x ∈ l ∨ x ∈ a := by
 induction l with
 | nil => intro a h; exact ⟨h, fun x => by simp⟩
 | cons b l ih =>
  intro a h; obtain ⟨h1, h2⟩ := ih (putI a b) (upI_put a b h); refine ⟨h1, fun x => (h2 x).trans ?_⟩; rw [mem_putI, List.mem_cons]; exact ⟨fun h => h.elim (fun h => .inl (.inr h)) (fun h => h.elim (fun h => .inl (.inl h)) .inr), fun h => h.elim (fun h => h.elim (fun h => .inr (.inl h)) .inl) (fun h => .inr (.inr h))⟩
theorem sortI_up (l) : UpI (sortI l) := (foldI_ok l [] List.Pairwise.nil).1
theorem mem_sortI (l x) : x ∈ sortI l ↔ x ∈ l := ((foldI_ok l [] List.Pairwise.nil).2 x).trans (by simp)
theorem upI_of {a l : List Int} (ha : UpI a) (h : ∀ x, x ∈ a ↔ x ∈ l) : a = sortI l := upI_ext ha (sortI_up l) fun x => (h x).trans (mem_sortI l x).symm
inductive UpR (ps : List (List Int)) (S : Int → Prop) : Int → Prop
 | base {x : Int} : S x → UpR ps S x
 | step {p : List Int} : p ∈ ps → UpR ps S (rd p 1) → UpR ps S (rd p 0)
theorem cmpL_self : ∀ l, cmpL l l = 0
 | [] => rfl
 | a :: l => by simp only [cmpL]; rw [if_neg (by omega), if_neg (by omega)]; exact cmpL_self l
theorem cmpL_eq : ∀ l m, cmpL l m = 0 → l = m
 | [], [], _ => rfl
 | [], _ :: _, h => absurd h (by simp [cmpL])
 | _ :: _, [], h => absurd h (by simp [cmpL])
 | a :: l, b :: m, h => by
  simp only [cmpL] at h; by_cases h1 : a < b
  · rw [if_pos h1] at h; exact absurd h (by decide)
  · by_cases h2 : b < a
    · rw [if_neg h1, if_pos h2] at h; exact absurd h (by decide)
    · rw [if_neg h1, if_neg h2] at h; rw [cmpL_eq l m h, show a = b by omega]
theorem cmpL_neg : ∀ l m, cmpL m l = - cmpL l m
 | [], [] => rfl
 | [], _ :: _ => rfl
 | _ :: _, [] => rfl
 | a :: l, b :: m => by
  simp only [cmpL]; by_cases h1 : a < b
  · rw [if_neg (by omega), if_pos h1, if_pos h1]; rfl
  · by_cases h2 : b < a
    · rw [if_pos h2, if_neg h1, if_pos h2]
    · rw [if_neg h2, if_neg h1, if_neg h1, if_neg h2, cmpL_neg l m]
theorem cmpL_trans : ∀ (a b c : List Int), cmpL a b < 0 → cmpL b c < 0 → cmpL a c < 0
 | [], [], _, h, _ => absurd h (by decide)
 | [], _ :: _, [], _, h => absurd h (by simp [cmpL])
 | [], _ :: _, _ :: _, _, _ => by simp [cmpL]
 | _ :: _, [], _, h, _ => absurd h (by simp [cmpL])
 | _ :: _, _ :: _, [], _, h => absurd h (by simp [cmpL])
 | x :: a, y :: b, z :: c, h1, h2 => by
  simp only [cmpL] at h1 h2 ⊢; by_cases xy : x < y
  · by_cases zy : z < y
    · rw [if_neg (by omega), if_pos zy] at h2; exact absurd h2 (by decide)
    · rw [if_pos (show x < z by omega)]; decide
  · by_cases yx : y < x
    · rw [if_neg xy, if_pos yx] at h1; exact absurd h1 (by decide)
    · have e : x = y := by omega
      subst e; rw [if_neg xy, if_neg yx] at h1; by_cases xz : x < z
      · rw [if_pos xz]; decide
      · rw [if_neg xz] at h2 ⊢; by_cases zx : z < x
        · rw [if_pos zx] at h2; exact absurd h2 (by decide)
        · rw [if_neg zx] at h2 ⊢; exact cmpL_trans a b c h1 h2
def UpL (l : List (List Int)) : Prop := l.Pairwise (fun a b => cmpL a b < 0)
theorem upL_ext {a b : List (List Int)} (ha : UpL a) (hb : UpL b) (h : ∀ x, x ∈ a ↔ x ∈ b) : a = b := rise_ext _ (fun x h => by rw [cmpL_self] at h; omega) (fun x y z h1 h2 => cmpL_trans x y z h1 h2) ha hb h
def putL : List (List Int) → List Int → List (List Int)
 | [], n => [n]
 | a :: l, n => if cmpL a n < 0 then a :: putL l n else if a = n then a :: l else n :: a :: l
theorem mem_putL (l : List (List Int)) (n x : List Int) : x ∈ putL l n ↔ x = n ∨ x ∈ l := by
 induction l with
 | nil => simp [putL]
 | cons a l ih =>
  simp only [putL]; by_cases h1 : cmpL a n < 0
  · rw [if_pos h1, List.mem_cons, ih, List.mem_cons]; exact ⟨fun h => h.elim (fun h => .inr (.inl h)) (fun h => h.elim .inl (fun h => .inr (.inr h))), fun h => h.elim (fun h => .inr (.inl h)) (fun h => h.elim .inl (fun h => .inr (.inr h)))⟩
  · rw [if_neg h1]; by_cases h2 : a = n
    · rw [if_pos h2]; subst h2; exact ⟨.inr, fun h => h.elim (fun h => by subst h; exact List.mem_cons_self) id⟩
    · rw [if_neg h2, List.mem_cons]
theorem cmpL_flip {a n : List Int} (h1 : ¬ cmpL a n < 0) (h2 : a ≠ n) : cmpL n a < 0 := by
 have h3 := cmpL_neg a n; have h4 : cmpL a n ≠ 0 := fun h => h2 (cmpL_eq a n h)
 omega
theorem upL_put (l : List (List Int)) (n : List Int) (h : UpL l) : UpL (putL l n) := by
 induction l with
 | nil => exact List.pairwise_singleton _ _
 | cons a l ih =>
  obtain ⟨h1, h2⟩ := List.pairwise_cons.1 h; simp only [putL]; by_cases h3 : cmpL a n < 0
  · rw [if_pos h3]; refine List.pairwise_cons.2 ⟨fun x hx => ?_, ih h2⟩; rcases (mem_putL l n x).1 hx with h4 | h4
    · rw [h4]; exact h3
    · exact h1 x h4
  · rw [if_neg h3]; by_cases h4 : a = n
    · rw [if_pos h4]; exact h
    · rw [if_neg h4]; have h6 := cmpL_flip h3 h4; refine List.pairwise_cons.2 ⟨fun x hx => ?_, h⟩; rcases List.mem_cons.1 hx with h5 | h5
      · rw [h5]; exact h6
      · exact cmpL_trans _ _ _ h6 (h1 x h5)
def sortL (l : List (List Int)) : List (List Int) := l.foldl putL []
theorem foldL_ok (l : List (List Int)) : ∀ a, UpL a → UpL (l.foldl putL a) ∧ ∀ x, x ∈ l.foldl putL a ↔ x ∈ l ∨ x ∈ a := by
 induction l with
 | nil => intro a h; exact ⟨h, fun x => by simp⟩
 | cons b l ih =>
  intro a h; obtain ⟨h1, h2⟩ := ih (putL a b) (upL_put a b h); refine ⟨h1, fun x => (h2 x).trans ?_⟩; rw [mem_putL, List.mem_cons]; exact ⟨fun h => h.elim (fun h => .inl (.inr h)) (fun h => h.elim (fun h => .inl (.inl h)) .inr), fun h => h.elim (fun h => h.elim (fun h => .inr (.inl h)) .inl) (fun h => .inr (.inr h))⟩
theorem sortL_up (l) : UpL (sortL l) := (foldL_ok l [] List.Pairwise.nil).1
theorem mem_sortL (l x) : x ∈ sortL l ↔ x ∈ l := ((foldL_ok l [] List.Pairwise.nil).2 x).trans (by simp)
theorem upL_of {a l : List (List Int)} (ha : UpL a) (h : ∀ x, x ∈ a ↔ x ∈ l) : a = sortL l := upL_ext ha (sortL_up l) fun x => (h x).trans (mem_sortL l x).symm
end Go.Proofs.Ytpcbjhfgfmmneaa.P
namespace Go.Proofs
open Go.Shelf
def Try.srt_ren : Go.Shelf.Ren := ⟨fun | 5 => 79 | 8 => 100 | 7 => 101 | 19 => 113 | 20 => 114 | 10 => 115 | 11 => 116 | 12 => 117 | 13 => 118 | 14 => 119 | 15 => 120 | 16 => 121 | 17 => 122 | 18 => 123 | 30 => 130 | 31 => 126 | 32 => 127 | 33 => 131 | 34 => 132 | 35 => 104 | 40 => 135 | n => n, fun | 23 => 23 | 25 => 3 | 3 => 3 | 32 => 117 | 22 => 23 | 0 => 0 | 44 => 128 | 46 => 130 | 4 => 4 | 36 => 122 | 35 => 121 | 41 => 105 | 5 => 5 | 9 => 9 | 53 => 135 | 57 => 139 | 63 => 143 | 64 => 144 | n => n, fun | n => n⟩
theorem Try.srt : Go.Proofs.SlLaysM.n5 Try.prog Try.srt_ren := {
 mixed := by kernel_rfl,
 f5 := ⟨Try.f79.name, by decide, Try.func79.trans (congrArg some (by kernel_rfl))⟩,
 f7 := ⟨Try.f101.name, by decide, Try.func101.trans (congrArg some (by kernel_rfl))⟩,
 f8 := Try.func100.trans (congrArg some (by kernel_rfl)),
 f10 := ⟨Try.f115.name, by decide, Try.func115.trans (congrArg some (by kernel_rfl))⟩,
 f11 := ⟨Try.f116.name, by decide, Try.func116.trans (congrArg some (by kernel_rfl))⟩,
 f12 := ⟨Try.f117.name, by decide, Try.func117.trans (congrArg some (by kernel_rfl))⟩,
 f13 := ⟨Try.f118.name, by decide, Try.func118.trans (congrArg some (by kernel_rfl))⟩,
 f14 := ⟨Try.f119.name, by decide, Try.func119.trans (congrArg some (by kernel_rfl))⟩,
 f15 := ⟨Try.f120.name, by decide, Try.func120.trans (congrArg some (by kernel_rfl))⟩,
 f16 := ⟨Try.f121.name, by decide, Try.func121.trans (congrArg some (by kernel_rfl))⟩,
 f17 := ⟨Try.f122.name, by decide, Try.func122.trans (congrArg some (by kernel_rfl))⟩,
 f18 := ⟨Try.f123.name, by decide, Try.func123.trans (congrArg some (by kernel_rfl))⟩,
 f19 := Try.func113.trans (congrArg some (by kernel_rfl)),
 f20 := Try.func114.trans (congrArg some (by kernel_rfl)),
 f30 := ⟨Try.f130.name, by decide, Try.func130.trans (congrArg some (by kernel_rfl))⟩,
 f31 := Try.func126.trans (congrArg some (by kernel_rfl)),
 f32 := Try.func127.trans (congrArg some (by kernel_rfl)),
 f33 := ⟨Try.f131.name, by decide, Try.func131.trans (congrArg some (by kernel_rfl))⟩,
 f34 := ⟨Try.f132.name, by decide, Try.func132.trans (congrArg some (by kernel_rfl))⟩,
 f35 := ⟨Try.f104.name, by decide, Try.func104.trans (congrArg some (by kernel_rfl))⟩,
 f40 := ⟨Try.f135.name, by decide, Try.func135.trans (congrArg some (by kernel_rfl))⟩,
 t0 := Try.underlying0,
 a0 := Try.isAgg0,
 z0 := Try.sizeOf0,
 v0 := Try.zeroValue0,
 t3 := Try.underlying3,
 a3 := Try.isAgg3,
 z3 := Try.sizeOf3,
 v3 := Try.zeroValue3,
 t4 := Try.underlying4,
 a4 := Try.isAgg4,
 z4 := Try.sizeOf4,
 v4 := Try.zeroValue4,
 t5 := Try.underlying5,
 a5 := Try.isAgg5,
 z5 := Try.sizeOf5,
 v5 := Try.zeroValue5,
 t9 := Try.underlying9,
 a9 := Try.isAgg9,
 z9 := Try.sizeOf9,
 v9 := Try.zeroValue9,
 t22 := Try.underlying23,
 a22 := Try.isAgg23,
 z22 := Try.sizeOf23,
 v22 := Try.zeroValue23,
 t23 := Try.underlying23,
 a23 := Try.isAgg23,
 z23 := Try.sizeOf23,
 v23 := Try.zeroValue23,
 t25 := Try.underlying3,
 a25 := Try.isAgg3,
 z25 := Try.sizeOf3,
 v25 := Try.zeroValue3,
 t32 := Try.underlying117,
 a32 := Try.isAgg117,
 z32 := Try.sizeOf117,
 v32 := Try.zeroValue117,
 t35 := Try.underlying121,
 a35 := Try.isAgg121,
 z35 := Try.sizeOf121,
 v35 := Try.zeroValue121,
 t36 := Try.underlying122,
 a36 := Try.isAgg122,
 z36 := Try.sizeOf122,
 v36 := Try.zeroValue122,
 t41 := Try.underlying105,
 a41 := Try.isAgg105,
 z41 := Try.sizeOf105,
 v41 := Try.zeroValue105,
 t44 := Try.underlying128,
 a44 := Try.isAgg128,
 z44 := Try.sizeOf128,
 v44 := Try.zeroValue128,
 t46 := Try.underlying130,
 a46 := Try.isAgg130,
 z46 := Try.sizeOf130,
 v46 := Try.zeroValue130,
 t53 := Try.underlying135,
 a53 := Try.isAgg135,
 z53 := Try.sizeOf135,
 v53 := Try.zeroValue135,
 t57 := Try.underlying139,
 a57 := Try.isAgg139,
 z57 := Try.sizeOf139,
 v57 := Try.zeroValue139,
 t63 := Try.underlying143,
 a63 := Try.isAgg143,
 z63 := Try.sizeOf143,
 v63 := Try.zeroValue143,
 t64 := Try.underlying144,
 a64 := Try.isAgg144,
 z64 := Try.sizeOf144,
 v64 := Try.zeroValue144
 }
def Try.cmpt_ren : Go.Shelf.Ren := ⟨fun | 43 => 82 | n => n, fun | 22 => 23 | 23 => 3 | 3 => 3 | 4 => 4 | 0 => 0 | n => n, fun | n => n⟩
theorem Try.cmpt : Go.Proofs.SlLaysE.n43 Try.prog Try.cmpt_ren := {
 mixed := by kernel_rfl,
 f43 := ⟨Try.f82.name, by decide, Try.func82.trans (congrArg some (by kernel_rfl))⟩,
 t0 := Try.underlying0,
 a0 := Try.isAgg0,
 z0 := Try.sizeOf0,
 v0 := Try.zeroValue0,
 t3 := Try.underlying3,
 a3 := Try.isAgg3,
 z3 := Try.sizeOf3,
 v3 := Try.zeroValue3,
 t4 := Try.underlying4,
 a4 := Try.isAgg4,
 z4 := Try.sizeOf4,
 v4 := Try.zeroValue4,
 t22 := Try.underlying23,
 a22 := Try.isAgg23,
 z22 := Try.sizeOf23,
 v22 := Try.zeroValue23,
 a23 := Try.isAgg3,
 z23 := Try.sizeOf3
 }
def Try.srtf_ren : Go.Shelf.Ren := ⟨fun | 6 => 78 | 15 => 100 | 14 => 99 | 28 => 113 | 29 => 114 | 20 => 105 | 21 => 106 | 22 => 107 | 23 => 108 | 24 => 109 | 25 => 110 | 26 => 111 | 27 => 112 | 46 => 125 | 47 => 126 | 48 => 127 | 49 => 128 | 50 => 129 | 57 => 134 | n => n, fun | 22 => 22 | 24 => 23 | 25 => 88 | 3 => 3 | 39 => 117 | 0 => 0 | 53 => 128 | 55 => 130 | 4 => 4 | 46 => 122 | 45 => 121 | 50 => 105 | 5 => 5 | 9 => 9 | 66 => 135 | 70 => 139 | 76 => 143 | 77 => 144 | n => n, fun | n => n⟩
theorem Try.srtf : Go.Proofs.SlLaysF.n6 Try.prog Try.srtf_ren := {
 mixed := by kernel_rfl,
 f6 := ⟨Try.f78.name, by decide, Try.func78.trans (congrArg some (by kernel_rfl))⟩,
 f14 := ⟨Try.f99.name, by decide, Try.func99.trans (congrArg some (by kernel_rfl))⟩,
 f15 := Try.func100.trans (congrArg some (by kernel_rfl)),
 f20 := ⟨Try.f105.name, by decide, Try.func105.trans (congrArg some (by kernel_rfl))⟩,
 f21 := ⟨Try.f106.name, by decide, Try.func106.trans (congrArg some (by kernel_rfl))⟩,
 f22 := ⟨Try.f107.name, by decide, Try.func107.trans (congrArg some (by kernel_rfl))⟩,
 f23 := ⟨Try.f108.name, by decide, Try.func108.trans (congrArg some (by kernel_rfl))⟩,
 f24 := ⟨Try.f109.name, by decide, Try.func109.trans (congrArg some (by kernel_rfl))⟩,
 f25 := ⟨Try.f110.name, by decide, Try.func110.trans (congrArg some (by kernel_rfl))⟩,
 f26 := ⟨Try.f111.name, by decide, Try.func111.trans (congrArg some (by kernel_rfl))⟩,
 f27 := ⟨Try.f112.name, by decide, Try.func112.trans (congrArg some (by kernel_rfl))⟩,
 f28 := Try.func113.trans (congrArg some (by kernel_rfl)),
 f29 := Try.func114.trans (congrArg some (by kernel_rfl)),
 f46 := ⟨Try.f125.name, by decide, Try.func125.trans (congrArg some (by kernel_rfl))⟩,
 f47 := Try.func126.trans (congrArg some (by kernel_rfl)),
 f48 := Try.func127.trans (congrArg some (by kernel_rfl)),
 f49 := ⟨Try.f128.name, by decide, Try.func128.trans (congrArg some (by kernel_rfl))⟩,
 f50 := ⟨Try.f129.name, by decide, Try.func129.trans (congrArg some (by kernel_rfl))⟩,
 f57 := ⟨Try.f134.name, by decide, Try.func134.trans (congrArg some (by kernel_rfl))⟩,
 t0 := Try.underlying0,
 a0 := Try.isAgg0,
 z0 := Try.sizeOf0,
 v0 := Try.zeroValue0,
 t3 := Try.underlying3,
 a3 := Try.isAgg3,
 z3 := Try.sizeOf3,
 v3 := Try.zeroValue3,
 t4 := Try.underlying4,
 a4 := Try.isAgg4,
 z4 := Try.sizeOf4,
 v4 := Try.zeroValue4,
 t5 := Try.underlying5,
 a5 := Try.isAgg5,
 z5 := Try.sizeOf5,
 v5 := Try.zeroValue5,
 t9 := Try.underlying9,
 a9 := Try.isAgg9,
 z9 := Try.sizeOf9,
 v9 := Try.zeroValue9,
 t22 := Try.underlying22,
 a22 := Try.isAgg22,
 z22 := Try.sizeOf22,
 v22 := Try.zeroValue22,
 a24 := Try.isAgg23,
 z24 := Try.sizeOf23,
 t25 := Try.underlying88,
 a25 := Try.isAgg88,
 z25 := Try.sizeOf88,
 v25 := Try.zeroValue88,
 t39 := Try.underlying117,
 a39 := Try.isAgg117,
 z39 := Try.sizeOf117,
 v39 := Try.zeroValue117,
 t45 := Try.underlying121,
 a45 := Try.isAgg121,
 z45 := Try.sizeOf121,
 v45 := Try.zeroValue121,
 t46 := Try.underlying122,
 a46 := Try.isAgg122,
 z46 := Try.sizeOf122,
 v46 := Try.zeroValue122,
 t50 := Try.underlying105,
 a50 := Try.isAgg105,
 z50 := Try.sizeOf105,
 v50 := Try.zeroValue105,
 t53 := Try.underlying128,
 a53 := Try.isAgg128,
 z53 := Try.sizeOf128,
 v53 := Try.zeroValue128,
 t55 := Try.underlying130,
 a55 := Try.isAgg130,
 z55 := Try.sizeOf130,
 v55 := Try.zeroValue130,
 t66 := Try.underlying135,
 a66 := Try.isAgg135,
 z66 := Try.sizeOf135,
 v66 := Try.zeroValue135,
 t70 := Try.underlying139,
 a70 := Try.isAgg139,
 z70 := Try.sizeOf139,
 v70 := Try.zeroValue139,
 t76 := Try.underlying143,
 a76 := Try.isAgg143,
 z76 := Try.sizeOf143,
 v76 := Try.zeroValue143,
 t77 := Try.underlying144,
 a77 := Try.isAgg144,
 z77 := Try.sizeOf144,
 v77 := Try.zeroValue144
 }
end Go.Proofs
namespace Go.Proofs.Ytpcbjhfgfmmneaa.P
open Go.RowKit Go.Proofs.YtpcbjhfgfmmneaaW.PrintWords Go.Proofs.YtpcbjhfgfmmneaaW.PrintLast Go.Proofs.YtpcbjhfgfmmneaaW.PrintMore
set_option linter.unusedVariables false
set_option linter.unusedSimpArgs false
theorem reps_ints {W : World} {base : Nat} {ok : Nat → Prop} : ∀ (zs : List Int), Reps ((Kd.int .i64).M W base ok) 1 zs (zs.map (Value.int .i64))
 | zs => ⟨by simp, fun j x hx => by
  have h1 : (zs.map (Value.int .i64))[j]? = some (.int .i64 x) := by rw [List.getElem?_map, hx]; rfl
  rw [Nat.mul_one]; obtain ⟨h2, h3⟩ := List.getElem?_eq_some_iff.1 h1; rw [List.drop_eq_getElem_cons h2, h3]; rfl⟩
theorem ints_of {W : World} {base : Nat} {ok : Nat → Prop} {zs : List Int} {cs : List Value} (h : Reps ((Kd.int .i64).M W base ok) 1 zs cs) : cs = zs.map (Value.int .i64) := by
 obtain ⟨h1, h2⟩ := h; apply List.ext_getElem?; intro j; rw [List.getElem?_map]; cases hx : zs[j]? with
 | none =>
  have h3 := List.getElem?_eq_none_iff.1 hx; rw [List.getElem?_eq_none_iff.2 (by rw [h1, Nat.mul_one]; exact h3)]; rfl
 | some x =>
  have h3 := h2 j x hx; rw [Nat.mul_one] at h3; have h4 : (cs.drop j).take 1 = [.int .i64 x] := h3; have h5 := congrArg (fun l => l[0]?) h4; simp only [List.getElem?_take_of_lt (show 0 < 1 by decide), List.getElem?_drop, Nat.add_zero] at h5; rw [h5]; rfl
theorem R_ints {W : World} {base e : Nat} {ok : Nat → Prop} {v : Value} {zs : List Int} (h : Kd.R (Kd.int .i64) e W base ok v zs) :
 (v = .slice none 0 0 ∧ zs = []) ∨ ∃ (g cap : Nat) (cur : Array Value), v = .slice (some ⟨g, 0, none⟩) zs.length cap ∧ ok g ∧ base ≤ g ∧ W.heap[g]? = some (.cells cur e (0, 0)) ∧ zs.length ≤ cap ∧ cap ≤ maxLen ∧ cur.size = cap * 1 ∧ cur.toList.take zs.length = zs.map (Value.int .i64) := by
 obtain ⟨hok, inner, ⟨hlen, hrow⟩, hr⟩ := h; obtain rfl := ints_of hr; rcases hrow with ⟨hv, h0⟩ | ⟨g, cap, cur, hv, hbg, hh, hnc, hcm, hcs, ht⟩
 · refine .inl ⟨hv, ?_⟩; exact List.length_eq_zero_iff.1 h0
 · exact .inr ⟨g, cap, cur, hv, hok g (by rw [hv]; rfl), hbg, hh, hnc, hcm, hcs, by rw [show zs.length * (Kd.int .i64).sz = zs.length from Nat.mul_one _] at ht; exact ht⟩
theorem R_of_block {W : World} {base e g cap : Nat} {ok : Nat → Prop} {zs : List Int} {cur : Array Value} (hok : ok g) (hb : base ≤ g) (hh : W.heap[g]? = some (.cells cur e (0, 0))) (hn : zs.length ≤ cap) (hc : cap ≤ maxLen) (hs : cur.size = cap * 1) (ht : cur.toList.take zs.length = zs.map (Value.int .i64)) :
 Kd.R (Kd.int .i64) e W base ok (.slice (some ⟨g, 0, none⟩) zs.length cap) zs :=
 ⟨fun k hk => by have : g = k := by simpa [Value.ownBlock] using hk
                 rw [← this]; exact hok, zs.map (Value.int .i64), ⟨by rw [List.length_map]; exact (Nat.mul_one _).symm, .inr ⟨g, cap, cur, rfl, hb, hh, hn, hc, hs, by rw [show zs.length * (Kd.int .i64).sz = zs.length from Nat.mul_one _]; exact ht⟩⟩, reps_ints zs⟩
theorem mergeI_len (l : List Int) : (l.mergeSort fun x y => decide (x ≤ y)).length = l.length := List.length_mergeSort l
theorem below_sorted {b : Nat} {w W : World} {g n : Nat} {os : Array Obj} (d : Array Int) (h : Below b w W) (hg : b ≤ g) (hb : b ≤ W.heap.size) : Below b w (Go.Sort.grow (Go.Sort.putRow (Value.int .i64) (Go.Sort.ahead W n) g 0 d) os) := by
 have k := Go.grownBy_sortedI (w := W) (g := g) (n := n) (os := os) d; exact ⟨k.os.trans h.os, k.tape.trans h.tape, k.output.trans h.output, Nat.le_trans h.size k.size, fun i hi => (k.block i (Nat.lt_of_lt_of_le hi hb) (fun e => by injection e with e; omega)).trans (h.block i hi)⟩
theorem kept_sorted {W : World} {g n : Nat} {os : Array Obj} {P : Nat → Prop} (d : Array Int) (hg : P g) : Kept W (Go.Sort.grow (Go.Sort.putRow (Value.int .i64) (Go.Sort.ahead W n) g 0 d) os) P := by
 have k := Go.grownBy_sortedI (w := W) (g := g) (n := n) (os := os) d; exact ⟨k.size, fun i hi hn => k.block i hi (fun e => hn (by injection e with e; rw [e]; exact hg))⟩
def slices_Sort_int_int.f (l0 : List Int) : Option (List Int) := if l0.length < 4611686018427387904 then some (l0.mergeSort fun x y => decide (x ≤ y)) else none
theorem slices_Sort_int_int.calls (P0_ : Nat → Prop) (u9000_ : Value) (l0 : List Int) (r : List Int) (w0 w : World) (hB : Below w0.heap.size w0 w) (ho0 : Kd.R (Kd.int .i64) 3 w w0.heap.size P0_ u9000_ l0) (h : slices_Sort_int_int.f l0 = some r) :
 Calls Try.prog 79 #[u9000_] w fun e w' => e = .returned (.tuple #[]) ∧ Kd.R (Kd.int .i64) 3 w' w0.heap.size (fun k_ => (P0_ k_ ∨ w.heap.size ≤ k_)) u9000_ r ∧ Below w0.heap.size w0 w' ∧ Kept w w' (fun k_ => P0_ k_) := by
 unfold slices_Sort_int_int.f at h; by_cases hl : l0.length < 4611686018427387904
 · rw [if_pos hl] at h; obtain rfl := Option.some.inj h; rcases R_ints ho0 with ⟨rfl, rfl⟩ | ⟨g, cap, cur, rfl, hok, hbg, hh, hn, hc, hs, ht⟩
   · refine (AnyM.slices_Sort_int_none Try.srt none 0 w).mono fun e w' ⟨he, hw⟩ => ?_
     subst hw; exact ⟨he, by rw [List.mergeSort_nil]; exact Kd.R_nil _ _ _ _ _, hB, Kept.refl _ _⟩
   · have hg : g < w.heap.size := (Array.getElem?_eq_some_iff.1 hh).1; refine (AnyM.slices_Sort_int Try.srt g 0 cap l0 w (Go.holds_of_blockI hh ht) hg hl).mono fun e w' ⟨he, n, os, hw⟩ => ?_
     have hl2 := mergeI_len l0; subst hw; refine ⟨he, ?_, below_sorted _ hB hbg hB.size, kept_sorted _ hok⟩; have hh2 := Go.heap_sortedI (n := n) (os := os) (l0.mergeSort fun x y => decide (x ≤ y)).toArray hh; have R := R_of_block (cap := cap) (ok := fun k_ => (P0_ k_ ∨ w.heap.size ≤ k_)) (.inl hok) hbg hh2 (by rw [hl2]; exact hn) hc (by simp [Go.Sort.putCells, hs]) (Go.take_putCellsI cur _ (by rw [hl2]; omega)); rw [hl2] at R; exact R
 · rw [if_neg hl] at h; cases h
def slices_Compact_int_int.f (l0 : List Int) : Option (List Int) := if l0.length < 4611686018427387904 then some (Go.Lib.compactUpTo l0.toArray l0.length) else none
theorem compact_le (l : List Int) : (Go.Lib.compactUpTo l.toArray l.length).length ≤ l.length := by
 unfold Go.Lib.compactUpTo; rw [List.length_map]; exact Nat.le_trans (List.length_filter_le _ _) (by simp)
theorem slices_Compact_int_int.calls (P0_ : Nat → Prop) (u9000_ : Value) (l0 : List Int) (r : List Int) (w0 w : World) (hB : Below w0.heap.size w0 w) (ho0 : Kd.R (Kd.int .i64) 3 w w0.heap.size P0_ u9000_ l0) (h : slices_Compact_int_int.f l0 = some r) :
 Calls Try.prog 82 #[u9000_] w fun e w' => ∃ v0_ : Value, e = .returned (v0_) ∧ Kd.R (Kd.int .i64) 3 w' w0.heap.size (fun k_ => (P0_ k_ ∨ w.heap.size ≤ k_)) v0_ r ∧ Below w0.heap.size w0 w' ∧ Kept w w' (fun k_ => P0_ k_) := by
 unfold slices_Compact_int_int.f at h; by_cases hl : l0.length < 4611686018427387904
 · rw [if_pos hl] at h; obtain rfl := Option.some.inj h; rcases R_ints ho0 with ⟨rfl, rfl⟩ | ⟨g, cap, cur, rfl, hok, hbg, hh, hn, hc, hs, ht⟩
   · go_enter Try.func82, Try.ntmps82; go_wp2; go_ret; exact ⟨_, rfl, Kd.R_nil _ _ _ _ _, hB, Kept.refl _ _⟩
   · have hg : g < w.heap.size := (Array.getElem?_eq_some_iff.1 hh).1; refine (AnyE.slices_Compact Try.cmpt (Value.int .i64) (fun _ => rfl) (EqlAt.intD _ _ .i64) (NeqAt.intD _ _ .i64) 0 Try.zeroValue3 g 0 cap l0.toArray w (Go.holds_of_blockI hh ht) (by simp; omega) (by simpa using hn)).mono fun e w' ⟨he, q, hw⟩ => ?_
     have hl2 := compact_le l0; have hsz : l0.toArray.size = l0.length := by simp
     rw [hsz] at he hw; rw [← Go.Sort.grow_empty (Go.Sort.putRow _ _ _ _ _)] at hw; subst hw; refine ⟨_, he, ?_, below_sorted _ hB hbg hB.size, kept_sorted _ hok⟩; have hh2 := Go.heap_sortedI (n := q) (os := #[]) (Go.Lib.compactUpTo l0.toArray l0.length ++ List.replicate (l0.length - (Go.Lib.compactUpTo l0.toArray l0.length).length) 0).toArray hh; refine R_of_block (cap := cap) (ok := fun k_ => (P0_ k_ ∨ w.heap.size ≤ k_)) (.inl hok) hbg hh2 (by omega) hc (by simp [Go.Sort.putCells, hs]) ?_; have h3 := Go.take_putCellsI cur (Go.Lib.compactUpTo l0.toArray l0.length ++ List.replicate (l0.length - (Go.Lib.compactUpTo l0.toArray l0.length).length) 0) (by rw [List.length_append, List.length_replicate]; omega); have h4 := congrArg (fun l => l.take (Go.Lib.compactUpTo l0.toArray l0.length).length) h3; simp only [List.take_take, List.length_append] at h4; rw [Nat.min_eq_left (by omega)] at h4; rw [h4, List.map_append, List.take_append_of_le_length (by simp), List.take_of_length_le (by simp)]
 · rw [if_neg hl] at h; cases h
end Go.Proofs.Ytpcbjhfgfmmneaa.P
namespace Go.Proofs.Ytpcbjhfgfmmneaa.P
open Go.RowKit Go.Proofs.YtpcbjhfgfmmneaaW.PrintWords Go.Proofs.YtpcbjhfgfmmneaaW.PrintLast Go.Proofs.YtpcbjhfgfmmneaaW.PrintMore
attribute [local go_sem] max2_int min2_int max_two min_two max_three min_three max_four min_four
set_option linter.unusedVariables false
set_option linter.unusedSimpArgs false
def spec_l1Put.l0 : Nat → List Int → Int → Int → Option (List Int)
 | 0, _, _, _ => none
 | k + 1, x0, x1, x5 => if x5 < (x0.length : Int) then (if 0 ≤ x5 then (if (rd x0 x5) < x1 then (spec_l1Put.l0 k x0 x1 (wrap64 (x5 + 1))) else (if (rd x0 x5) = x1 then (some x0) else ((some (([] : List Int) : List Int)).bind fun y103 => (if x5 ≤ (x0.length : Int) then ((some (x0.take (x5 : Int).toNat : List Int)).bind fun y106 => (if y103.length + y106.length < 17592186044416 then ((some (y103 ++ y106 : List Int)).bind fun y110 => (if y110.length < 17592186044416 then ((some (y110 ++ [x1] : List Int)).bind fun y113 => ((some (x0.drop (x5 : Int).toNat : List Int)).bind fun y116 => (if y113.length + y116.length < 17592186044416 then (some (y113 ++ y116)) else (none)))) else (none))) else (none))) else (none))))) else (none)) else ((some (([] : List Int) : List Int)).bind fun y123 => (if 0 ≤ x5 then (if x5 ≤ (x0.length : Int) then ((some (x0.take (x5 : Int).toNat : List Int)).bind fun y126 => (if y123.length + y126.length < 17592186044416 then ((some (y123 ++ y126 : List Int)).bind fun y130 => (if y130.length < 17592186044416 then ((some (y130 ++ [x1] : List Int)).bind fun y133 => ((some (x0.drop (x5 : Int).toNat : List Int)).bind fun y136 => (if y133.length + y136.length < 17592186044416 then (some (y133 ++ y136)) else (none)))) else (none))) else (none))) else (none)) else (none)))
def spec_l1Put.f (k : Nat) (l0 : List Int) (a1 : Int) : Option (List Int) := spec_l1Put.l0 k l0 a1 0
set_option maxHeartbeats 8000000 in
set_option maxRecDepth 100000 in
theorem spec_l1Put.calls (k : Nat) (P0_ : Nat → Prop) (u9000_ : Value) (l0 : List Int) (a1 : Int) (r : List Int) (w0 w : World) (hB : Below w0.heap.size w0 w) (ho0 : Kd.R (Kd.int .i64) 3 w w0.heap.size P0_ u9000_ l0) (h : spec_l1Put.f k l0 a1 = some r) :
 Calls Try.prog 61 #[u9000_, .int .i64 a1] w fun e w' => ∃ v0_ : Value, e = .returned (v0_) ∧ Kd.R (Kd.int .i64) 3 w' w0.heap.size (fun k_ => (P0_ k_ ∨ w.heap.size ≤ k_)) v0_ r ∧ Below w0.heap.size w0 w' ∧ Kept w w' (fun k_ => P0_ k_) := by
 have HO0 := zA (show Kd.R (Kd.int .i64) 3 w w0.heap.size (fun k_ => (P0_ k_ ∨ w.heap.size ≤ k_)) u9000_ l0 from Kd.R_mono ho0 (fun k_ hk => (.inl hk))); have HK := zA (Kept.refl w (fun k_ => P0_ k_)); have HW0 := zA hB.size; have HB := zA hB; clear hB; have H : (spec_l1Put.l0 k l0 a1 0) = some r := h; clear h; have H' := zA H; clear H; go_enter Try.func61, Try.ntmps61; go_wp2; go_loopg [5] k (fun kq v5 w' => ∃ (x5_1 : Int), v5 = .int .i64 x5_1 ∧ Aside0 (spec_l1Put.l0 kq l0 a1 x5_1 = some r) ∧ Aside0 (kq ≤ k) ∧ Aside0 (Kd.R (Kd.int .i64) 3 w' w0.heap.size (fun k_ => (P0_ k_ ∨ w.heap.size ≤ k_)) u9000_ l0) ∧ Aside0 (Kept w w' (fun k_ => P0_ k_)) ∧ Aside0 (Below w0.heap.size w0 w'))
 case atStart => exact ⟨(0), (by first | rfl | (simp; done) | (simp [*]; done)), H', ⟨Nat.le_refl _⟩, ⟨by (with_reducible repeat (first | apply zT | apply Kd.R_drewN | apply zV)); exact HO0.out⟩, ⟨by repeat (first | (with_reducible first | exact HK.out | apply Kept.alloc | apply Kept.drewN | apply Kept.drew) | exact HK.out)⟩, ⟨by repeat (first | (with_reducible first | exact HB.out | apply zB | apply zC | apply zD) | exact HB.out)⟩⟩
 case round =>
  clear H'; (try clear p2); obtain ⟨x5_1, rfl, HA, HK1, HO_0, HK, HB⟩ := hrel; cases gk with
  | zero => exact absurd HA.out (by simp [spec_l1Put.l0])
  | succ k1 =>
   have H := HA.out; clear HA; simp only [spec_l1Put.l0] at H; by_cases c3 : x5_1 < (l0.length : Int)
   · rw [if_pos c3] at H; have c3b0 : decide (x5_1 < (l0.length : Int)) = true := decide_eq_true c3; clear c3; by_cases c4 : 0 ≤ x5_1
     · rw [if_pos c4] at H; have c4b0 : decide (0 ≤ x5_1) = true := decide_eq_true c4; clear c4; by_cases c5 : (rd l0 x5_1) < a1
       · rw [if_pos c5] at H; have c5b0 : decide ((rd l0 x5_1) < a1) = true := decide_eq_true c5; clear c5; have H' := zA H; clear H; obtain ⟨Ao6, co6, eo6⟩ := Kd.R_slice HO_0.out; subst eo6; have p101 : 0 ≤ (x5_1 : Int) := of_decide_eq_true (by assumption); have q101 : x5_1 < (l0.length : Int) := of_decide_eq_true (by assumption); obtain ⟨ad101, e101, hx101_0⟩ := Kd.at_int (Kd.R_reads' HO_0.out).2.2 x5_1 p101 q101; cases e101; replace p101 := eq_true p101; replace q101 := eq_true q101; go_wp2
         go_roundg k1
         case measure => have := HK1.out; omega
         case rel => exact ⟨(wrap64 (x5_1 + 1)), (by first | rfl | (simp; done) | (simp [*]; done)), H', ⟨by have := HK1.out; omega⟩, ⟨by (with_reducible repeat (first | apply zT | apply Kd.R_drewN | apply zV)); exact HO_0.out⟩, ⟨by repeat (first | (with_reducible first | exact HK.out | apply Kept.alloc | apply Kept.drewN | apply Kept.drew) | exact HK.out)⟩, ⟨by repeat (first | (with_reducible first | exact HB.out | apply zB | apply zC | apply zD) | exact HB.out)⟩⟩
       · rw [if_neg c5] at H; have c5b0 : decide ((rd l0 x5_1) < a1) = false := decide_eq_false c5; clear c5; by_cases c7 : (rd l0 x5_1) = a1
         · rw [if_pos c7] at H; have c7b0 : ((rd l0 x5_1) == a1) = true := beq_iff_eq.mpr c7; have c7b1 : ((rd l0 x5_1) != a1) = false := bne_eq_false_iff_eq.mpr c7; clear c7; obtain rfl := Option.some.inj H; obtain ⟨Ao8, co8, eo8⟩ := Kd.R_slice HO_0.out; subst eo8; have p101 : 0 ≤ (x5_1 : Int) := of_decide_eq_true (by assumption); have q101 : x5_1 < (l0.length : Int) := of_decide_eq_true (by assumption); obtain ⟨ad101, e101, hx101_0⟩ := Kd.at_int (Kd.R_reads' HO_0.out).2.2 x5_1 p101 q101; cases e101; replace p101 := eq_true p101; replace q101 := eq_true q101; have p102 : 0 ≤ (x5_1 : Int) := of_decide_eq_true (by assumption); have q102 : x5_1 < (l0.length : Int) := of_decide_eq_true (by assumption); obtain ⟨ad102, e102, hx102_0⟩ := Kd.at_int (Kd.R_reads' HO_0.out).2.2 x5_1 p102 q102; obtain rfl : ad101 = ad102 := (by injection e102)
           replace p102 := eq_true p102; replace q102 := eq_true q102; go_wp2; go_ret; exact ⟨_, by first | rfl | (simp [errW_none, errW_some] <;> rfl) | (simp [*, errW_none, errW_some] <;> rfl), by (with_reducible repeat (first | apply zT | apply Kd.R_drewN | apply zV)); exact HO_0.out, by repeat (first | (with_reducible first | exact HB.out | apply zB | apply zC | apply zD) | exact HB.out), by repeat (first | (with_reducible first | exact HK.out | apply Kept.alloc | apply Kept.drewN | apply Kept.drew) | exact HK.out)⟩
         · rw [if_neg c7] at H; have c7b0 : ((rd l0 x5_1) == a1) = false := beq_eq_false_iff_ne.mpr c7; have c7b1 : ((rd l0 x5_1) != a1) = true := bne_iff_ne.mpr c7; obtain ⟨y103, hy103⟩ : ∃ y_ : List Int, y_ = (([] : List Int)) := ⟨_, rfl⟩
           replace H : (if x5_1 ≤ (l0.length : Int) then ((some (l0.take (x5_1 : Int).toNat : List Int)).bind fun y106 => (if y103.length + y106.length < 17592186044416 then ((some (y103 ++ y106 : List Int)).bind fun y110 => (if y110.length < 17592186044416 then ((some (y110 ++ [a1] : List Int)).bind fun y113 => ((some (l0.drop (x5_1 : Int).toNat : List Int)).bind fun y116 => (if y113.length + y116.length < 17592186044416 then (some (y113 ++ y116)) else (none)))) else (none))) else (none))) else (none)) = some r := by first | (rw [hy103]; with_reducible exact H) | (have H2_ := (Option.bind_some _ _).symm.trans H; rw [hy103]; with_reducible exact H2_) | (have H2_ := (Option.bind_some _ _).symm.trans H; with_reducible exact H2_) | with_reducible exact H | (rw [hy103]; exact H) | exact H
           have Ny103 := zA hy103; clear hy103; have c9b0 := eq_true (of_decide_eq_true (by assumption) : 0 ≤ x5_1); by_cases c10 : x5_1 ≤ (l0.length : Int)
           · rw [if_pos c10] at H; have c10b0 := eq_true c10; have c10b1 : decide (x5_1 ≤ (l0.length : Int)) = true := decide_eq_true c10; clear c10; obtain ⟨y106, hy106⟩ : ∃ y_ : List Int, y_ = (l0.take (x5_1 : Int).toNat) := ⟨_, rfl⟩
             replace H : (if y103.length + y106.length < 17592186044416 then ((some (y103 ++ y106 : List Int)).bind fun y110 => (if y110.length < 17592186044416 then ((some (y110 ++ [a1] : List Int)).bind fun y113 => ((some (l0.drop (x5_1 : Int).toNat : List Int)).bind fun y116 => (if y113.length + y116.length < 17592186044416 then (some (y113 ++ y116)) else (none)))) else (none))) else (none)) = some r := by first | (rw [hy106]; with_reducible exact H) | (have H2_ := (Option.bind_some _ _).symm.trans H; rw [hy106]; with_reducible exact H2_) | (have H2_ := (Option.bind_some _ _).symm.trans H; with_reducible exact H2_) | with_reducible exact H | (rw [hy106]; exact H) | exact H
             have Ny106 := zA hy106; clear hy106; by_cases c11 : y103.length + y106.length < 17592186044416
             · rw [if_pos c11] at H; have LMc11 := zA c11; clear c11; obtain ⟨y110, hy110⟩ : ∃ y_ : List Int, y_ = (y103 ++ y106) := ⟨_, rfl⟩
               replace H : (if y110.length < 17592186044416 then ((some (y110 ++ [a1] : List Int)).bind fun y113 => ((some (l0.drop (x5_1 : Int).toNat : List Int)).bind fun y116 => (if y113.length + y116.length < 17592186044416 then (some (y113 ++ y116)) else (none)))) else (none)) = some r := by first | (rw [hy110]; with_reducible exact H) | (have H2_ := (Option.bind_some _ _).symm.trans H; rw [hy110]; with_reducible exact H2_) | (have H2_ := (Option.bind_some _ _).symm.trans H; with_reducible exact H2_) | with_reducible exact H | (rw [hy110]; exact H) | exact H
               have Ny110 := zA hy110; clear hy110; by_cases c12 : y110.length < 17592186044416
               · rw [if_pos c12] at H; have LMc12 := zA c12; clear c12; obtain ⟨y113, hy113⟩ : ∃ y_ : List Int, y_ = (y110 ++ [a1]) := ⟨_, rfl⟩
                 replace H : ((some (l0.drop (x5_1 : Int).toNat : List Int)).bind fun y116 => (if y113.length + y116.length < 17592186044416 then (some (y113 ++ y116)) else (none))) = some r := by first | (rw [hy113]; with_reducible exact H) | (have H2_ := (Option.bind_some _ _).symm.trans H; rw [hy113]; with_reducible exact H2_) | (have H2_ := (Option.bind_some _ _).symm.trans H; with_reducible exact H2_) | with_reducible exact H | (rw [hy113]; exact H) | exact H
                 have Ny113 := zA hy113; clear hy113; have c13b0 := eq_true (of_decide_eq_true (by assumption) : 0 ≤ x5_1); have c14b0 := eq_true (of_decide_eq_true (by assumption) : x5_1 ≤ (l0.length : Int)); obtain ⟨y116, hy116⟩ : ∃ y_ : List Int, y_ = (l0.drop (x5_1 : Int).toNat) := ⟨_, rfl⟩
                 replace H : (if y113.length + y116.length < 17592186044416 then (some (y113 ++ y116)) else (none)) = some r := by first | (rw [hy116]; with_reducible exact H) | (have H2_ := (Option.bind_some _ _).symm.trans H; rw [hy116]; with_reducible exact H2_) | (have H2_ := (Option.bind_some _ _).symm.trans H; with_reducible exact H2_) | with_reducible exact H | (rw [hy116]; exact H) | exact H
                 have Ny116 := zA hy116; clear hy116; by_cases c15 : y113.length + y116.length < 17592186044416
                 · rw [if_pos c15] at H; have LMc15 := zA c15; clear c15; obtain ⟨y120, hy120⟩ : ∃ y_ : List Int, y_ = (y113 ++ y116) := ⟨_, rfl⟩
                   replace H : (some y120) = some r := by first | (rw [hy120]; with_reducible exact H) | (have H2_ := (Option.bind_some _ _).symm.trans H; rw [hy120]; with_reducible exact H2_) | (have H2_ := (Option.bind_some _ _).symm.trans H; with_reducible exact H2_) | with_reducible exact H | (rw [hy120]; exact H) | exact H
                   have Ny120 := zA hy120; clear hy120; obtain rfl := Option.some.inj H; obtain ⟨Ao16, co16, eo16⟩ := Kd.R_slice HO_0.out; subst eo16; have p101 : 0 ≤ (x5_1 : Int) := of_decide_eq_true (by assumption); have q101 : x5_1 < (l0.length : Int) := of_decide_eq_true (by assumption); obtain ⟨ad101, e101, hx101_0⟩ := Kd.at_int (Kd.R_reads' HO_0.out).2.2 x5_1 p101 q101; cases e101; replace p101 := eq_true p101; replace q101 := eq_true q101; have p102 : 0 ≤ (x5_1 : Int) := of_decide_eq_true (by assumption); have q102 : x5_1 < (l0.length : Int) := of_decide_eq_true (by assumption); obtain ⟨ad102, e102, hx102_0⟩ := Kd.at_int (Kd.R_reads' HO_0.out).2.2 x5_1 p102 q102; obtain rfl : ad101 = ad102 := (by injection e102)
                   replace p102 := eq_true p102; replace q102 := eq_true q102; go_wp2_with (first | ((with_reducible refine gate_dst (N := 34) rfl ?_); refine Kd.R_lit (Kd.int .i64) _ 3 ?hg (N := 34) ?hd (xs := ([] : List Int)) (inner := []) (ok := fun _ => True) (okp := fun _ => True) ?hr ?hp (fun _ hk => hk) trivial (Below.refl _ _) (Nat.le_refl _) (by simp) ?_; (case hd => rfl); (case hg => rfl); (case hr => first | (go_simp; done) | (go_simp; rfl)); (case hp => exact (Reps.none _ _)); intro v104 w17 ho18 hb hg_ hnew_; clear hg_ hnew_; (first | rw [← Ny103.out] at ho18 | (simp only [Int.reduceToNat] at ho18; rw [← Ny103.out] at ho18)); have n0_ := zA (Kd.R_elder' (by (with_reducible repeat (first | apply zT | apply Kd.R_drewN | apply zV)); exact HO_0.out) (Kd.R_base ho18) hb); have n1_ := zA (Kd.R_lower (Kd.R_new' (Kd.R_newM (M := fun k_ => (P0_ k_ ∨ w.heap.size ≤ k_)) ho18 (by first | exact HK.out.1 | exact (show Kept w _ (fun k_ => P0_ k_) from by repeat (first | (with_reducible first | exact HK.out | apply Kept.alloc | apply Kept.drewN | apply Kept.drew) | exact HK.out)).1) (fun k_ h_ => .inr h_)) (Kd.R_lt (by (with_reducible repeat (first | apply zT | apply Kd.R_drewN | apply zV)); exact HO_0.out))) (zF (by repeat (first | (with_reducible first | exact HB.out | apply zB | apply zC | apply zD) | exact HB.out)))); have n2_ := zA (Kept.below (S := (fun k_ => P0_ k_)) (by repeat (first | (with_reducible first | exact HK.out | apply Kept.alloc | apply Kept.drewN | apply Kept.drew) | exact HK.out)) hb); have n3_ := zA (zG (by repeat (first | (with_reducible first | exact HB.out | apply zB | apply zC | apply zD) | exact HB.out)) hb); clear HO_0; clear HK; clear HB; have HO_0 := n0_; have HO105 := n1_; have HK := n2_; have HB := n3_; clear n0_ n1_ n2_ n3_; clear hb ho18; have q19 : (x5_1 : Int) ≤ ((l0.length : Int) : Int) := of_decide_eq_true (by assumption); obtain ⟨i019, hi019, _, hsz19, _⟩ := info_parts info3; have hroom19 : l0.length ≤ co16 := (Kd.R_reads' HO_0.out).2.1; have hC19 : Kd.C (Kd.int .i64) _ (some ad101) l0.length l0 := (Kd.R_reads' HO_0.out).2.2; have hcut19 := cut_to (P := Try.prog) 23 3 .i64 Try.underlying23 hi019 (some ad101) l0.length co16 x5_1 (of_decide_eq_true (by assumption)) q19 hroom19; have hr19 := Kd.C_take (m := (x5_1 : Int).toNat) hC19 (by omega); have hy19 : y106.length = (x5_1 : Int).toNat := (by rw [Ny106.out, List.length_take]; omega); rw [← Ny106.out] at hr19; rw [← hy19] at hcut19; have HR109 := zA hr19; have HC109 := zA (show y106.length ≤ co16 from by omega); clear hr19 hC19 hroom19 hi019 hsz19; have KY19 := zA hy19; clear hy19; have KL19 := zA (show (x5_1 : Int).toNat ≤ l0.length from by omega); replace q19 := eq_true q19) | ((with_reducible refine gate_builtin (b := .append) (xs := #[.tmp 34, .tmp 37]) rfl ?_); at_builtin; refine Kd.R_append_rows (Kd.int .i64) (w0 := w0) w0.heap.size rfl (.tmp 34) (.tmp 37) 23 3 (.int .i64 0) 8 rfl Try.underlying23 info3 rfl (by decide) (by omega) v104 y103 y106 _ _ _ (fun k_ => (P0_ k_ ∨ w.heap.size ≤ k_) ∧ some k_ ≠ (.slice (some ad101) l0.length co16 : Value).ownBlock) (fun _ => False) rfl rfl ?aO ?aR (fun _ _ h => h) (fun _ h => h.elim) ?aF ?aB ?aS ?aL ?_; (case aR => repeat (first | exact (by repeat (first | (with_reducible exact HR109.out) | refine zP ?_ _ | refine zQ ?_ _ | refine zR ?_ | exact HR109.out)) | refine zP ?_ _ | refine zQ ?_ _ | refine zR ?_)); (case aB => exact (by repeat (first | (with_reducible first | exact HB.out | apply zB | apply zC | apply zD) | exact HB.out))); (case aF => exact (fun k_ hk => ⟨(.inr (Nat.le_trans (by first | exact HK.out.1 | exact (show Kept w _ (fun k_ => P0_ k_) from by repeat (first | (with_reducible first | exact HK.out | apply Kept.alloc | apply Kept.drewN | apply Kept.drew) | exact HK.out)).1) hk)), Kd.fresh' (Kd.R_lt (by (with_reducible repeat (first | apply zT | apply Kd.R_drewN | apply zV)); exact HO_0.out)) k_ hk⟩)); (case aO => exact (by (with_reducible repeat (first | apply zT | apply Kd.R_drewN | apply zV)); exact Kd.R_mono HO105.out (fun _ hk => ⟨hk.1.1, hk.2⟩))); (case aS => exact (zF (by repeat (first | (with_reducible first | exact HB.out | apply zB | apply zC | apply zD) | exact HB.out)))); (case aL => have := LMc11.out; omega); intro v111 w20 ho hb hg hat; rw [← Ny110.out] at ho; have n0_ := zA (Kd.R_after (ok := (fun k_ => (P0_ k_ ∨ w.heap.size ≤ k_))) (by (with_reducible repeat (first | apply zT | apply Kd.R_drewN | apply zV)); exact HO_0.out) hg hat); have n1_ := zA (hb); have n2_ := zA (Kept.of_grown (S := (fun k_ => P0_ k_)) hg (by repeat (first | (with_reducible first | exact HK.out | apply Kept.alloc | apply Kept.drewN | apply Kept.drew) | exact HK.out)) (fun k_ e_ => (HO105.out.1 k_ e_).1.1)); have n3_ := zA ((show Kd.C (Kd.int .i64) w20 (some ad101) y106.length y106 from by rw [Ny106.out]; exact Kd.C_take (m := (x5_1 : Int).toNat) ((Kd.R_reads' (Kd.R_after (ok := (fun k_ => (P0_ k_ ∨ w.heap.size ≤ k_))) (by (with_reducible repeat (first | apply zT | apply Kd.R_drewN | apply zV)); exact HO_0.out) hg hat)).2.2) KL19.out)); have n4_ := zA (ho); clear HO_0; clear HB; clear HK; clear HR109; clear HO105; have HO_0 := n0_; have HB := n1_; have HK := n2_; have HR109 := n3_; have HO112 := n4_; clear n0_ n1_ n2_ n3_ n4_; clear ho hb hg hat) | ((with_reducible refine gate_builtin (b := .append) (xs := #[.tmp 39, .tmp 41]) rfl ?_); at_builtin; refine Kd.R_append (Kd.int .i64) (w0 := w0) w0.heap.size rfl (.tmp 39) (.tmp 41) 23 3 (.int .i64 0) 8 rfl Try.underlying23 info3 rfl (by decide) (by omega) v111 y110 a1 [.int .i64 a1] (fun k_ => (P0_ k_ ∨ w.heap.size ≤ k_) ∧ some k_ ≠ (.slice (some ad101) l0.length co16 : Value).ownBlock) (fun _ => False) rfl rfl ?aP (fun _ hk => hk.elim) ?aF ?aO ?aB ?aS ?aL ?_; (case aP => exact rfl); (case aB => exact (by repeat (first | (with_reducible first | exact HB.out | apply zB | apply zC | apply zD) | exact HB.out))); (case aF => exact (fun k_ hk => ⟨(.inr (Nat.le_trans (by first | exact HK.out.1 | exact (show Kept w _ (fun k_ => P0_ k_) from by repeat (first | (with_reducible first | exact HK.out | apply Kept.alloc | apply Kept.drewN | apply Kept.drew) | exact HK.out)).1) hk)), Kd.fresh' (Kd.R_lt (by (with_reducible repeat (first | apply zT | apply Kd.R_drewN | apply zV)); exact HO_0.out)) k_ hk⟩)); (case aO => exact (by (with_reducible repeat (first | apply zT | apply Kd.R_drewN | apply zV)); exact HO112.out)); (case aS => exact (zF (by repeat (first | (with_reducible first | exact HB.out | apply zB | apply zC | apply zD) | exact HB.out)))); (case aL => have := LMc12.out; omega); intro v114 w21 ho hb hg hat; rw [← Ny113.out] at ho; have n0_ := zA (Kd.R_after (ok := (fun k_ => (P0_ k_ ∨ w.heap.size ≤ k_))) (by (with_reducible repeat (first | apply zT | apply Kd.R_drewN | apply zV)); exact HO_0.out) hg hat); have n1_ := zA (hb); have n2_ := zA (Kept.of_grown (S := (fun k_ => P0_ k_)) hg (by repeat (first | (with_reducible first | exact HK.out | apply Kept.alloc | apply Kept.drewN | apply Kept.drew) | exact HK.out)) (fun k_ e_ => (HO112.out.1 k_ e_).1)); have n3_ := zA ((show Kd.C (Kd.int .i64) w21 (some ad101) y106.length y106 from by rw [Ny106.out]; exact Kd.C_take (m := (x5_1 : Int).toNat) ((Kd.R_reads' (Kd.R_after (ok := (fun k_ => (P0_ k_ ∨ w.heap.size ≤ k_))) (by (with_reducible repeat (first | apply zT | apply Kd.R_drewN | apply zV)); exact HO_0.out) hg hat)).2.2) KL19.out)); have n4_ := zA (ho); clear HO_0; clear HB; clear HK; clear HR109; clear HO112; have HO_0 := n0_; have HB := n1_; have HK := n2_; have HR109 := n3_; have HO115 := n4_; clear n0_ n1_ n2_ n3_ n4_; clear ho hb hg hat; have q22 : (x5_1 : Int) ≤ ((l0.length : Int) : Int) := of_decide_eq_true (by assumption); obtain ⟨i022, hi022, _, hsz22, _⟩ := info_parts info3; have hroom22 : l0.length ≤ co16 := (Kd.R_reads' HO_0.out).2.1; have hC22 : Kd.C (Kd.int .i64) _ (some ad101) l0.length l0 := (Kd.R_reads' HO_0.out).2.2; have q022 : (0 : Int) ≤ (x5_1 : Int) := of_decide_eq_true (by assumption); have hcut22 := cut_from (P := Try.prog) 23 3 .i64 Try.underlying23 hi022 1 hsz22 (some ad101) l0.length co16 x5_1 q022 q22; have hr22 := Kd.C_drop (m := (x5_1 : Int).toNat) (c := co16) hC22 (by omega) hroom22; obtain ⟨A22, hA22⟩ : ∃ A1, A1 = (if co16 = (x5_1 : Int).toNat then (some ad101) else ((some ad101) : Option Addr).map (·.add ((x5_1 : Int).toNat * 1))) := ⟨_, rfl⟩; obtain ⟨c22, hc22⟩ : ∃ c1, c1 = co16 - (x5_1 : Int).toNat := ⟨_, rfl⟩; have hy22 : y116.length = l0.length - (x5_1 : Int).toNat := (by rw [Ny116.out, List.length_drop] <;> omega); rw [show (l0).drop (x5_1 : Int).toNat = y116 from Ny116.out.symm] at hr22; replace hr22 : Kd.C (Kd.int .i64) _ A22 y116.length y116 := (by rw [hA22]; exact hr22); rw [← hy22, ← hA22, ← hc22] at hcut22; have HR119 := zA hr22; have HC119 := zA (show y116.length ≤ c22 from by rw [hy22, hc22]; exact Nat.sub_le_sub_right hroom22 _); clear hr22 hC22 hroom22 hi022 hsz22 hc22; have KY22 := zA hy22; have KA22 := zA hA22; clear hy22 hA22; have KL22 := zA (show (x5_1 : Int).toNat ≤ l0.length from by omega); replace q22 := eq_true q22) | ((with_reducible refine gate_builtin (b := .append) (xs := #[.tmp 43, .tmp 46]) rfl ?_); at_builtin; refine Kd.R_append_rows (Kd.int .i64) (w0 := w0) w0.heap.size rfl (.tmp 43) (.tmp 46) 23 3 (.int .i64 0) 8 rfl Try.underlying23 info3 rfl (by decide) (by omega) v114 y113 y116 _ _ _ (fun k_ => (P0_ k_ ∨ w.heap.size ≤ k_) ∧ some k_ ≠ (.slice (some ad101) l0.length co16 : Value).ownBlock) (fun _ => False) rfl rfl ?aO ?aR (fun _ _ h => h) (fun _ h => h.elim) ?aF ?aB ?aS ?aL ?_; (case aR => repeat (first | exact (by repeat (first | (with_reducible exact HR119.out) | refine zP ?_ _ | refine zQ ?_ _ | refine zR ?_ | exact HR119.out)) | refine zP ?_ _ | refine zQ ?_ _ | refine zR ?_)); (case aB => exact (by repeat (first | (with_reducible first | exact HB.out | apply zB | apply zC | apply zD) | exact HB.out))); (case aF => exact (fun k_ hk => ⟨(.inr (Nat.le_trans (by first | exact HK.out.1 | exact (show Kept w _ (fun k_ => P0_ k_) from by repeat (first | (with_reducible first | exact HK.out | apply Kept.alloc | apply Kept.drewN | apply Kept.drew) | exact HK.out)).1) hk)), Kd.fresh' (Kd.R_lt (by (with_reducible repeat (first | apply zT | apply Kd.R_drewN | apply zV)); exact HO_0.out)) k_ hk⟩)); (case aO => exact (by (with_reducible repeat (first | apply zT | apply Kd.R_drewN | apply zV)); exact HO115.out)); (case aS => exact (zF (by repeat (first | (with_reducible first | exact HB.out | apply zB | apply zC | apply zD) | exact HB.out)))); (case aL => have := LMc15.out; omega); intro v121 w23 ho hb hg hat; rw [← Ny120.out] at ho; have n0_ := zA (Kd.R_after (ok := (fun k_ => (P0_ k_ ∨ w.heap.size ≤ k_))) (by (with_reducible repeat (first | apply zT | apply Kd.R_drewN | apply zV)); exact HO_0.out) hg hat); have n1_ := zA (hb); have n2_ := zA (Kept.of_grown (S := (fun k_ => P0_ k_)) hg (by repeat (first | (with_reducible first | exact HK.out | apply Kept.alloc | apply Kept.drewN | apply Kept.drew) | exact HK.out)) (fun k_ e_ => (HO115.out.1 k_ e_).1)); have n3_ := zA ((show Kd.C (Kd.int .i64) w23 (some ad101) y106.length y106 from by rw [Ny106.out]; exact Kd.C_take (m := (x5_1 : Int).toNat) ((Kd.R_reads' (Kd.R_after (ok := (fun k_ => (P0_ k_ ∨ w.heap.size ≤ k_))) (by (with_reducible repeat (first | apply zT | apply Kd.R_drewN | apply zV)); exact HO_0.out) hg hat)).2.2) KL19.out)); have n4_ := zA ((show Kd.C (Kd.int .i64) w23 A22 y116.length y116 from by rw [Ny116.out, KA22.out]; exact Kd.C_drop (m := (x5_1 : Int).toNat) (c := co16) ((Kd.R_reads' (Kd.R_after (ok := (fun k_ => (P0_ k_ ∨ w.heap.size ≤ k_))) (by (with_reducible repeat (first | apply zT | apply Kd.R_drewN | apply zV)); exact HO_0.out) hg hat)).2.2) KL22.out ((Kd.R_reads' (Kd.R_after (ok := (fun k_ => (P0_ k_ ∨ w.heap.size ≤ k_))) (by (with_reducible repeat (first | apply zT | apply Kd.R_drewN | apply zV)); exact HO_0.out) hg hat)).2.1))); have n5_ := zA (ho); clear HO_0; clear HB; clear HK; clear HR109; clear HR119; clear HO115; have HO_0 := n0_; have HB := n1_; have HK := n2_; have HR109 := n3_; have HR119 := n4_; have HO122 := n5_; clear n0_ n1_ n2_ n3_ n4_ n5_; clear ho hb hg hat)); go_ret; exact ⟨_, by first | rfl | (simp [errW_none, errW_some] <;> rfl) | (simp [*, errW_none, errW_some] <;> rfl), by (with_reducible repeat (first | apply zT | apply Kd.R_drewN | apply zV)); exact Kd.R_mono HO122.out (fun _ hk => hk.1), by repeat (first | (with_reducible first | exact HB.out | apply zB | apply zC | apply zD) | exact HB.out), by repeat (first | (with_reducible first | exact HK.out | apply Kept.alloc | apply Kept.drewN | apply Kept.drew) | exact HK.out)⟩
                 · rw [if_neg c15] at H; exact absurd H (by simp)
               · rw [if_neg c12] at H; exact absurd H (by simp)
             · rw [if_neg c11] at H; exact absurd H (by simp)
           · rw [if_neg c10] at H; exact absurd H (by simp)
     · rw [if_neg c4] at H; exact absurd H (by simp)
   · rw [if_neg c3] at H; have c3b0 : decide (x5_1 < (l0.length : Int)) = false := decide_eq_false c3; clear c3; obtain ⟨y123, hy123⟩ : ∃ y_ : List Int, y_ = (([] : List Int)) := ⟨_, rfl⟩
     replace H : (if 0 ≤ x5_1 then (if x5_1 ≤ (l0.length : Int) then ((some (l0.take (x5_1 : Int).toNat : List Int)).bind fun y126 => (if y123.length + y126.length < 17592186044416 then ((some (y123 ++ y126 : List Int)).bind fun y130 => (if y130.length < 17592186044416 then ((some (y130 ++ [a1] : List Int)).bind fun y133 => ((some (l0.drop (x5_1 : Int).toNat : List Int)).bind fun y136 => (if y133.length + y136.length < 17592186044416 then (some (y133 ++ y136)) else (none)))) else (none))) else (none))) else (none)) else (none)) = some r := by first | (rw [hy123]; with_reducible exact H) | (have H2_ := (Option.bind_some _ _).symm.trans H; rw [hy123]; with_reducible exact H2_) | (have H2_ := (Option.bind_some _ _).symm.trans H; with_reducible exact H2_) | with_reducible exact H | (rw [hy123]; exact H) | exact H
     have Ny123 := zA hy123; clear hy123; by_cases c24 : 0 ≤ x5_1
     · rw [if_pos c24] at H; have c24b0 := eq_true c24; have c24b1 : decide (0 ≤ x5_1) = true := decide_eq_true c24; clear c24; by_cases c25 : x5_1 ≤ (l0.length : Int)
       · rw [if_pos c25] at H; have c25b0 := eq_true c25; have c25b1 : decide (x5_1 ≤ (l0.length : Int)) = true := decide_eq_true c25; clear c25; obtain ⟨y126, hy126⟩ : ∃ y_ : List Int, y_ = (l0.take (x5_1 : Int).toNat) := ⟨_, rfl⟩
         replace H : (if y123.length + y126.length < 17592186044416 then ((some (y123 ++ y126 : List Int)).bind fun y130 => (if y130.length < 17592186044416 then ((some (y130 ++ [a1] : List Int)).bind fun y133 => ((some (l0.drop (x5_1 : Int).toNat : List Int)).bind fun y136 => (if y133.length + y136.length < 17592186044416 then (some (y133 ++ y136)) else (none)))) else (none))) else (none)) = some r := by first | (rw [hy126]; with_reducible exact H) | (have H2_ := (Option.bind_some _ _).symm.trans H; rw [hy126]; with_reducible exact H2_) | (have H2_ := (Option.bind_some _ _).symm.trans H; with_reducible exact H2_) | with_reducible exact H | (rw [hy126]; exact H) | exact H
         have Ny126 := zA hy126; clear hy126; by_cases c26 : y123.length + y126.length < 17592186044416
         · rw [if_pos c26] at H; have LMc26 := zA c26; clear c26; obtain ⟨y130, hy130⟩ : ∃ y_ : List Int, y_ = (y123 ++ y126) := ⟨_, rfl⟩
           replace H : (if y130.length < 17592186044416 then ((some (y130 ++ [a1] : List Int)).bind fun y133 => ((some (l0.drop (x5_1 : Int).toNat : List Int)).bind fun y136 => (if y133.length + y136.length < 17592186044416 then (some (y133 ++ y136)) else (none)))) else (none)) = some r := by first | (rw [hy130]; with_reducible exact H) | (have H2_ := (Option.bind_some _ _).symm.trans H; rw [hy130]; with_reducible exact H2_) | (have H2_ := (Option.bind_some _ _).symm.trans H; with_reducible exact H2_) | with_reducible exact H | (rw [hy130]; exact H) | exact H
           have Ny130 := zA hy130; clear hy130; by_cases c27 : y130.length < 17592186044416
           · rw [if_pos c27] at H; have LMc27 := zA c27; clear c27; obtain ⟨y133, hy133⟩ : ∃ y_ : List Int, y_ = (y130 ++ [a1]) := ⟨_, rfl⟩
             replace H : ((some (l0.drop (x5_1 : Int).toNat : List Int)).bind fun y136 => (if y133.length + y136.length < 17592186044416 then (some (y133 ++ y136)) else (none))) = some r := by first | (rw [hy133]; with_reducible exact H) | (have H2_ := (Option.bind_some _ _).symm.trans H; rw [hy133]; with_reducible exact H2_) | (have H2_ := (Option.bind_some _ _).symm.trans H; with_reducible exact H2_) | with_reducible exact H | (rw [hy133]; exact H) | exact H
             have Ny133 := zA hy133; clear hy133; have c28b0 := eq_true (of_decide_eq_true (by assumption) : 0 ≤ x5_1); have c29b0 := eq_true (of_decide_eq_true (by assumption) : x5_1 ≤ (l0.length : Int)); obtain ⟨y136, hy136⟩ : ∃ y_ : List Int, y_ = (l0.drop (x5_1 : Int).toNat) := ⟨_, rfl⟩
             replace H : (if y133.length + y136.length < 17592186044416 then (some (y133 ++ y136)) else (none)) = some r := by first | (rw [hy136]; with_reducible exact H) | (have H2_ := (Option.bind_some _ _).symm.trans H; rw [hy136]; with_reducible exact H2_) | (have H2_ := (Option.bind_some _ _).symm.trans H; with_reducible exact H2_) | with_reducible exact H | (rw [hy136]; exact H) | exact H
             have Ny136 := zA hy136; clear hy136; by_cases c30 : y133.length + y136.length < 17592186044416
             · rw [if_pos c30] at H; have LMc30 := zA c30; clear c30; obtain ⟨y140, hy140⟩ : ∃ y_ : List Int, y_ = (y133 ++ y136) := ⟨_, rfl⟩
               replace H : (some y140) = some r := by first | (rw [hy140]; with_reducible exact H) | (have H2_ := (Option.bind_some _ _).symm.trans H; rw [hy140]; with_reducible exact H2_) | (have H2_ := (Option.bind_some _ _).symm.trans H; with_reducible exact H2_) | with_reducible exact H | (rw [hy140]; exact H) | exact H
               have Ny140 := zA hy140; clear hy140; obtain rfl := Option.some.inj H; obtain ⟨Ao31, co31, eo31⟩ := Kd.R_slice HO_0.out; subst eo31; go_wp2_with (first | ((with_reducible refine gate_dst (N := 34) rfl ?_); refine Kd.R_lit (Kd.int .i64) _ 3 ?hg (N := 34) ?hd (xs := ([] : List Int)) (inner := []) (ok := fun _ => True) (okp := fun _ => True) ?hr ?hp (fun _ hk => hk) trivial (Below.refl _ _) (Nat.le_refl _) (by simp) ?_; (case hd => rfl); (case hg => rfl); (case hr => first | (go_simp; done) | (go_simp; rfl)); (case hp => exact (Reps.none _ _)); intro v124 w32 ho33 hb hg_ hnew_; clear hg_ hnew_; (first | rw [← Ny123.out] at ho33 | (simp only [Int.reduceToNat] at ho33; rw [← Ny123.out] at ho33)); have n0_ := zA (Kd.R_elder' (by (with_reducible repeat (first | apply zT | apply Kd.R_drewN | apply zV)); exact HO_0.out) (Kd.R_base ho33) hb); have n1_ := zA (Kd.R_lower (Kd.R_new' (Kd.R_newM (M := fun k_ => (P0_ k_ ∨ w.heap.size ≤ k_)) ho33 (by first | exact HK.out.1 | exact (show Kept w _ (fun k_ => P0_ k_) from by repeat (first | (with_reducible first | exact HK.out | apply Kept.alloc | apply Kept.drewN | apply Kept.drew) | exact HK.out)).1) (fun k_ h_ => .inr h_)) (Kd.R_lt (by (with_reducible repeat (first | apply zT | apply Kd.R_drewN | apply zV)); exact HO_0.out))) (zF (by repeat (first | (with_reducible first | exact HB.out | apply zB | apply zC | apply zD) | exact HB.out)))); have n2_ := zA (Kept.below (S := (fun k_ => P0_ k_)) (by repeat (first | (with_reducible first | exact HK.out | apply Kept.alloc | apply Kept.drewN | apply Kept.drew) | exact HK.out)) hb); have n3_ := zA (zG (by repeat (first | (with_reducible first | exact HB.out | apply zB | apply zC | apply zD) | exact HB.out)) hb); clear HO_0; clear HK; clear HB; have HO_0 := n0_; have HO125 := n1_; have HK := n2_; have HB := n3_; clear n0_ n1_ n2_ n3_; clear hb ho33; have q34 : (x5_1 : Int) ≤ ((l0.length : Int) : Int) := of_decide_eq_true (by assumption); obtain ⟨i034, hi034, _, hsz34, _⟩ := info_parts info3; have hroom34 : l0.length ≤ co31 := (Kd.R_reads' HO_0.out).2.1; have hC34 : Kd.C (Kd.int .i64) _ Ao31 l0.length l0 := (Kd.R_reads' HO_0.out).2.2; have hcut34 := cut_to (P := Try.prog) 23 3 .i64 Try.underlying23 hi034 Ao31 l0.length co31 x5_1 (of_decide_eq_true (by assumption)) q34 hroom34; have hr34 := Kd.C_take (m := (x5_1 : Int).toNat) hC34 (by omega); have hy34 : y126.length = (x5_1 : Int).toNat := (by rw [Ny126.out, List.length_take]; omega); rw [← Ny126.out] at hr34; rw [← hy34] at hcut34; have HR129 := zA hr34; have HC129 := zA (show y126.length ≤ co31 from by omega); clear hr34 hC34 hroom34 hi034 hsz34; have KY34 := zA hy34; clear hy34; have KL34 := zA (show (x5_1 : Int).toNat ≤ l0.length from by omega); replace q34 := eq_true q34) | ((with_reducible refine gate_builtin (b := .append) (xs := #[.tmp 34, .tmp 37]) rfl ?_); at_builtin; refine Kd.R_append_rows (Kd.int .i64) (w0 := w0) w0.heap.size rfl (.tmp 34) (.tmp 37) 23 3 (.int .i64 0) 8 rfl Try.underlying23 info3 rfl (by decide) (by omega) v124 y123 y126 _ _ _ (fun k_ => (P0_ k_ ∨ w.heap.size ≤ k_) ∧ some k_ ≠ (.slice Ao31 l0.length co31 : Value).ownBlock) (fun _ => False) rfl rfl ?aO ?aR (fun _ _ h => h) (fun _ h => h.elim) ?aF ?aB ?aS ?aL ?_; (case aR => repeat (first | exact (by repeat (first | (with_reducible exact HR129.out) | refine zP ?_ _ | refine zQ ?_ _ | refine zR ?_ | exact HR129.out)) | refine zP ?_ _ | refine zQ ?_ _ | refine zR ?_)); (case aB => exact (by repeat (first | (with_reducible first | exact HB.out | apply zB | apply zC | apply zD) | exact HB.out))); (case aF => exact (fun k_ hk => ⟨(.inr (Nat.le_trans (by first | exact HK.out.1 | exact (show Kept w _ (fun k_ => P0_ k_) from by repeat (first | (with_reducible first | exact HK.out | apply Kept.alloc | apply Kept.drewN | apply Kept.drew) | exact HK.out)).1) hk)), Kd.fresh' (Kd.R_lt (by (with_reducible repeat (first | apply zT | apply Kd.R_drewN | apply zV)); exact HO_0.out)) k_ hk⟩)); (case aO => exact (by (with_reducible repeat (first | apply zT | apply Kd.R_drewN | apply zV)); exact Kd.R_mono HO125.out (fun _ hk => ⟨hk.1.1, hk.2⟩))); (case aS => exact (zF (by repeat (first | (with_reducible first | exact HB.out | apply zB | apply zC | apply zD) | exact HB.out)))); (case aL => have := LMc26.out; omega); intro v131 w35 ho hb hg hat; rw [← Ny130.out] at ho; have n0_ := zA (Kd.R_after (ok := (fun k_ => (P0_ k_ ∨ w.heap.size ≤ k_))) (by (with_reducible repeat (first | apply zT | apply Kd.R_drewN | apply zV)); exact HO_0.out) hg hat); have n1_ := zA (hb); have n2_ := zA (Kept.of_grown (S := (fun k_ => P0_ k_)) hg (by repeat (first | (with_reducible first | exact HK.out | apply Kept.alloc | apply Kept.drewN | apply Kept.drew) | exact HK.out)) (fun k_ e_ => (HO125.out.1 k_ e_).1.1)); have n3_ := zA ((show Kd.C (Kd.int .i64) w35 Ao31 y126.length y126 from by rw [Ny126.out]; exact Kd.C_take (m := (x5_1 : Int).toNat) ((Kd.R_reads' (Kd.R_after (ok := (fun k_ => (P0_ k_ ∨ w.heap.size ≤ k_))) (by (with_reducible repeat (first | apply zT | apply Kd.R_drewN | apply zV)); exact HO_0.out) hg hat)).2.2) KL34.out)); have n4_ := zA (ho); clear HO_0; clear HB; clear HK; clear HR129; clear HO125; have HO_0 := n0_; have HB := n1_; have HK := n2_; have HR129 := n3_; have HO132 := n4_; clear n0_ n1_ n2_ n3_ n4_; clear ho hb hg hat) | ((with_reducible refine gate_builtin (b := .append) (xs := #[.tmp 39, .tmp 41]) rfl ?_); at_builtin; refine Kd.R_append (Kd.int .i64) (w0 := w0) w0.heap.size rfl (.tmp 39) (.tmp 41) 23 3 (.int .i64 0) 8 rfl Try.underlying23 info3 rfl (by decide) (by omega) v131 y130 a1 [.int .i64 a1] (fun k_ => (P0_ k_ ∨ w.heap.size ≤ k_) ∧ some k_ ≠ (.slice Ao31 l0.length co31 : Value).ownBlock) (fun _ => False) rfl rfl ?aP (fun _ hk => hk.elim) ?aF ?aO ?aB ?aS ?aL ?_; (case aP => exact rfl); (case aB => exact (by repeat (first | (with_reducible first | exact HB.out | apply zB | apply zC | apply zD) | exact HB.out))); (case aF => exact (fun k_ hk => ⟨(.inr (Nat.le_trans (by first | exact HK.out.1 | exact (show Kept w _ (fun k_ => P0_ k_) from by repeat (first | (with_reducible first | exact HK.out | apply Kept.alloc | apply Kept.drewN | apply Kept.drew) | exact HK.out)).1) hk)), Kd.fresh' (Kd.R_lt (by (with_reducible repeat (first | apply zT | apply Kd.R_drewN | apply zV)); exact HO_0.out)) k_ hk⟩)); (case aO => exact (by (with_reducible repeat (first | apply zT | apply Kd.R_drewN | apply zV)); exact HO132.out)); (case aS => exact (zF (by repeat (first | (with_reducible first | exact HB.out | apply zB | apply zC | apply zD) | exact HB.out)))); (case aL => have := LMc27.out; omega); intro v134 w36 ho hb hg hat; rw [← Ny133.out] at ho; have n0_ := zA (Kd.R_after (ok := (fun k_ => (P0_ k_ ∨ w.heap.size ≤ k_))) (by (with_reducible repeat (first | apply zT | apply Kd.R_drewN | apply zV)); exact HO_0.out) hg hat); have n1_ := zA (hb); have n2_ := zA (Kept.of_grown (S := (fun k_ => P0_ k_)) hg (by repeat (first | (with_reducible first | exact HK.out | apply Kept.alloc | apply Kept.drewN | apply Kept.drew) | exact HK.out)) (fun k_ e_ => (HO132.out.1 k_ e_).1)); have n3_ := zA ((show Kd.C (Kd.int .i64) w36 Ao31 y126.length y126 from by rw [Ny126.out]; exact Kd.C_take (m := (x5_1 : Int).toNat) ((Kd.R_reads' (Kd.R_after (ok := (fun k_ => (P0_ k_ ∨ w.heap.size ≤ k_))) (by (with_reducible repeat (first | apply zT | apply Kd.R_drewN | apply zV)); exact HO_0.out) hg hat)).2.2) KL34.out)); have n4_ := zA (ho); clear HO_0; clear HB; clear HK; clear HR129; clear HO132; have HO_0 := n0_; have HB := n1_; have HK := n2_; have HR129 := n3_; have HO135 := n4_; clear n0_ n1_ n2_ n3_ n4_; clear ho hb hg hat; have q37 : (x5_1 : Int) ≤ ((l0.length : Int) : Int) := of_decide_eq_true (by assumption); obtain ⟨i037, hi037, _, hsz37, _⟩ := info_parts info3; have hroom37 : l0.length ≤ co31 := (Kd.R_reads' HO_0.out).2.1; have hC37 : Kd.C (Kd.int .i64) _ Ao31 l0.length l0 := (Kd.R_reads' HO_0.out).2.2; have q037 : (0 : Int) ≤ (x5_1 : Int) := of_decide_eq_true (by assumption); have hcut37 := cut_from (P := Try.prog) 23 3 .i64 Try.underlying23 hi037 1 hsz37 Ao31 l0.length co31 x5_1 q037 q37; have hr37 := Kd.C_drop (m := (x5_1 : Int).toNat) (c := co31) hC37 (by omega) hroom37; obtain ⟨A37, hA37⟩ : ∃ A1, A1 = (if co31 = (x5_1 : Int).toNat then Ao31 else (Ao31 : Option Addr).map (·.add ((x5_1 : Int).toNat * 1))) := ⟨_, rfl⟩; obtain ⟨c37, hc37⟩ : ∃ c1, c1 = co31 - (x5_1 : Int).toNat := ⟨_, rfl⟩; have hy37 : y136.length = l0.length - (x5_1 : Int).toNat := (by rw [Ny136.out, List.length_drop] <;> omega); rw [show (l0).drop (x5_1 : Int).toNat = y136 from Ny136.out.symm] at hr37; replace hr37 : Kd.C (Kd.int .i64) _ A37 y136.length y136 := (by rw [hA37]; exact hr37); rw [← hy37, ← hA37, ← hc37] at hcut37; have HR139 := zA hr37; have HC139 := zA (show y136.length ≤ c37 from by rw [hy37, hc37]; exact Nat.sub_le_sub_right hroom37 _); clear hr37 hC37 hroom37 hi037 hsz37 hc37; have KY37 := zA hy37; have KA37 := zA hA37; clear hy37 hA37; have KL37 := zA (show (x5_1 : Int).toNat ≤ l0.length from by omega); replace q37 := eq_true q37) | ((with_reducible refine gate_builtin (b := .append) (xs := #[.tmp 43, .tmp 46]) rfl ?_); at_builtin; refine Kd.R_append_rows (Kd.int .i64) (w0 := w0) w0.heap.size rfl (.tmp 43) (.tmp 46) 23 3 (.int .i64 0) 8 rfl Try.underlying23 info3 rfl (by decide) (by omega) v134 y133 y136 _ _ _ (fun k_ => (P0_ k_ ∨ w.heap.size ≤ k_) ∧ some k_ ≠ (.slice Ao31 l0.length co31 : Value).ownBlock) (fun _ => False) rfl rfl ?aO ?aR (fun _ _ h => h) (fun _ h => h.elim) ?aF ?aB ?aS ?aL ?_; (case aR => repeat (first | exact (by repeat (first | (with_reducible exact HR139.out) | refine zP ?_ _ | refine zQ ?_ _ | refine zR ?_ | exact HR139.out)) | refine zP ?_ _ | refine zQ ?_ _ | refine zR ?_)); (case aB => exact (by repeat (first | (with_reducible first | exact HB.out | apply zB | apply zC | apply zD) | exact HB.out))); (case aF => exact (fun k_ hk => ⟨(.inr (Nat.le_trans (by first | exact HK.out.1 | exact (show Kept w _ (fun k_ => P0_ k_) from by repeat (first | (with_reducible first | exact HK.out | apply Kept.alloc | apply Kept.drewN | apply Kept.drew) | exact HK.out)).1) hk)), Kd.fresh' (Kd.R_lt (by (with_reducible repeat (first | apply zT | apply Kd.R_drewN | apply zV)); exact HO_0.out)) k_ hk⟩)); (case aO => exact (by (with_reducible repeat (first | apply zT | apply Kd.R_drewN | apply zV)); exact HO135.out)); (case aS => exact (zF (by repeat (first | (with_reducible first | exact HB.out | apply zB | apply zC | apply zD) | exact HB.out)))); (case aL => have := LMc30.out; omega); intro v141 w38 ho hb hg hat; rw [← Ny140.out] at ho; have n0_ := zA (Kd.R_after (ok := (fun k_ => (P0_ k_ ∨ w.heap.size ≤ k_))) (by (with_reducible repeat (first | apply zT | apply Kd.R_drewN | apply zV)); exact HO_0.out) hg hat); have n1_ := zA (hb); have n2_ := zA (Kept.of_grown (S := (fun k_ => P0_ k_)) hg (by repeat (first | (with_reducible first | exact HK.out | apply Kept.alloc | apply Kept.drewN | apply Kept.drew) | exact HK.out)) (fun k_ e_ => (HO135.out.1 k_ e_).1)); have n3_ := zA ((show Kd.C (Kd.int .i64) w38 Ao31 y126.length y126 from by rw [Ny126.out]; exact Kd.C_take (m := (x5_1 : Int).toNat) ((Kd.R_reads' (Kd.R_after (ok := (fun k_ => (P0_ k_ ∨ w.heap.size ≤ k_))) (by (with_reducible repeat (first | apply zT | apply Kd.R_drewN | apply zV)); exact HO_0.out) hg hat)).2.2) KL34.out)); have n4_ := zA ((show Kd.C (Kd.int .i64) w38 A37 y136.length y136 from by rw [Ny136.out, KA37.out]; exact Kd.C_drop (m := (x5_1 : Int).toNat) (c := co31) ((Kd.R_reads' (Kd.R_after (ok := (fun k_ => (P0_ k_ ∨ w.heap.size ≤ k_))) (by (with_reducible repeat (first | apply zT | apply Kd.R_drewN | apply zV)); exact HO_0.out) hg hat)).2.2) KL37.out ((Kd.R_reads' (Kd.R_after (ok := (fun k_ => (P0_ k_ ∨ w.heap.size ≤ k_))) (by (with_reducible repeat (first | apply zT | apply Kd.R_drewN | apply zV)); exact HO_0.out) hg hat)).2.1))); have n5_ := zA (ho); clear HO_0; clear HB; clear HK; clear HR129; clear HR139; clear HO135; have HO_0 := n0_; have HB := n1_; have HK := n2_; have HR129 := n3_; have HR139 := n4_; have HO142 := n5_; clear n0_ n1_ n2_ n3_ n4_ n5_; clear ho hb hg hat)); go_ret; exact ⟨_, by first | rfl | (simp [errW_none, errW_some] <;> rfl) | (simp [*, errW_none, errW_some] <;> rfl), by (with_reducible repeat (first | apply zT | apply Kd.R_drewN | apply zV)); exact Kd.R_mono HO142.out (fun _ hk => hk.1), by repeat (first | (with_reducible first | exact HB.out | apply zB | apply zC | apply zD) | exact HB.out), by repeat (first | (with_reducible first | exact HK.out | apply Kept.alloc | apply Kept.drewN | apply Kept.drew) | exact HK.out)⟩
             · rw [if_neg c30] at H; exact absurd H (by simp)
           · rw [if_neg c27] at H; exact absurd H (by simp)
         · rw [if_neg c26] at H; exact absurd H (by simp)
       · rw [if_neg c25] at H; exact absurd H (by simp)
     · rw [if_neg c24] at H; exact absurd H (by simp)
def spec_l1Has.l0 : Nat → Int → List Int → Int → Int → Option (Bool)
 | 0, _, _, _, _ => none
 | k + 1, x1, x7, x8, x9 => if x9 < x8 then (if 0 ≤ x9 then (if x9 < (x7.length : Int) then (if (rd x7 x9) = x1 then (some true) else (spec_l1Has.l0 k x1 x7 x8 (wrap64 (x9 + 1)))) else (none)) else (none)) else (some false)
def spec_l1Has.f (k : Nat) (l0 : List Int) (a1 : Int) : Option (Bool) := spec_l1Has.l0 k a1 l0 (l0.length : Int) 0
def spec_l1Own.f (l0 : List Int) : Option (List Int) := (some (([] : List Int) : List Int)).bind fun y101 => (if y101.length + l0.length < 17592186044416 then (some (y101 ++ l0)) else (none))
end Go.Proofs.Ytpcbjhfgfmmneaa.P
namespace Go.Proofs.Ytpcbjhfgfmmneaa.P
open Go.RowKit Go.Proofs.YtpcbjhfgfmmneaaW.PrintWords
set_option linter.unusedVariables false
set_option linter.unusedSimpArgs false
theorem wsuccL {i n : Nat} (h : i < n) (hn : n ≤ 9223372036854775807) : wrap64 ((i : Int) + 1) = ((i + 1 : Nat) : Int) := by unfold wrap64; omega
theorem putI_split (a b : List Int) (n : Int) (h : ∀ x, x ∈ a → x < n) : putI (a ++ b) n = a ++ putI b n := by
 induction a with
 | nil => rfl
 | cons x a ih =>
  have h1 := h x List.mem_cons_self; show (if x < n then x :: putI (a ++ b) n else _) = _; rw [if_pos h1, ih fun y hy => h y (List.mem_cons_of_mem _ hy)]; rfl
theorem mem_take_rd {l : List Int} {i : Nat} {x : Int} (h : x ∈ l.take i) : ∃ j : Nat, j < i ∧ j < l.length ∧ rd l j = x := by
 obtain ⟨j, hj, rfl⟩ := List.getElem_of_mem h; rw [List.length_take] at hj; refine ⟨j, by omega, by omega, ?_⟩; unfold rd; rw [List.getElem_take, Int.toNat_natCast, List.getD_eq_getElem?_getD, List.getElem?_eq_getElem (by omega)]; rfl
theorem put_loop (l : List Int) (n : Int) (hl : l.length < 17592186044415) (d : Nat) : ∀ (k i : Nat), i ≤ l.length → l.length - i = d → d < k → (∀ j : Nat, j < i → rd l j < n) → spec_l1Put.l0 k l n i = some (putI l n) := by
 have hb : l.length ≤ 9223372036854775807 := by omega
 induction d with
 | zero =>
  intro k i h1 hd hk hp; obtain ⟨k, rfl⟩ : ∃ m, k = m + 1 := ⟨k - 1, by omega⟩
  have hi : i = l.length := by omega
  subst hi; have e : putI l n = l ++ [n] := by
   have := putI_split l [] n (fun x hx => by
    obtain ⟨j, hj1, hj2, rfl⟩ := mem_take_rd (i := l.length) (by rw [List.take_length]; exact hx); exact hp j hj2)
   rw [List.append_nil] at this; exact this
  simp only [spec_l1Put.l0]; rw [if_neg (by omega)]; simp only [Option.bind_some]; rw [if_pos (by omega), if_pos (by omega), Int.toNat_natCast, List.take_length, List.drop_length]; simp only [List.length_nil, List.nil_append, List.length_append, List.length_cons, List.append_nil]; rw [if_pos (by omega), if_pos (by omega), if_pos (by omega), e]
 | succ d ih =>
  intro k i h1 hd hk hp; obtain ⟨k, rfl⟩ : ∃ m, k = m + 1 := ⟨k - 1, by omega⟩
  have hil : i < l.length := by omega
  have ed : l.drop i = rd l i :: l.drop (i + 1) := getD_drop l i 0 hil; have es : putI l n = l.take i ++ putI (l.drop i) n := by
   rw [← putI_split _ _ _ (fun x hx => by
    obtain ⟨j, hj1, hj2, rfl⟩ := mem_take_rd hx; exact hp j hj1), List.take_append_drop]
  simp only [spec_l1Put.l0]; rw [if_pos (by omega), if_pos (by omega)]; by_cases c1 : rd l i < n
  · rw [if_pos c1, wsuccL hil hb]; exact ih k (i + 1) (by omega) (by omega) (by omega) fun j hj => by
     by_cases e : j = i
     · rw [e]; exact c1
     · exact hp j (by omega)
  · rw [if_neg c1]; by_cases c2 : rd l i = n
    · rw [if_pos c2, es, ed]; show some l = some (l.take i ++ (if rd l i < n then _ else if rd l i = n then rd l i :: l.drop (i + 1) else _)); rw [if_neg c1, if_pos c2, ← ed, List.take_append_drop]
    · rw [if_neg c2]; simp only [Option.bind_some]; rw [if_pos (by omega), Int.toNat_natCast]; have h3 : (l.take i).length = i := by rw [List.length_take]; omega
      have h4 : (l.drop i).length = l.length - i := List.length_drop; simp only [List.length_nil, List.nil_append, List.length_append, List.length_cons, h3, h4]; rw [if_pos (by omega), if_pos (by omega), if_pos (by omega), es, ed]; show _ = some (l.take i ++ (if rd l i < n then _ else if rd l i = n then _ else n :: rd l i :: l.drop (i + 1))); rw [if_neg c1, if_neg c2, List.append_assoc]; rfl
theorem put_eq (l : List Int) (n : Int) (hl : l.length < 17592186044415) (k : Nat) (hk : l.length < k) : spec_l1Put.f k l n = some (putI l n) := by
 unfold spec_l1Put.f; exact put_loop l n hl l.length k 0 (by omega) (by omega) hk (fun j hj => by omega)
theorem compact_up (s : List Int) (hs : s.Pairwise (· ≤ ·)) : ∀ m, m ≤ s.length → UpI (Go.Lib.compactUpTo s.toArray m) ∧ (∀ x, x ∈ Go.Lib.compactUpTo s.toArray m ↔ ∃ j : Nat, j < m ∧ rd s j = x) := by
 have hget : ∀ j, j < s.length → s.toArray[j]! = rd s j := fun j hj => by
  unfold rd; rw [Int.toNat_natCast, List.getD_eq_getElem?_getD, List.getElem?_eq_getElem hj, getElem!_pos s.toArray j (by simpa using hj)]; simp
 have hle : ∀ i j : Nat, i < j → j < s.length → rd s i ≤ rd s j := fun i j hij hj => by
  have := List.pairwise_iff_getElem.1 hs i j (by omega) hj hij; unfold rd; rw [Int.toNat_natCast, Int.toNat_natCast, List.getD_eq_getElem?_getD, List.getD_eq_getElem?_getD, List.getElem?_eq_getElem hj, List.getElem?_eq_getElem (show i < s.length by omega)]; exact this
 intro m
 induction m with
 | zero => intro _; exact ⟨List.Pairwise.nil, fun x => ⟨(fun h => by cases h), (fun ⟨j, hj, _⟩ => by omega)⟩⟩
 | succ m ih =>
  intro hm; obtain ⟨h1, h2⟩ := ih (by omega); rw [Go.Lib.compactUpTo_succ]; cases hk : Go.Lib.keeps s.toArray m with
  | true =>
   rw [if_pos rfl, hget m (by omega)]; have hlt : ∀ x, x ∈ Go.Lib.compactUpTo s.toArray m → x < rd s m := fun x hx => by
    obtain ⟨j, hj, rfl⟩ := (h2 x).1 hx; unfold Go.Lib.keeps at hk; rcases of_decide_eq_true hk with h | h
    · omega
    · rw [hget m (by omega), hget (m - 1) (by omega)] at h; have a1 := hle (m - 1) m (by omega) (by omega); have a2 : rd s j ≤ rd s ((m - 1 : Nat) : Int) := by
       by_cases e : j = m - 1
       · rw [e]; omega
       · exact hle j (m - 1) (by omega) (by omega)
      omega
   refine ⟨List.pairwise_append.2 ⟨h1, List.pairwise_singleton _ _, fun a ha b hb => by rw [List.mem_singleton.1 hb]; exact hlt a ha⟩, fun x => ?_⟩; rw [List.mem_append, h2, List.mem_singleton]; exact ⟨fun h => h.elim (fun ⟨j, hj, e⟩ => ⟨j, by omega, e⟩) (fun e => ⟨m, by omega, e.symm⟩), fun ⟨j, hj, e⟩ => by
    by_cases c : j = m
    · subst c; exact .inr e.symm
    · exact .inl ⟨j, by omega, e⟩⟩
  | false =>
   rw [if_neg (by decide), List.append_nil]; refine ⟨h1, fun x => ?_⟩; rw [h2]; unfold Go.Lib.keeps at hk; have hn := of_decide_eq_false hk; have hm0 : m ≠ 0 := fun e => hn (.inl e)
   have he : s.toArray[m]! = s.toArray[m - 1]! := by
    by_cases c : s.toArray[m]! = s.toArray[m - 1]!
    · exact c
    · exact absurd (.inr c) hn
   rw [hget m (by omega), hget (m - 1) (by omega)] at he; exact ⟨fun ⟨j, hj, e⟩ => ⟨j, by omega, e⟩, fun ⟨j, hj, e⟩ => by
    by_cases c : j = m
    · subst c; exact ⟨j - 1, by omega, by rw [← e, he]⟩
    · exact ⟨j, by omega, e⟩⟩
theorem compact_sort (l : List Int) : Go.Lib.compactUpTo (l.mergeSort fun x y => decide (x ≤ y)).toArray (l.mergeSort fun x y => decide (x ≤ y)).length = sortI l := by
 have hs : (l.mergeSort fun x y => decide (x ≤ y)).Pairwise (· ≤ ·) := by
  have := List.pairwise_mergeSort (le := fun (x y : Int) => decide (x ≤ y)) (fun a b c h1 h2 => by simp at *; omega) (fun a b => by simp; omega) l; exact this.imp fun h => by simpa using h
 obtain ⟨h1, h2⟩ := compact_up _ hs _ (Nat.le_refl _); refine upI_of h1 fun x => (h2 x).trans ?_
 rw [← List.mem_mergeSort (le := fun (x y : Int) => decide (x ≤ y))]; constructor
 · rintro ⟨j, hj, rfl⟩; unfold rd; rw [Int.toNat_natCast, List.getD_eq_getElem?_getD, List.getElem?_eq_getElem hj]; exact List.getElem_mem hj
 · intro h; obtain ⟨j, hj, rfl⟩ := List.getElem_of_mem h; refine ⟨j, hj, ?_⟩; unfold rd; rw [Int.toNat_natCast, List.getD_eq_getElem?_getD, List.getElem?_eq_getElem hj]; rfl
def setB (s : List Bool) : List Int := ((List.range s.length).filter fun i => s.getD i false).map fun i : Nat => (i : Int)
def RowIn (nons toks : Int) (l : List Int) : Prop := (0 ≤ rd l 0 ∧ rd l 0 < nons) ∧ ∀ j : Nat, 1 ≤ j → j < l.length → -toks ≤ rd l j ∧ rd l j < nons
structure OkB (nons toks : Int) (ps os : List (List Int)) (es : List Int) : Prop where
 n : 1 ≤ nons ∧ nons ≤ 40
 t : 1 ≤ toks ∧ toks ≤ 4
 e : ∀ x, x ∈ es → 0 ≤ x ∧ x < nons
 eu : UpI es
 p : ∀ x, x ∈ ps → x.length = 3 ∧ RowIn nons toks x
 o : ∀ x, x ∈ os → x.length = 2 ∧ RowIn nons toks x
inductive NulR (es : List Int) (rows : List (List Int)) : Int → Prop
 | base {x : Int} : x ∈ es → NulR es rows x
 | step {l : List Int} : l ∈ rows → (∀ j : Nat, 1 ≤ j → j < l.length → 0 ≤ rd l j) → (∀ j : Nat, 1 ≤ j → j < l.length → NulR es rows (rd l j)) → NulR es rows (rd l 0)
def cntN (s : List Bool) : Nat := s.count false
def nulQ (s : List Bool) (x : Int) : Bool := decide (x < 0) || !s.getD x.toNat false
structure NulI (n : Nat) (es : List Int) (rows : List (List Int)) (s : List Bool) : Prop where
 len : s.length = n
 lo : ∀ x, x ∈ es → s.getD x.toNat false = true
 hi : ∀ i : Nat, i < n → s.getD i false = true → NulR es rows i
def rowDone (s : List Bool) (l : List Int) : Prop := s.getD (rd l 0).toNat false = true ∨ (l.drop 1).any (nulQ s) = true
def stepN (s : List Bool) (l : List Int) : List Bool := if (l.drop 1).any (nulQ s) = true then s else s.set (rd l 0).toNat true
def passN (rows : List (List Int)) (s : List Bool) : List Bool := rows.foldl stepN s
def iterN (rows : List (List Int)) : Nat → List Bool → List Bool
 | 0, s => s
 | k + 1, s => iterN rows k (passN rows s)
def nulV (n : Nat) (es : List Int) (rows : List (List Int)) : List Bool := iterN rows (n + 1) ((List.range n).map fun i : Nat => decide ((i : Int) ∈ es))
def rowsIn (n : Nat) (rows : List (List Int)) : Prop := ∀ l, l ∈ rows → (0 ≤ rd l 0 ∧ rd l 0 < n) ∧ ∀ j : Nat, 1 ≤ j → j < l.length → rd l j < n
end Go.Proofs.Ytpcbjhfgfmmneaa.P
namespace Go.Proofs.Ytpcbjhfgfmmneaa.P
open Go.RowKit Go.Proofs.YtpcbjhfgfmmneaaW.PrintWords Go.Proofs.YtpcbjhfgfmmneaaW.PrintLast Go.Proofs.YtpcbjhfgfmmneaaW.PrintMore
attribute [local go_sem] max2_int min2_int max_two min_two max_three min_three max_four min_four
set_option linter.unusedVariables false
set_option linter.unusedSimpArgs false
def spec_l5Less.l0 : Nat → List Int → List Int → Int → Int → Option (Bool)
 | 0, _, _, _, _ => none
 | k + 1, x0, x1, x7, x8 => if x8 < x7 then (if 0 ≤ x8 then (if x8 < (x0.length : Int) then (if x8 < (x1.length : Int) then (if (rd x0 x8) = (rd x1 x8) then (spec_l5Less.l0 k x0 x1 x7 (wrap64 (x8 + 1))) else (some (decide ((rd x0 x8) < (rd x1 x8))))) else (none)) else (none)) else (none)) else (some false)
def spec_l5Less.f (k : Nat) (l0 : List Int) (l1 : List Int) : Option (Bool) := spec_l5Less.l0 k l0 l1 (l0.length : Int) 0
set_option maxHeartbeats 8000000 in
set_option maxRecDepth 100000 in
theorem spec_l5Less.calls (k : Nat) (A0 : Option Addr) (c0 : Nat) (l0 : List Int) (A1 : Option Addr) (c1 : Nat) (l1 : List Int) (r : Bool) (w : World) (hr0 : Kd.C (Kd.int .i64) w A0 l0.length l0) (hc0 : l0.length ≤ c0) (hr1 : Kd.C (Kd.int .i64) w A1 l1.length l1) (hc1 : l1.length ≤ c1) (h : spec_l5Less.f k l0 l1 = some r) :
 Calls Try.prog 90 #[.slice A0 l0.length c0, .slice A1 l1.length c1] w fun e w' => e = .returned (.bool r) ∧ Drawn0 w w' := by
 have HR0 := zA hr0; have HC0 := zA hc0; clear hr0 hc0; have HR1 := zA hr1; have HC1 := zA hc1; clear hr1 hc1; have H : (spec_l5Less.l0 k l0 l1 (l0.length : Int) 0) = some r := h; clear h; have H' := zA H; clear H; go_enter Try.func90, Try.ntmps90; go_wp2; (repeat (go_quiet (fail); try go_wp2)); go_loopg [8] k (fun kq v8 w' => ∃ (x8_1 : Int), v8 = .int .i64 x8_1 ∧ Aside0 (spec_l5Less.l0 kq l0 l1 (l0.length : Int) x8_1 = some r) ∧ Aside0 (kq ≤ k) ∧ Drawn0 w w')
 case atStart => exact ⟨(0), (by first | rfl | (simp; done) | (simp [*]; done)), H', ⟨Nat.le_refl _⟩, by repeat (first | exact Drawn0.refl _ | apply Drawn0.step)⟩
 case round =>
  clear H'; (try clear c1); (try clear p2); obtain ⟨x8_1, rfl, HA, HK1, ⟨m1, rfl⟩⟩ := hrel; cases gk with
  | zero => exact absurd HA.out (by simp [spec_l5Less.l0])
  | succ k1 =>
   have H := HA.out; clear HA; simp only [spec_l5Less.l0] at H; by_cases c3 : x8_1 < (l0.length : Int)
   · rw [if_pos c3] at H; have c3b0 : decide (x8_1 < (l0.length : Int)) = true := decide_eq_true c3; clear c3; by_cases c4 : 0 ≤ x8_1
     · rw [if_pos c4] at H; have c4b0 : decide (0 ≤ x8_1) = true := decide_eq_true c4; clear c4; by_cases c5 : x8_1 < (l0.length : Int)
       · rw [if_pos c5] at H; have c5b0 : decide (x8_1 < (l0.length : Int)) = true := decide_eq_true c5; clear c5; by_cases c6 : x8_1 < (l1.length : Int)
         · rw [if_pos c6] at H; have c6b0 : decide (x8_1 < (l1.length : Int)) = true := decide_eq_true c6; clear c6; by_cases c7 : (rd l0 x8_1) = (rd l1 x8_1)
           · rw [if_pos c7] at H; have c7b0 : ((rd l0 x8_1) == (rd l1 x8_1)) = true := beq_iff_eq.mpr c7; have c7b1 : ((rd l0 x8_1) != (rd l1 x8_1)) = false := bne_eq_false_iff_eq.mpr c7; clear c7; have H' := zA H; clear H; have p101 : 0 ≤ (x8_1 : Int) := of_decide_eq_true (by assumption); have q101 : x8_1 < (l0.length : Int) := of_decide_eq_true (by assumption); obtain ⟨ad101, e101, hx101_0⟩ := Kd.at_int HR0.out x8_1 p101 q101; cases e101; replace p101 := eq_true p101; replace q101 := eq_true q101; have p102 : 0 ≤ (x8_1 : Int) := of_decide_eq_true (by assumption); have q102 : x8_1 < (l1.length : Int) := of_decide_eq_true (by assumption); obtain ⟨ad102, e102, hx102_0⟩ := Kd.at_int HR1.out x8_1 p102 q102; cases e102; replace p102 := eq_true p102; replace q102 := eq_true q102; go_wp2; repeat (go_quiet (fail); try go_wp2)
             go_roundg k1
             case measure => have := HK1.out; omega
             case rel => exact ⟨(wrap64 (x8_1 + 1)), (by first | rfl | (simp; done) | (simp [*]; done)), H', ⟨by have := HK1.out; omega⟩, by repeat (first | exact Drawn0.refl _ | apply Drawn0.step)⟩
           · rw [if_neg c7] at H; have c7b0 : ((rd l0 x8_1) == (rd l1 x8_1)) = false := beq_eq_false_iff_ne.mpr c7; have c7b1 : ((rd l0 x8_1) != (rd l1 x8_1)) = true := bne_iff_ne.mpr c7; obtain rfl := Option.some.inj H; have p101 : 0 ≤ (x8_1 : Int) := of_decide_eq_true (by assumption); have q101 : x8_1 < (l0.length : Int) := of_decide_eq_true (by assumption); obtain ⟨ad101, e101, hx101_0⟩ := Kd.at_int HR0.out x8_1 p101 q101; cases e101; replace p101 := eq_true p101; replace q101 := eq_true q101; have p102 : 0 ≤ (x8_1 : Int) := of_decide_eq_true (by assumption); have q102 : x8_1 < (l1.length : Int) := of_decide_eq_true (by assumption); obtain ⟨ad102, e102, hx102_0⟩ := Kd.at_int HR1.out x8_1 p102 q102; cases e102; replace p102 := eq_true p102; replace q102 := eq_true q102; have p103 : 0 ≤ (x8_1 : Int) := of_decide_eq_true (by assumption); have q103 : x8_1 < (l0.length : Int) := of_decide_eq_true (by assumption); obtain ⟨ad103, e103, hx103_0⟩ := Kd.at_int HR0.out x8_1 p103 q103; obtain rfl : ad101 = ad103 := (by injection e103)
             replace p103 := eq_true p103; replace q103 := eq_true q103; have p104 : 0 ≤ (x8_1 : Int) := of_decide_eq_true (by assumption); have q104 : x8_1 < (l1.length : Int) := of_decide_eq_true (by assumption); obtain ⟨ad104, e104, hx104_0⟩ := Kd.at_int HR1.out x8_1 p104 q104; obtain rfl : ad102 = ad104 := (by injection e104)
             replace p104 := eq_true p104; replace q104 := eq_true q104; go_wp2; (repeat (go_quiet (fail); try go_wp2)); go_ret; exact ⟨by first | rfl | (simp; done) | (simp [*]; done), by repeat (first | exact Drawn0.refl _ | apply Drawn0.step)⟩
         · rw [if_neg c6] at H; exact absurd H (by simp)
       · rw [if_neg c5] at H; exact absurd H (by simp)
     · rw [if_neg c4] at H; exact absurd H (by simp)
   · rw [if_neg c3] at H; have c3b0 : decide (x8_1 < (l0.length : Int)) = false := decide_eq_false c3; clear c3; obtain rfl := Option.some.inj H; go_wp2; (repeat (go_quiet (fail); try go_wp2)); go_ret; exact ⟨by first | rfl | (simp; done) | (simp [*]; done), by repeat (first | exact Drawn0.refl _ | apply Drawn0.step)⟩
def spec_l1Same.l0 : Nat → List Int → List Int → Int → Int → Option (Bool)
 | 0, _, _, _, _ => none
 | k + 1, x0, x1, x12, x13 => if x13 < x12 then (if 0 ≤ x13 then (if x13 < (x0.length : Int) then (if x13 < (x1.length : Int) then (if (rd x0 x13) = (rd x1 x13) then (spec_l1Same.l0 k x0 x1 x12 (wrap64 (x13 + 1))) else (some false)) else (none)) else (none)) else (none)) else (some true)
def spec_l1Same.f (k : Nat) (l0 : List Int) (l1 : List Int) : Option (Bool) := if (l0.length : Int) = (l1.length : Int) then (spec_l1Same.l0 k l0 l1 (l0.length : Int) 0) else (some false)
set_option maxHeartbeats 8000000 in
set_option maxRecDepth 100000 in
theorem spec_l1Same.calls (k : Nat) (A0 : Option Addr) (c0 : Nat) (l0 : List Int) (A1 : Option Addr) (c1 : Nat) (l1 : List Int) (r : Bool) (w : World) (hr0 : Kd.C (Kd.int .i64) w A0 l0.length l0) (hc0 : l0.length ≤ c0) (hr1 : Kd.C (Kd.int .i64) w A1 l1.length l1) (hc1 : l1.length ≤ c1) (h : spec_l1Same.f k l0 l1 = some r) :
 Calls Try.prog 97 #[.slice A0 l0.length c0, .slice A1 l1.length c1] w fun e w' => e = .returned (.bool r) ∧ Drawn0 w w' := by
 have HR0 := zA hr0; have HC0 := zA hc0; clear hr0 hc0; have HR1 := zA hr1; have HC1 := zA hc1; clear hr1 hc1; have H : (if (l0.length : Int) = (l1.length : Int) then (spec_l1Same.l0 k l0 l1 (l0.length : Int) 0) else (some false)) = some r := h; clear h; by_cases c3 : (l0.length : Int) = (l1.length : Int)
 · rw [if_pos c3] at H; have c3b0 : ((l0.length : Int) == (l1.length : Int)) = true := beq_iff_eq.mpr c3; have c3b1 : ((l0.length : Int) != (l1.length : Int)) = false := bne_eq_false_iff_eq.mpr c3; have c3b2 : (l0.length == l1.length) = true := by first | simpa using c3 | (simp at c3 ⊢; omega)
   clear c3; have H' := zA H; clear H; go_enter Try.func97, Try.ntmps97; go_wp2; (repeat (go_quiet (fail); try go_wp2)); go_loopg [13] k (fun kq v13 w' => ∃ (x13_1 : Int), v13 = .int .i64 x13_1 ∧ Aside0 (spec_l1Same.l0 kq l0 l1 (l0.length : Int) x13_1 = some r) ∧ Aside0 (kq ≤ k) ∧ Drawn0 w w')
   case atStart => exact ⟨(0), (by first | rfl | (simp; done) | (simp [*]; done)), H', ⟨Nat.le_refl _⟩, by repeat (first | exact Drawn0.refl _ | apply Drawn0.step)⟩
   case round =>
    clear H'; (try clear c1); (try clear p2); (try clear c3); (try clear c3b0); (try clear c3b1); (try clear c3b2); obtain ⟨x13_1, rfl, HA, HK1, ⟨m1, rfl⟩⟩ := hrel; cases gk with
    | zero => exact absurd HA.out (by simp [spec_l1Same.l0])
    | succ k1 =>
     have H := HA.out; clear HA; simp only [spec_l1Same.l0] at H; by_cases c4 : x13_1 < (l0.length : Int)
     · rw [if_pos c4] at H; have c4b0 : decide (x13_1 < (l0.length : Int)) = true := decide_eq_true c4; clear c4; by_cases c5 : 0 ≤ x13_1
       · rw [if_pos c5] at H; have c5b0 : decide (0 ≤ x13_1) = true := decide_eq_true c5; clear c5; by_cases c6 : x13_1 < (l0.length : Int)
         · rw [if_pos c6] at H; have c6b0 : decide (x13_1 < (l0.length : Int)) = true := decide_eq_true c6; clear c6; by_cases c7 : x13_1 < (l1.length : Int)
           · rw [if_pos c7] at H; have c7b0 : decide (x13_1 < (l1.length : Int)) = true := decide_eq_true c7; clear c7; by_cases c8 : (rd l0 x13_1) = (rd l1 x13_1)
             · rw [if_pos c8] at H; have c8b0 : ((rd l0 x13_1) == (rd l1 x13_1)) = true := beq_iff_eq.mpr c8; have c8b1 : ((rd l0 x13_1) != (rd l1 x13_1)) = false := bne_eq_false_iff_eq.mpr c8; clear c8; have H' := zA H; clear H; have p101 : 0 ≤ (x13_1 : Int) := of_decide_eq_true (by assumption); have q101 : x13_1 < (l0.length : Int) := of_decide_eq_true (by assumption); obtain ⟨ad101, e101, hx101_0⟩ := Kd.at_int HR0.out x13_1 p101 q101; cases e101; replace p101 := eq_true p101; replace q101 := eq_true q101; have p102 : 0 ≤ (x13_1 : Int) := of_decide_eq_true (by assumption); have q102 : x13_1 < (l1.length : Int) := of_decide_eq_true (by assumption); obtain ⟨ad102, e102, hx102_0⟩ := Kd.at_int HR1.out x13_1 p102 q102; cases e102; replace p102 := eq_true p102; replace q102 := eq_true q102; go_wp2; repeat (go_quiet (fail); try go_wp2)
               go_roundg k1
               case measure => have := HK1.out; omega
               case rel => exact ⟨(wrap64 (x13_1 + 1)), (by first | rfl | (simp; done) | (simp [*]; done)), H', ⟨by have := HK1.out; omega⟩, by repeat (first | exact Drawn0.refl _ | apply Drawn0.step)⟩
             · rw [if_neg c8] at H; have c8b0 : ((rd l0 x13_1) == (rd l1 x13_1)) = false := beq_eq_false_iff_ne.mpr c8; have c8b1 : ((rd l0 x13_1) != (rd l1 x13_1)) = true := bne_iff_ne.mpr c8; obtain rfl := Option.some.inj H; have p101 : 0 ≤ (x13_1 : Int) := of_decide_eq_true (by assumption); have q101 : x13_1 < (l0.length : Int) := of_decide_eq_true (by assumption); obtain ⟨ad101, e101, hx101_0⟩ := Kd.at_int HR0.out x13_1 p101 q101; cases e101; replace p101 := eq_true p101; replace q101 := eq_true q101; have p102 : 0 ≤ (x13_1 : Int) := of_decide_eq_true (by assumption); have q102 : x13_1 < (l1.length : Int) := of_decide_eq_true (by assumption); obtain ⟨ad102, e102, hx102_0⟩ := Kd.at_int HR1.out x13_1 p102 q102; cases e102; replace p102 := eq_true p102; replace q102 := eq_true q102; go_wp2; (repeat (go_quiet (fail); try go_wp2)); go_ret; exact ⟨by first | rfl | (simp; done) | (simp [*]; done), by repeat (first | exact Drawn0.refl _ | apply Drawn0.step)⟩
           · rw [if_neg c7] at H; exact absurd H (by simp)
         · rw [if_neg c6] at H; exact absurd H (by simp)
       · rw [if_neg c5] at H; exact absurd H (by simp)
     · rw [if_neg c4] at H; have c4b0 : decide (x13_1 < (l0.length : Int)) = false := decide_eq_false c4; clear c4; obtain rfl := Option.some.inj H; go_wp2; (repeat (go_quiet (fail); try go_wp2)); go_ret; exact ⟨by first | rfl | (simp; done) | (simp [*]; done), by repeat (first | exact Drawn0.refl _ | apply Drawn0.step)⟩
 · rw [if_neg c3] at H; have c3b0 : ((l0.length : Int) == (l1.length : Int)) = false := beq_eq_false_iff_ne.mpr c3; have c3b1 : ((l0.length : Int) != (l1.length : Int)) = true := bne_iff_ne.mpr c3; have c3b2 : (l0.length == l1.length) = false := by first | simpa using c3 | (simp at c3 ⊢; omega)
   obtain rfl := Option.some.inj H; go_enter Try.func97, Try.ntmps97; go_wp2; (repeat (go_quiet (fail); try go_wp2)); go_ret; exact ⟨by first | rfl | (simp; done) | (simp [*]; done), by repeat (first | exact Drawn0.refl _ | apply Drawn0.step)⟩
end Go.Proofs.Ytpcbjhfgfmmneaa.P
