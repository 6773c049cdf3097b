/- Proved: for all arguments ReachedOf of the program returns what ReachedOf of the reference returns; it leaves its arguments as they were, and shares no memory. No condition. -/
import Derived.Test.YtohbdjdjjbieeaaK0
import Derived.Test.YtohbdjdjjbieeaaQFnExactReachedOfp0
import Derived.Test.YtohbdjdjjbieeaaQFnExactReachedOfp1
import Derived.Test.YtohbdjdjjbieeaaB2
import Derived.Test.YtohbdjdjjbieeaaB3
import Derived.Test.YtohbdjdjjbieeaaB1
import Derived.Test.YtohbdjdjjbieeaaRows
import Derived.WalkKit
import Derived.ProofKit
import Derived.OpenShut
import Derived.ShutString
import Derived.ChangeOld
import Derived.Below
import Derived.SizedLaws
/-! F41 -/
namespace Go.Proofs.Ytohbdjdjjbieeaa.P
open Go.RowKit Go.Proofs.YtohbdjdjjbieeaaW.PrintWords Go.Proofs.YtohbdjdjjbieeaaW.PrintLast Go.Proofs.YtohbdjdjjbieeaaW.PrintMore
attribute [local go_sem] max2_int min2_int max_two min_two max_three min_three max_four min_four   -- for this text's walks alone
set_option linter.unusedVariables false
set_option linter.unusedSimpArgs false

/-! ### spec_l3Reached: function 41 -/
mutual
def spec_l3Reached.l0 : Nat → List Int → Bool → Int → Int → List (S47) → Option (List Int)
  | 0, _, _, _, _, _ => none
  | k + 1, x3, x4, x102000, x102001, x102002 => if x4 = true then (spec_l3Reached.l1 k x3 false x102002 (x102002.length : Int) 0 x102000 x102001 x102002) else (some x3)
def spec_l3Reached.l1 : Nat → List Int → Bool → List (S47) → Int → Int → Int → Int → List (S47) → Option (List Int)
  | 0, _, _, _, _, _, _, _, _ => none
  | k + 1, x3, x4, x12, x13, x14, x102000, x102001, x102002 => if x14 < x13 then (if 0 ≤ x14 then (if x14 < (x12.length : Int) then (spec_l3Reached.l2 k x3 x4 x12 x13 x14 ((rd_T47 x12 x14).f1) (((rd_T47 x12 x14).f1).length : Int) 0 x102000 x102001 x102002 ((rd_T47 x12 x14).f0) ((rd_T47 x12 x14).f1)) else (none)) else (none)) else (spec_l3Reached.l0 k x3 x4 x102000 x102001 x102002)
def spec_l3Reached.l2 : Nat → List Int → Bool → List (S47) → Int → Int → List Int → Int → Int → Int → Int → List (S47) → Int → List Int → Option (List Int)
  | 0, _, _, _, _, _, _, _, _, _, _, _, _, _ => none
  | k + 1, x3, x4, x12, x13, x14, x19, x20, x21, x102000, x102001, x102002, x107000, x107001 => if x21 < x20 then (if 0 ≤ x21 then (if x21 < (x19.length : Int) then (if (rd x19 x21) ≥ 0 then ((spec_l1Has.f k x3 x107000).bind fun t108 => (if t108 = true then ((spec_l1Has.f k x3 (rd x19 x21)).bind fun t109 => (if t109 = true then (spec_l3Reached.l2 k x3 x4 x12 x13 x14 x19 x20 (wrap64 (x21 + 1)) x102000 x102001 x102002 x107000 x107001) else ((spec_l1Put.f k x3 (rd x19 x21)).bind fun t110 => (spec_l3Reached.l2 k t110 true x12 x13 x14 x19 x20 (wrap64 (x21 + 1)) x102000 x102001 x102002 x107000 x107001)))) else (spec_l3Reached.l2 k x3 x4 x12 x13 x14 x19 x20 (wrap64 (x21 + 1)) x102000 x102001 x102002 x107000 x107001))) else (spec_l3Reached.l2 k x3 x4 x12 x13 x14 x19 x20 (wrap64 (x21 + 1)) x102000 x102001 x102002 x107000 x107001)) else (none)) else (none)) else (spec_l3Reached.l1 k x3 x4 x12 x13 (wrap64 (x14 + 1)) x102000 x102001 x102002)
end
def spec_l3Reached.f (k : Nat) (a0_0 : Int) (a0_1 : Int) (l0_2 : List (S47)) : Option (List Int) := spec_l3Reached.l0 k (([0] : List Int)) true a0_0 a0_1 l0_2
theorem spec_l3Reached.mono_l : ∀ k, (∀ y0 y1 y2 y3 y4, LeO (spec_l3Reached.l0 k y0 y1 y2 y3 y4) (spec_l3Reached.l0 (k + 1) y0 y1 y2 y3 y4)) ∧ (∀ y0 y1 y2 y3 y4 y5 y6 y7, LeO (spec_l3Reached.l1 k y0 y1 y2 y3 y4 y5 y6 y7) (spec_l3Reached.l1 (k + 1) y0 y1 y2 y3 y4 y5 y6 y7)) ∧ (∀ y0 y1 y2 y3 y4 y5 y6 y7 y8 y9 y10 y11 y12, LeO (spec_l3Reached.l2 k y0 y1 y2 y3 y4 y5 y6 y7 y8 y9 y10 y11 y12) (spec_l3Reached.l2 (k + 1) y0 y1 y2 y3 y4 y5 y6 y7 y8 y9 y10 y11 y12))
  | 0 => ⟨fun _ _ _ _ _ r h => by simp [spec_l3Reached.l0] at h, fun _ _ _ _ _ _ _ _ r h => by simp [spec_l3Reached.l1] at h, fun _ _ _ _ _ _ _ _ _ _ _ _ _ r h => by simp [spec_l3Reached.l2] at h⟩
  | k + 1 => by
    obtain ⟨ih0, ih1, ih2⟩ := spec_l3Reached.mono_l k
    refine ⟨?_, ?_, ?_⟩
    · intro y0 y1 y2 y3 y4
      unfold spec_l3Reached.l0
      repeat' first
      | (with_reducible exact ih0 _ _ _ _ _)
      | (with_reducible exact ih1 _ _ _ _ _ _ _ _)
      | (with_reducible exact ih2 _ _ _ _ _ _ _ _ _ _ _ _ _)
      | (with_reducible exact spec_l1Has.mono _ _ _)
      | (with_reducible exact spec_l1Put.mono _ _ _)
      | (with_reducible exact LeO.refl _)
      | (with_reducible exact LeO.none _)
      | (with_reducible refine LeO.ite ?_ ?_)
      | (with_reducible refine LeO.bind ?_ (fun _ => ?_))
      | exact ih0 _ _ _ _ _
      | exact ih1 _ _ _ _ _ _ _ _
      | exact ih2 _ _ _ _ _ _ _ _ _ _ _ _ _
      | exact spec_l1Has.mono _ _ _
      | exact spec_l1Put.mono _ _ _
      | exact LeO.none _
      | refine LeO.ite ?_ ?_
      | refine LeO.bind ?_ (fun _ => ?_)
    · intro y0 y1 y2 y3 y4 y5 y6 y7
      unfold spec_l3Reached.l1
      repeat' first
      | (with_reducible exact ih0 _ _ _ _ _)
      | (with_reducible exact ih1 _ _ _ _ _ _ _ _)
      | (with_reducible exact ih2 _ _ _ _ _ _ _ _ _ _ _ _ _)
      | (with_reducible exact spec_l1Has.mono _ _ _)
      | (with_reducible exact spec_l1Put.mono _ _ _)
      | (with_reducible exact LeO.refl _)
      | (with_reducible exact LeO.none _)
      | (with_reducible refine LeO.ite ?_ ?_)
      | (with_reducible refine LeO.bind ?_ (fun _ => ?_))
      | exact ih0 _ _ _ _ _
      | exact ih1 _ _ _ _ _ _ _ _
      | exact ih2 _ _ _ _ _ _ _ _ _ _ _ _ _
      | exact spec_l1Has.mono _ _ _
      | exact spec_l1Put.mono _ _ _
      | exact LeO.none _
      | refine LeO.ite ?_ ?_
      | refine LeO.bind ?_ (fun _ => ?_)
    · intro y0 y1 y2 y3 y4 y5 y6 y7 y8 y9 y10 y11 y12
      unfold spec_l3Reached.l2
      repeat' first
      | (with_reducible exact ih0 _ _ _ _ _)
      | (with_reducible exact ih1 _ _ _ _ _ _ _ _)
      | (with_reducible exact ih2 _ _ _ _ _ _ _ _ _ _ _ _ _)
      | (with_reducible exact spec_l1Has.mono _ _ _)
      | (with_reducible exact spec_l1Put.mono _ _ _)
      | (with_reducible exact LeO.refl _)
      | (with_reducible exact LeO.none _)
      | (with_reducible refine LeO.ite ?_ ?_)
      | (with_reducible refine LeO.bind ?_ (fun _ => ?_))
      | exact ih0 _ _ _ _ _
      | exact ih1 _ _ _ _ _ _ _ _
      | exact ih2 _ _ _ _ _ _ _ _ _ _ _ _ _
      | exact spec_l1Has.mono _ _ _
      | exact spec_l1Put.mono _ _ _
      | exact LeO.none _
      | refine LeO.ite ?_ ?_
      | refine LeO.bind ?_ (fun _ => ?_)
theorem spec_l3Reached.mono : ∀ a0 a1 a2 k, LeO (spec_l3Reached.f k a0 a1 a2) (spec_l3Reached.f (k + 1) a0 a1 a2) := by
  intro a0 a1 a2 k
  obtain ⟨ih0, ih1, ih2⟩ := spec_l3Reached.mono_l k
  unfold spec_l3Reached.f
  repeat' first
      | (with_reducible exact ih0 _ _ _ _ _)
      | (with_reducible exact ih1 _ _ _ _ _ _ _ _)
      | (with_reducible exact ih2 _ _ _ _ _ _ _ _ _ _ _ _ _)
      | (with_reducible exact spec_l1Has.mono _ _ _)
      | (with_reducible exact spec_l1Put.mono _ _ _)
      | (with_reducible exact LeO.refl _)
      | (with_reducible exact LeO.none _)
      | (with_reducible refine LeO.ite ?_ ?_)
      | (with_reducible refine LeO.bind ?_ (fun _ => ?_))
      | exact ih0 _ _ _ _ _
      | exact ih1 _ _ _ _ _ _ _ _
      | exact ih2 _ _ _ _ _ _ _ _ _ _ _ _ _
      | exact spec_l1Has.mono _ _ _
      | exact spec_l1Put.mono _ _ _
      | exact LeO.none _
      | refine LeO.ite ?_ ?_
      | refine LeO.bind ?_ (fun _ => ?_)
set_option maxHeartbeats 8000000 in
set_option maxRecDepth 100000 in
theorem spec_l3Reached.calls (k : Nat) (a0_0 : Int) (a0_1 : Int) (A0_2 : Option Addr) (c0_2 : Nat) (l0_2 : List (S47)) (r : List Int) (w : World) (hr0_2 : Kd.C k47 w A0_2 l0_2.length l0_2) (hc0_2 : l0_2.length ≤ c0_2) (h : spec_l3Reached.f k a0_0 a0_1 l0_2 = some r) :
    Calls Try.prog 41 #[.agg #[.int .i64 a0_0, .int .i64 a0_1, .slice A0_2 l0_2.length c0_2]] w fun e w' => ∃ v0_ : Value, e = .returned (v0_) ∧ Kd.R (Kd.int .i64) 3 w' w.heap.size (fun _ => True) v0_ r ∧ Below w.heap.size w w' := by
  have hu30 := Try.underlying30
  have hu47 := Try.underlying47
  have HR0_2 := Aside0.mk hr0_2
  have HC0_2 := Aside0.mk hc0_2
  clear hr0_2 hc0_2
  have HB := Aside0.mk (Below.refl w.heap.size w)
  have H : (spec_l3Reached.l0 k (([0] : List Int)) true a0_0 a0_1 l0_2) = some r := h
  clear h
  obtain ⟨y102, hy102⟩ : ∃ y_ : List Int, y_ = (([0] : List Int)) := ⟨_, rfl⟩
  replace H : (spec_l3Reached.l0 k y102 true a0_0 a0_1 l0_2) = some r := by first | (rw [hy102]; with_reducible exact H) | (have H2_ := (Option.bind_some _ _).symm.trans H; rw [hy102]; with_reducible exact H2_) | (have H2_ := (Option.bind_some _ _).symm.trans H; with_reducible exact H2_) | with_reducible exact H | (rw [hy102]; exact H) | exact H
  have Ny102 := Aside0.mk hy102
  clear hy102
  have H' := Aside0.mk H
  clear H
  go_enter Try.func41, Try.ntmps41
  go_wp2_with (first | ((with_reducible refine gate_dst (N := 1) rfl ?_); refine box_event ?hg (N := 1) ?hd (cs := #[.int .i64 a0_0, .int .i64 a0_1, .slice A0_2 l0_2.length c0_2]) (t := 30) ?hr ?_; (case hd => rfl); (case hg => rfl); (case hr => first | (go_simp; done) | (go_simp; rfl)); intro gb101 hg w2 hbox hb; have n0_ := Aside0.mk (below_step (by repeat (first | (with_reducible first | exact HB.out | apply below_alloc | apply pw_below_drewN | apply below_drew1) | exact HB.out)) hb); have n1_ := Aside0.mk (hbox); have n2_ := Aside0.mk ((by rw [hg]; exact (below_size (by repeat (first | (with_reducible first | exact HB.out | apply below_alloc | apply pw_below_drewN | apply below_drew1) | exact HB.out))) : w.heap.size ≤ gb101)); have n3_ := Aside0.mk ((by rw [hg]; exact (below_size (by repeat (first | (with_reducible first | exact HB.out | apply below_alloc | apply pw_below_drewN | apply below_drew1) | exact HB.out))) : w.heap.size ≤ gb101)); clear HB; have HB := n0_; have BK101 := n1_; have GW101 := n2_; have GE101 := n3_; clear n0_ n1_ n2_ n3_; clear hb hbox hg) | ((with_reducible refine gate_dst (N := 9) rfl ?_); refine Kd.R_lit (Kd.int .i64) _ 3 ?hg (N := 9) ?hd (xs := ([0] : List Int)) (inner := [.int .i64 0]) (ok := fun _ => True) (okp := fun _ => True) ?hr ?hp (fun _ hk => hk) trivial (Below.refl _ _) (Nat.le_refl _) (by simp) ?_; (case hd => rfl); (case hg => rfl); (case hr => first | (go_simp; done) | (go_simp; rfl)); (case hp => exact (Reps.one (show Kd.M (Kd.int .i64) _ _ _ 0 [.int .i64 0] from rfl) (Reps.none _ _))); intro v103 w3 ho4 hb hg_ hnew_; clear hg_ hnew_; (first | rw [← Ny102.out] at ho4 | (simp only [Int.reduceToNat] at ho4; rw [← Ny102.out] at ho4)); have n0_ := Aside0.mk (Kd.R_lower ho4 (below_size (by repeat (first | (with_reducible first | exact HB.out | apply below_alloc | apply pw_below_drewN | apply below_drew1 | refine below_set ?_ GE101.out) | exact HB.out)))); have n1_ := Aside0.mk (blk_below (g := gb101) (o := .cells #[.int .i64 a0_0, .int .i64 a0_1, .slice A0_2 l0_2.length c0_2] 30 (0, 0)) (by (with_reducible repeat (first | refine blk_drewN ?_ _ | refine blk_drew ?_ | refine blk_alloc ?_ _)); exact BK101.out) hb); have n2_ := Aside0.mk (below_step (by repeat (first | (with_reducible first | exact HB.out | apply below_alloc | apply pw_below_drewN | apply below_drew1 | refine below_set ?_ GE101.out) | exact HB.out)) hb); clear BK101; clear HB; have HO104 := n0_; have BK101 := n1_; have HB := n2_; clear n0_ n1_ n2_; clear hb ho4))
  go_loopg [3, 4] k (fun kq v3 v4 w' => ∃ (x3_1 : List Int) (x4_1 : Bool), v4 = .bool x4_1 ∧ Aside0 (spec_l3Reached.l0 kq x3_1 x4_1 a0_0 a0_1 l0_2 = some r) ∧ Aside0 (kq ≤ k) ∧ Aside0 (Kd.R (Kd.int .i64) 3 w' w.heap.size (fun _ => True) v3 x3_1) ∧ Aside0 (w'.heap[gb101]? = some (.cells #[.int .i64 a0_0, .int .i64 a0_1, (.slice A0_2 l0_2.length c0_2)] 30 (0, 0))) ∧ Aside0 (Below w.heap.size w w'))
  case atStart => exact ⟨(y102), (true), (by first | rfl | (simp; done) | (simp [*]; done)), H', ⟨Nat.le_refl _⟩, ⟨by (with_reducible repeat (first | apply Kd.R_alloc | apply Kd.R_drewN | apply Kd.R_drew)); exact HO104.out⟩, ⟨by (with_reducible repeat (first | refine blk_drewN ?_ _ | refine blk_drew ?_ | refine blk_alloc ?_ _)); exact BK101.out⟩, ⟨by repeat (first | (with_reducible first | exact HB.out | apply below_alloc | apply pw_below_drewN | apply below_drew1 | refine below_set ?_ GE101.out) | exact HB.out)⟩⟩
  case round =>
    clear H'
    try clear p2
    try clear c4
    obtain ⟨x3_1, x4_1, rfl, HA, HK1, HO_3, BK101, HB⟩ := hrel
    cases gk with
    | zero => exact absurd HA.out (by simp [spec_l3Reached.l0])
    | succ k1 =>
      have H := HA.out
      clear HA
      simp only [spec_l3Reached.l0] at H
      by_cases c5 : x4_1 = true
      · subst c5
        have H1 : (spec_l3Reached.l1 k1 x3_1 false l0_2 (l0_2.length : Int) 0 a0_0 a0_1 l0_2) = some r := by rw [if_pos rfl] at H; exact H
        clear H
        have H := H1
        clear H1
        have H' := Aside0.mk H
        clear H
        have hcz6_0 : wr.cell? ⟨gb101, 0, none⟩ = some (.int .i64 a0_0) := (blk_cell BK101.out 0).trans rfl
        have hcz6_1 : wr.cell? ⟨gb101, 1, none⟩ = some (.int .i64 a0_1) := (blk_cell BK101.out 1).trans rfl
        have hcz6_2 : wr.cell? ⟨gb101, 2, none⟩ = some (.slice A0_2 l0_2.length c0_2) := (blk_cell BK101.out 2).trans rfl
        have hfz6_0 := blk_frozen BK101.out 0
        have hfz6_1 := blk_frozen BK101.out 1
        have hfz6_2 := blk_frozen BK101.out 2
        go_wp2
        go_loopg [3, 4, 14] k1 (fun kq v3 v4 v14 w' => ∃ (x3_2 : List Int) (x4_2 : Bool) (x14_2 : Int), v4 = .bool x4_2 ∧ v14 = .int .i64 x14_2 ∧ Aside0 (spec_l3Reached.l1 kq x3_2 x4_2 l0_2 (l0_2.length : Int) x14_2 a0_0 a0_1 l0_2 = some r) ∧ Aside0 (kq ≤ k1) ∧ Aside0 (Kd.R (Kd.int .i64) 3 w' w.heap.size (fun _ => True) v3 x3_2) ∧ Aside0 (w'.heap[gb101]? = some (.cells #[.int .i64 a0_0, .int .i64 a0_1, (.slice A0_2 l0_2.length c0_2)] 30 (0, 0))) ∧ Aside0 (Below w.heap.size w w'))
        case atStart => exact ⟨(x3_1), (false), (0), (by first | rfl | (simp; done) | (simp [*]; done)), (by first | rfl | (simp; done) | (simp [*]; done)), H', ⟨Nat.le_refl _⟩, ⟨by (with_reducible repeat (first | apply Kd.R_alloc | apply Kd.R_drewN | apply Kd.R_drew)); exact HO_3.out⟩, ⟨by (with_reducible repeat (first | refine blk_drewN ?_ _ | refine blk_drew ?_ | refine blk_alloc ?_ _)); exact BK101.out⟩, ⟨by repeat (first | (with_reducible first | exact HB.out | apply below_alloc | apply pw_below_drewN | apply below_drew1 | refine below_set ?_ GE101.out) | exact HB.out)⟩⟩
        case round =>
          clear H'
          try clear p2
          try clear c4
          try clear c5
          try clear hcz6_0
          try clear hcz6_1
          try clear hcz6_2
          try clear hfz6_0
          try clear hfz6_1
          try clear hfz6_2
          try clear p2
          obtain ⟨x3_2, x4_2, x14_2, rfl, rfl, HA, HK2, HO_3, BK101, HB⟩ := hrel
          cases gk with
          | zero => exact absurd HA.out (by simp [spec_l3Reached.l1])
          | succ k2 =>
            have H := HA.out
            clear HA
            simp only [spec_l3Reached.l1] at H
            by_cases c7 : x14_2 < (l0_2.length : Int)
            · rw [if_pos c7] at H
              have c7b0 : decide (x14_2 < (l0_2.length : Int)) = true := decide_eq_true c7
              clear c7
              by_cases c8 : 0 ≤ x14_2
              · rw [if_pos c8] at H
                have c8b0 : decide (0 ≤ x14_2) = true := decide_eq_true c8
                clear c8
                by_cases c9 : x14_2 < (l0_2.length : Int)
                · rw [if_pos c9] at H
                  have c9b0 : decide (x14_2 < (l0_2.length : Int)) = true := decide_eq_true c9
                  clear c9
                  have H' := Aside0.mk H
                  clear H
                  have p105 : 0 ≤ (x14_2 : Int) := of_decide_eq_true (by first | (with_reducible assumption) | assumption)
                  have q105 : x14_2 < (l0_2.length : Int) := of_decide_eq_true (by first | (with_reducible assumption) | assumption)
                  obtain ⟨ad105, A105_1, c105_1, e105, hx105_0, hx105_1, hl105_1, hi105_1⟩ := at_T47 HR0_2.out x14_2 p105 q105
                  cases e105
                  replace hx105_0 := (HB.out.cell (World.block_lt_of_cell? w _ hx105_0)).trans hx105_0
                  replace hx105_1 := (HB.out.cell (World.block_lt_of_cell? w _ hx105_1)).trans hx105_1
                  have HR105_1 := Aside0.mk hi105_1
                  have HC105_1 := Aside0.mk hl105_1
                  clear hi105_1 hl105_1
                  replace p105 := eq_true p105
                  replace q105 := eq_true q105
                  go_wp2_with (first | ((with_reducible refine gate_dst (N := 6) rfl ?_); refine box_event ?hg (N := 6) ?hd (cs := #[.int .i64 0, .slice none 0 0]) (t := 47) ?hr ?_; (case hd => rfl); (case hg => rfl); (case hr => first | (go_simp; done) | (go_simp; rfl)); intro gb106 hg w10 hbox hb; have n0_ := Aside0.mk (Kd.R_below (by (with_reducible repeat (first | apply Kd.R_alloc | apply Kd.R_drewN | apply Kd.R_drew)); exact HO_3.out) hb); have n1_ := Aside0.mk (blk_below (g := gb101) (o := .cells #[.int .i64 a0_0, .int .i64 a0_1, .slice (some ad105) l0_2.length c0_2] 30 (0, 0)) (by (with_reducible repeat (first | refine blk_drewN ?_ _ | refine blk_drew ?_ | refine blk_alloc ?_ _)); exact BK101.out) hb); have n2_ := Aside0.mk (below_step (by repeat (first | (with_reducible first | exact HB.out | apply below_alloc | apply pw_below_drewN | apply below_drew1 | refine below_set ?_ GE101.out) | exact HB.out)) hb); have n3_ := Aside0.mk (hbox); have n4_ := Aside0.mk ((by rw [hg]; exact (below_size (by repeat (first | (with_reducible first | exact HB.out | apply below_alloc | apply pw_below_drewN | apply below_drew1 | refine below_set ?_ GE101.out) | exact HB.out))) : w.heap.size ≤ gb106)); have n5_ := Aside0.mk ((by rw [hg]; exact (below_size (by repeat (first | (with_reducible first | exact HB.out | apply below_alloc | apply pw_below_drewN | apply below_drew1 | refine below_set ?_ GE101.out) | exact HB.out))) : w.heap.size ≤ gb106)); have n6_ := Aside0.mk ((by rw [hg]; exact Nat.ne_of_lt (blk_lt (g := gb101) (o := .cells #[.int .i64 a0_0, .int .i64 a0_1, .slice (some ad105) l0_2.length c0_2] 30 (0, 0)) (by (with_reducible repeat (first | refine blk_drewN ?_ _ | refine blk_drew ?_ | refine blk_alloc ?_ _)); exact BK101.out)) : gb101 ≠ gb106)); have n7_ := Aside0.mk ((by rw [hg]; exact Nat.ne_of_gt (blk_lt (g := gb101) (o := .cells #[.int .i64 a0_0, .int .i64 a0_1, .slice (some ad105) l0_2.length c0_2] 30 (0, 0)) (by (with_reducible repeat (first | refine blk_drewN ?_ _ | refine blk_drew ?_ | refine blk_alloc ?_ _)); exact BK101.out)) : gb106 ≠ gb101)); clear HO_3; clear BK101; clear HB; have HO_3 := n0_; have BK101 := n1_; have HB := n2_; have BK106 := n3_; have GW106 := n4_; have GE106 := n5_; have NB101_106 := n6_; have NB106_101 := n7_; clear n0_ n1_ n2_ n3_ n4_ n5_ n6_ n7_; clear hb hbox hg; have hnb11 := NB106_101.out; have hnc11 := NB101_106.out; have hcz12_0 : w10.cell? ⟨gb106, 0, none⟩ = some (.int .i64 0) := (blk_cell BK106.out 0).trans rfl; have hcz12_1 : w10.cell? ⟨gb106, 1, none⟩ = some (.slice none 0 0) := (blk_cell BK106.out 1).trans rfl; have hfz12_0 := blk_frozen BK106.out 0; have hfz12_1 := blk_frozen BK106.out 1))
                  go_loopg [3, 4, 21] k2 (fun kq v3 v4 v21 w' => ∃ (x3_3 : List Int) (x4_3 : Bool) (x21_3 : Int), v4 = .bool x4_3 ∧ v21 = .int .i64 x21_3 ∧ Aside0 (spec_l3Reached.l2 kq x3_3 x4_3 l0_2 (l0_2.length : Int) x14_2 ((rd_T47 l0_2 x14_2).f1) (((rd_T47 l0_2 x14_2).f1).length : Int) x21_3 a0_0 a0_1 l0_2 ((rd_T47 l0_2 x14_2).f0) ((rd_T47 l0_2 x14_2).f1) = some r) ∧ Aside0 (kq ≤ k2) ∧ Aside0 (Kd.R (Kd.int .i64) 3 w' w.heap.size (fun _ => True) v3 x3_3) ∧ Aside0 (w'.heap[gb101]? = some (.cells #[.int .i64 a0_0, .int .i64 a0_1, (.slice (some ad105) l0_2.length c0_2)] 30 (0, 0))) ∧ Aside0 (w'.heap[gb106]? = some (.cells #[.int .i64 ((rd_T47 l0_2 x14_2).f0), (.slice A105_1 ((rd_T47 l0_2 x14_2).f1).length c105_1)] 47 (0, 0))) ∧ Aside0 (Below w.heap.size w w'))
                  case atStart => exact ⟨(x3_2), (x4_2), (0), (by first | rfl | (simp; done) | (simp [*]; done)), (by first | rfl | (simp; done) | (simp [*]; done)), H', ⟨Nat.le_refl _⟩, ⟨by (with_reducible repeat (first | apply Kd.R_alloc | apply Kd.R_drewN | apply Kd.R_drew)); exact Kd.R_mono (Kd.R_far (p := ⟨gb106, 1, none⟩) (Kd.R_far (p := ⟨gb106, 0, none⟩) (Kd.R_types HO_3.out BK106.out (by decide)) (fun _ hk => hk.2) (.int .i64 ((rd_T47 l0_2 x14_2).f0))) (fun _ hk => hk.2) (.slice A105_1 ((rd_T47 l0_2 x14_2).f1).length c105_1)) (fun _ hk => trivial)⟩, ⟨by (with_reducible repeat (first | refine blk_drewN ?_ _ | refine blk_drew ?_ | refine blk_alloc ?_ _)); refine blk_far ?_ NB101_106.out _; (with_reducible repeat (first | refine blk_drewN ?_ _ | refine blk_drew ?_ | refine blk_alloc ?_ _)); refine blk_far ?_ NB101_106.out _; (with_reducible repeat (first | refine blk_drewN ?_ _ | refine blk_drew ?_ | refine blk_alloc ?_ _)); exact BK101.out⟩, ⟨by (with_reducible repeat (first | refine blk_drewN ?_ _ | refine blk_drew ?_ | refine blk_alloc ?_ _)); refine blk_put (cs := #[.int .i64 ((rd_T47 l0_2 x14_2).f0), .slice none 0 0]) ?_ 1 _ rfl; (with_reducible repeat (first | refine blk_drewN ?_ _ | refine blk_drew ?_ | refine blk_alloc ?_ _)); refine blk_put (cs := #[.int .i64 0, .slice none 0 0]) ?_ 0 _ rfl; (with_reducible repeat (first | refine blk_drewN ?_ _ | refine blk_drew ?_ | refine blk_alloc ?_ _)); exact BK106.out⟩, ⟨by repeat (first | (with_reducible first | exact HB.out | apply below_alloc | apply pw_below_drewN | apply below_drew1 | refine below_set ?_ GE101.out | refine below_set ?_ GE106.out) | exact HB.out)⟩⟩
                  case round =>
                    clear H'
                    try clear c1
                    try clear p1
                    try clear q1
                    try clear hx1
                    try clear p2
                    try clear c4
                    try clear c5
                    try clear c7
                    try clear c7b0
                    try clear c8
                    try clear c8b0
                    try clear c9
                    try clear c9b0
                    try clear c10
                    try clear p10
                    try clear q10
                    try clear hx10
                    try clear c11
                    try clear hcz12_0
                    try clear hcz12_1
                    try clear hcz6_0
                    try clear hcz6_1
                    try clear hcz6_2
                    try clear hfz12_0
                    try clear hfz12_1
                    try clear hfz6_0
                    try clear hfz6_1
                    try clear hfz6_2
                    try clear hx105_0
                    try clear hx105_1
                    try clear p105
                    try clear p2
                    try clear q105
                    obtain ⟨x3_3, x4_3, x21_3, rfl, rfl, HA, HK3, HO_3, BK101, BK106, HB⟩ := hrel
                    cases gk with
                    | zero => exact absurd HA.out (by simp [spec_l3Reached.l2])
                    | succ k3 =>
                      have H := HA.out
                      clear HA
                      simp only [spec_l3Reached.l2] at H
                      by_cases c13 : x21_3 < (((rd_T47 l0_2 x14_2).f1).length : Int)
                      · rw [if_pos c13] at H
                        have c13b0 : decide (x21_3 < (((rd_T47 l0_2 x14_2).f1).length : Int)) = true := decide_eq_true c13
                        clear c13
                        by_cases c14 : 0 ≤ x21_3
                        · rw [if_pos c14] at H
                          have c14b0 : decide (0 ≤ x21_3) = true := decide_eq_true c14
                          clear c14
                          by_cases c15 : x21_3 < (((rd_T47 l0_2 x14_2).f1).length : Int)
                          · rw [if_pos c15] at H
                            have c15b0 : decide (x21_3 < (((rd_T47 l0_2 x14_2).f1).length : Int)) = true := decide_eq_true c15
                            clear c15
                            by_cases c16 : (rd ((rd_T47 l0_2 x14_2).f1) x21_3) ≥ 0
                            · rw [if_pos c16] at H
                              have c16b0 : decide (0 ≤ (rd ((rd_T47 l0_2 x14_2).f1) x21_3)) = true := decide_eq_true c16
                              clear c16
                              replace H := Option.bind_eq_some_iff.mp H
                              obtain ⟨t108, A170, H⟩ := H
                              replace H : (if t108 = true then ((spec_l1Has.f k3 x3_3 (rd ((rd_T47 l0_2 x14_2).f1) x21_3)).bind fun t109 => (if t109 = true then (spec_l3Reached.l2 k3 x3_3 x4_3 l0_2 (l0_2.length : Int) x14_2 ((rd_T47 l0_2 x14_2).f1) (((rd_T47 l0_2 x14_2).f1).length : Int) (wrap64 (x21_3 + 1)) a0_0 a0_1 l0_2 ((rd_T47 l0_2 x14_2).f0) ((rd_T47 l0_2 x14_2).f1)) else ((spec_l1Put.f k3 x3_3 (rd ((rd_T47 l0_2 x14_2).f1) x21_3)).bind fun t110 => (spec_l3Reached.l2 k3 t110 true l0_2 (l0_2.length : Int) x14_2 ((rd_T47 l0_2 x14_2).f1) (((rd_T47 l0_2 x14_2).f1).length : Int) (wrap64 (x21_3 + 1)) a0_0 a0_1 l0_2 ((rd_T47 l0_2 x14_2).f0) ((rd_T47 l0_2 x14_2).f1))))) else (spec_l3Reached.l2 k3 x3_3 x4_3 l0_2 (l0_2.length : Int) x14_2 ((rd_T47 l0_2 x14_2).f1) (((rd_T47 l0_2 x14_2).f1).length : Int) (wrap64 (x21_3 + 1)) a0_0 a0_1 l0_2 ((rd_T47 l0_2 x14_2).f0) ((rd_T47 l0_2 x14_2).f1))) = some r := H
                              have A17 := Aside0.mk A170
                              clear A170
                              by_cases c18 : t108 = true
                              · subst c18
                                have H1 : ((spec_l1Has.f k3 x3_3 (rd ((rd_T47 l0_2 x14_2).f1) x21_3)).bind fun t109 => (if t109 = true then (spec_l3Reached.l2 k3 x3_3 x4_3 l0_2 (l0_2.length : Int) x14_2 ((rd_T47 l0_2 x14_2).f1) (((rd_T47 l0_2 x14_2).f1).length : Int) (wrap64 (x21_3 + 1)) a0_0 a0_1 l0_2 ((rd_T47 l0_2 x14_2).f0) ((rd_T47 l0_2 x14_2).f1)) else ((spec_l1Put.f k3 x3_3 (rd ((rd_T47 l0_2 x14_2).f1) x21_3)).bind fun t110 => (spec_l3Reached.l2 k3 t110 true l0_2 (l0_2.length : Int) x14_2 ((rd_T47 l0_2 x14_2).f1) (((rd_T47 l0_2 x14_2).f1).length : Int) (wrap64 (x21_3 + 1)) a0_0 a0_1 l0_2 ((rd_T47 l0_2 x14_2).f0) ((rd_T47 l0_2 x14_2).f1))))) = some r := by rw [if_pos rfl] at H; exact H
                                clear H
                                have H := H1
                                clear H1
                                replace H := Option.bind_eq_some_iff.mp H
                                obtain ⟨t109, A190, H⟩ := H
                                replace H : (if t109 = true then (spec_l3Reached.l2 k3 x3_3 x4_3 l0_2 (l0_2.length : Int) x14_2 ((rd_T47 l0_2 x14_2).f1) (((rd_T47 l0_2 x14_2).f1).length : Int) (wrap64 (x21_3 + 1)) a0_0 a0_1 l0_2 ((rd_T47 l0_2 x14_2).f0) ((rd_T47 l0_2 x14_2).f1)) else ((spec_l1Put.f k3 x3_3 (rd ((rd_T47 l0_2 x14_2).f1) x21_3)).bind fun t110 => (spec_l3Reached.l2 k3 t110 true l0_2 (l0_2.length : Int) x14_2 ((rd_T47 l0_2 x14_2).f1) (((rd_T47 l0_2 x14_2).f1).length : Int) (wrap64 (x21_3 + 1)) a0_0 a0_1 l0_2 ((rd_T47 l0_2 x14_2).f0) ((rd_T47 l0_2 x14_2).f1)))) = some r := H
                                have A19 := Aside0.mk A190
                                clear A190
                                by_cases c20 : t109 = true
                                · subst c20
                                  have H1 : (spec_l3Reached.l2 k3 x3_3 x4_3 l0_2 (l0_2.length : Int) x14_2 ((rd_T47 l0_2 x14_2).f1) (((rd_T47 l0_2 x14_2).f1).length : Int) (wrap64 (x21_3 + 1)) a0_0 a0_1 l0_2 ((rd_T47 l0_2 x14_2).f0) ((rd_T47 l0_2 x14_2).f1)) = some r := by rw [if_pos rfl] at H; exact H
                                  clear H
                                  have H := H1
                                  clear H1
                                  have H' := Aside0.mk H
                                  clear H
                                  have p107 : 0 ≤ (x21_3 : Int) := of_decide_eq_true (by first | (with_reducible assumption) | assumption)
                                  have q107 : x21_3 < (((rd_T47 l0_2 x14_2).f1).length : Int) := of_decide_eq_true (by first | (with_reducible assumption) | assumption)
                                  obtain ⟨ad107, e107, hx107_0⟩ := Kd.at_int HR105_1.out x21_3 p107 q107
                                  cases e107
                                  replace hx107_0 := (HB.out.cell (World.block_lt_of_cell? w _ hx107_0)).trans hx107_0
                                  replace p107 := eq_true p107
                                  replace q107 := eq_true q107
                                  have hnb21 := NB106_101.out
                                  have hnc21 := NB101_106.out
                                  have hcz22_0 : wr.cell? ⟨gb106, 0, none⟩ = some (.int .i64 ((rd_T47 l0_2 x14_2).f0)) := (blk_cell BK106.out 0).trans rfl
                                  have hcz22_1 : wr.cell? ⟨gb106, 1, none⟩ = some (.slice (some ad107) ((rd_T47 l0_2 x14_2).f1).length c105_1) := (blk_cell BK106.out 1).trans rfl
                                  have hfz22_0 := blk_frozen BK106.out 0
                                  have hfz22_1 := blk_frozen BK106.out 1
                                  obtain ⟨Ao23, co23, eo23⟩ := Kd.R_slice HO_3.out
                                  subst eo23
                                  go_wp2_with (first | (go_at_call 66; (with_reducible refine (spec_l1Has.calls k3 _ _ x3_3 ((rd_T47 l0_2 x14_2).f0) true _ ?side1 ?side2 A17.out).mono ?_); (case side1 => repeat (first | exact (Kd.R_reads' HO_3.out).2.2 | (with_reducible refine Kd.C_alloc ?_ _) | (with_reducible refine Kd.C_drewN ?_ _) | (with_reducible refine Kd.C_drew ?_))); (case side2 => exact (Kd.R_reads' HO_3.out).2.1); rintro e w' ⟨rfl, ⟨nd, rfl⟩⟩) | (go_at_call 66; (with_reducible refine (spec_l1Has.calls k3 _ _ x3_3 (rd ((rd_T47 l0_2 x14_2).f1) x21_3) true _ ?side1 ?side2 A19.out).mono ?_); (case side1 => repeat (first | exact (Kd.R_reads' HO_3.out).2.2 | (with_reducible refine Kd.C_alloc ?_ _) | (with_reducible refine Kd.C_drewN ?_ _) | (with_reducible refine Kd.C_drew ?_))); (case side2 => exact (Kd.R_reads' HO_3.out).2.1); rintro e w' ⟨rfl, ⟨nd, rfl⟩⟩))
                                  go_roundg k3
                                  case measure => have := HK1.out; have := HK2.out; have := HK3.out; omega
                                  case rel => exact ⟨(x3_3), (x4_3), (wrap64 (x21_3 + 1)), (by first | rfl | (simp; done) | (simp [*]; done)), (by first | rfl | (simp; done) | (simp [*]; done)), H', ⟨by have := HK1.out; have := HK2.out; have := HK3.out; omega⟩, ⟨by (with_reducible repeat (first | apply Kd.R_alloc | apply Kd.R_drewN | apply Kd.R_drew)); exact HO_3.out⟩, ⟨by (with_reducible repeat (first | refine blk_drewN ?_ _ | refine blk_drew ?_ | refine blk_alloc ?_ _)); exact BK101.out⟩, ⟨by (with_reducible repeat (first | refine blk_drewN ?_ _ | refine blk_drew ?_ | refine blk_alloc ?_ _)); exact BK106.out⟩, ⟨by repeat (first | (with_reducible first | exact HB.out | apply below_alloc | apply pw_below_drewN | apply below_drew1 | refine below_set ?_ GE101.out | refine below_set ?_ GE106.out) | exact HB.out)⟩⟩
                                · replace c20 := Bool.eq_false_iff.mpr c20
                                  subst c20
                                  have H1 : ((spec_l1Put.f k3 x3_3 (rd ((rd_T47 l0_2 x14_2).f1) x21_3)).bind fun t110 => (spec_l3Reached.l2 k3 t110 true l0_2 (l0_2.length : Int) x14_2 ((rd_T47 l0_2 x14_2).f1) (((rd_T47 l0_2 x14_2).f1).length : Int) (wrap64 (x21_3 + 1)) a0_0 a0_1 l0_2 ((rd_T47 l0_2 x14_2).f0) ((rd_T47 l0_2 x14_2).f1))) = some r := by rw [if_neg (show ¬ (false = true) by decide)] at H; exact H
                                  clear H
                                  have H := H1
                                  clear H1
                                  replace H := Option.bind_eq_some_iff.mp H
                                  obtain ⟨t110, A240, H⟩ := H
                                  replace H : (spec_l3Reached.l2 k3 t110 true l0_2 (l0_2.length : Int) x14_2 ((rd_T47 l0_2 x14_2).f1) (((rd_T47 l0_2 x14_2).f1).length : Int) (wrap64 (x21_3 + 1)) a0_0 a0_1 l0_2 ((rd_T47 l0_2 x14_2).f0) ((rd_T47 l0_2 x14_2).f1)) = some r := H
                                  have A24 := Aside0.mk A240
                                  clear A240
                                  have H' := Aside0.mk H
                                  clear H
                                  have p107 : 0 ≤ (x21_3 : Int) := of_decide_eq_true (by first | (with_reducible assumption) | assumption)
                                  have q107 : x21_3 < (((rd_T47 l0_2 x14_2).f1).length : Int) := of_decide_eq_true (by first | (with_reducible assumption) | assumption)
                                  obtain ⟨ad107, e107, hx107_0⟩ := Kd.at_int HR105_1.out x21_3 p107 q107
                                  cases e107
                                  replace hx107_0 := (HB.out.cell (World.block_lt_of_cell? w _ hx107_0)).trans hx107_0
                                  replace p107 := eq_true p107
                                  replace q107 := eq_true q107
                                  have hnb25 := NB106_101.out
                                  have hnc25 := NB101_106.out
                                  have hcz26_0 : wr.cell? ⟨gb106, 0, none⟩ = some (.int .i64 ((rd_T47 l0_2 x14_2).f0)) := (blk_cell BK106.out 0).trans rfl
                                  have hcz26_1 : wr.cell? ⟨gb106, 1, none⟩ = some (.slice (some ad107) ((rd_T47 l0_2 x14_2).f1).length c105_1) := (blk_cell BK106.out 1).trans rfl
                                  have hfz26_0 := blk_frozen BK106.out 0
                                  have hfz26_1 := blk_frozen BK106.out 1
                                  obtain ⟨Ao27, co27, eo27⟩ := Kd.R_slice HO_3.out
                                  subst eo27
                                  go_wp2_with (first | (go_at_call 66; (with_reducible refine (spec_l1Has.calls k3 _ _ x3_3 ((rd_T47 l0_2 x14_2).f0) true _ ?side1 ?side2 A17.out).mono ?_); (case side1 => repeat (first | exact (Kd.R_reads' HO_3.out).2.2 | (with_reducible refine Kd.C_alloc ?_ _) | (with_reducible refine Kd.C_drewN ?_ _) | (with_reducible refine Kd.C_drew ?_))); (case side2 => exact (Kd.R_reads' HO_3.out).2.1); rintro e w' ⟨rfl, ⟨nd, rfl⟩⟩) | (go_at_call 66; (with_reducible refine (spec_l1Has.calls k3 _ _ x3_3 (rd ((rd_T47 l0_2 x14_2).f1) x21_3) false _ ?side1 ?side2 A19.out).mono ?_); (case side1 => repeat (first | exact (Kd.R_reads' HO_3.out).2.2 | (with_reducible refine Kd.C_alloc ?_ _) | (with_reducible refine Kd.C_drewN ?_ _) | (with_reducible refine Kd.C_drew ?_))); (case side2 => exact (Kd.R_reads' HO_3.out).2.1); rintro e w' ⟨rfl, ⟨nd, rfl⟩⟩) | ((with_reducible refine gate_callee (f := 67) rfl ?_); refine goesL_ (some 41) rfl rfl Try.func67 (by kernel_rfl) rfl #[.slice Ao27 x3_3.length co27, .int .i64 (rd ((rd_T47 l0_2 x14_2).f1) x21_3)] rfl (by (try simp only [List.map_toArray, List.map_cons, List.map_nil]); first | done | rfl | (simp only [List.length_drop, List.length_take]; rfl)) ?_; (with_reducible refine (spec_l1Put.calls k3 (fun k_ => some k_ = (.slice Ao27 x3_3.length co27 : Value).ownBlock) (.slice Ao27 x3_3.length co27) x3_3 (rd ((rd_T47 l0_2 x14_2).f1) x21_3) t110 w _ ?side1 ?side2 A24.out).mono ?_); (case side1 => repeat (first | (with_reducible first | exact HB.out | apply below_alloc | apply pw_below_drewN | apply below_drew1 | refine below_set ?_ GE101.out | refine below_set ?_ GE106.out) | exact HB.out)); (case side2 => exact Kd.R_tight rfl HO_3.out); rintro e w28 ⟨v111, rfl, ho0, hb, hkp⟩; refine ⟨_, rfl, ?_⟩; have n0_ := Aside0.mk (blk_kept (by (with_reducible repeat (first | refine blk_drewN ?_ _ | refine blk_drew ?_ | refine blk_alloc ?_ _)); exact BK101.out) hkp (fun hs_ => (fun e_ => (Kd.R_ne HO_3.out BK101.out (by decide)) e_) hs_)); have n1_ := Aside0.mk (blk_kept (by (with_reducible repeat (first | refine blk_drewN ?_ _ | refine blk_drew ?_ | refine blk_alloc ?_ _)); exact BK106.out) hkp (fun hs_ => (fun e_ => (Kd.R_ne HO_3.out BK106.out (by decide)) e_) hs_)); have n2_ := Aside0.mk (Kd.R_mono (ok' := fun k_ => True) ho0 (fun k_ hk_ => trivial)); have n3_ := Aside0.mk (hb); clear BK101; clear BK106; clear HB; clear HO_3; have BK101 := n0_; have BK106 := n1_; have HO112 := n2_; have HB := n3_; clear n0_ n1_ n2_ n3_; (try clear hb); (try clear hkp); (try clear ho0)))
                                  go_roundg k3
                                  case measure => have := HK1.out; have := HK2.out; have := HK3.out; omega
                                  case rel => exact ⟨(t110), (true), (wrap64 (x21_3 + 1)), (by first | rfl | (simp; done) | (simp [*]; done)), (by first | rfl | (simp; done) | (simp [*]; done)), H', ⟨by have := HK1.out; have := HK2.out; have := HK3.out; omega⟩, ⟨by (with_reducible repeat (first | apply Kd.R_alloc | apply Kd.R_drewN | apply Kd.R_drew)); exact HO112.out⟩, ⟨by (with_reducible repeat (first | refine blk_drewN ?_ _ | refine blk_drew ?_ | refine blk_alloc ?_ _)); exact BK101.out⟩, ⟨by (with_reducible repeat (first | refine blk_drewN ?_ _ | refine blk_drew ?_ | refine blk_alloc ?_ _)); exact BK106.out⟩, ⟨by repeat (first | (with_reducible first | exact HB.out | apply below_alloc | apply pw_below_drewN | apply below_drew1 | refine below_set ?_ GE101.out | refine below_set ?_ GE106.out) | exact HB.out)⟩⟩
                              · replace c18 := Bool.eq_false_iff.mpr c18
                                subst c18
                                have H1 : (spec_l3Reached.l2 k3 x3_3 x4_3 l0_2 (l0_2.length : Int) x14_2 ((rd_T47 l0_2 x14_2).f1) (((rd_T47 l0_2 x14_2).f1).length : Int) (wrap64 (x21_3 + 1)) a0_0 a0_1 l0_2 ((rd_T47 l0_2 x14_2).f0) ((rd_T47 l0_2 x14_2).f1)) = some r := by rw [if_neg (show ¬ (false = true) by decide)] at H; exact H
                                clear H
                                have H := H1
                                clear H1
                                have H' := Aside0.mk H
                                clear H
                                have p107 : 0 ≤ (x21_3 : Int) := of_decide_eq_true (by first | (with_reducible assumption) | assumption)
                                have q107 : x21_3 < (((rd_T47 l0_2 x14_2).f1).length : Int) := of_decide_eq_true (by first | (with_reducible assumption) | assumption)
                                obtain ⟨ad107, e107, hx107_0⟩ := Kd.at_int HR105_1.out x21_3 p107 q107
                                cases e107
                                replace hx107_0 := (HB.out.cell (World.block_lt_of_cell? w _ hx107_0)).trans hx107_0
                                replace p107 := eq_true p107
                                replace q107 := eq_true q107
                                have hnb29 := NB106_101.out
                                have hnc29 := NB101_106.out
                                have hcz30_0 : wr.cell? ⟨gb106, 0, none⟩ = some (.int .i64 ((rd_T47 l0_2 x14_2).f0)) := (blk_cell BK106.out 0).trans rfl
                                have hcz30_1 : wr.cell? ⟨gb106, 1, none⟩ = some (.slice (some ad107) ((rd_T47 l0_2 x14_2).f1).length c105_1) := (blk_cell BK106.out 1).trans rfl
                                have hfz30_0 := blk_frozen BK106.out 0
                                have hfz30_1 := blk_frozen BK106.out 1
                                obtain ⟨Ao31, co31, eo31⟩ := Kd.R_slice HO_3.out
                                subst eo31
                                go_wp2_with (first | (go_at_call 66; (with_reducible refine (spec_l1Has.calls k3 _ _ x3_3 ((rd_T47 l0_2 x14_2).f0) false _ ?side1 ?side2 A17.out).mono ?_); (case side1 => repeat (first | exact (Kd.R_reads' HO_3.out).2.2 | (with_reducible refine Kd.C_alloc ?_ _) | (with_reducible refine Kd.C_drewN ?_ _) | (with_reducible refine Kd.C_drew ?_))); (case side2 => exact (Kd.R_reads' HO_3.out).2.1); rintro e w' ⟨rfl, ⟨nd, rfl⟩⟩))
                                go_roundg k3
                                case measure => have := HK1.out; have := HK2.out; have := HK3.out; omega
                                case rel => exact ⟨(x3_3), (x4_3), (wrap64 (x21_3 + 1)), (by first | rfl | (simp; done) | (simp [*]; done)), (by first | rfl | (simp; done) | (simp [*]; done)), H', ⟨by have := HK1.out; have := HK2.out; have := HK3.out; omega⟩, ⟨by (with_reducible repeat (first | apply Kd.R_alloc | apply Kd.R_drewN | apply Kd.R_drew)); exact HO_3.out⟩, ⟨by (with_reducible repeat (first | refine blk_drewN ?_ _ | refine blk_drew ?_ | refine blk_alloc ?_ _)); exact BK101.out⟩, ⟨by (with_reducible repeat (first | refine blk_drewN ?_ _ | refine blk_drew ?_ | refine blk_alloc ?_ _)); exact BK106.out⟩, ⟨by repeat (first | (with_reducible first | exact HB.out | apply below_alloc | apply pw_below_drewN | apply below_drew1 | refine below_set ?_ GE101.out | refine below_set ?_ GE106.out) | exact HB.out)⟩⟩
                            · rw [if_neg c16] at H
                              have c16b0 : decide (0 ≤ (rd ((rd_T47 l0_2 x14_2).f1) x21_3)) = false := decide_eq_false c16
                              clear c16
                              have H' := Aside0.mk H
                              clear H
                              have p107 : 0 ≤ (x21_3 : Int) := of_decide_eq_true (by first | (with_reducible assumption) | assumption)
                              have q107 : x21_3 < (((rd_T47 l0_2 x14_2).f1).length : Int) := of_decide_eq_true (by first | (with_reducible assumption) | assumption)
                              obtain ⟨ad107, e107, hx107_0⟩ := Kd.at_int HR105_1.out x21_3 p107 q107
                              cases e107
                              replace hx107_0 := (HB.out.cell (World.block_lt_of_cell? w _ hx107_0)).trans hx107_0
                              replace p107 := eq_true p107
                              replace q107 := eq_true q107
                              go_wp2
                              go_roundg k3
                              case measure => have := HK1.out; have := HK2.out; have := HK3.out; omega
                              case rel => exact ⟨(x3_3), (x4_3), (wrap64 (x21_3 + 1)), (by first | rfl | (simp; done) | (simp [*]; done)), (by first | rfl | (simp; done) | (simp [*]; done)), H', ⟨by have := HK1.out; have := HK2.out; have := HK3.out; omega⟩, ⟨by (with_reducible repeat (first | apply Kd.R_alloc | apply Kd.R_drewN | apply Kd.R_drew)); exact HO_3.out⟩, ⟨by (with_reducible repeat (first | refine blk_drewN ?_ _ | refine blk_drew ?_ | refine blk_alloc ?_ _)); exact BK101.out⟩, ⟨by (with_reducible repeat (first | refine blk_drewN ?_ _ | refine blk_drew ?_ | refine blk_alloc ?_ _)); exact BK106.out⟩, ⟨by repeat (first | (with_reducible first | exact HB.out | apply below_alloc | apply pw_below_drewN | apply below_drew1 | refine below_set ?_ GE101.out | refine below_set ?_ GE106.out) | exact HB.out)⟩⟩
                          · rw [if_neg c15] at H
                            exact absurd H (by simp)
                        · rw [if_neg c14] at H
                          exact absurd H (by simp)
                      · rw [if_neg c13] at H
                        have c13b0 : decide (x21_3 < (((rd_T47 l0_2 x14_2).f1).length : Int)) = false := decide_eq_false c13
                        clear c13
                        have H' := Aside0.mk H
                        clear H
                        go_wp2
                        go_roundg k3
                        case measure => have := HK1.out; have := HK2.out; have := HK3.out; omega
                        case rel => exact ⟨(x3_3), (x4_3), (wrap64 (x14_2 + 1)), (by first | rfl | (simp; done) | (simp [*]; done)), (by first | rfl | (simp; done) | (simp [*]; done)), H', ⟨by have := HK1.out; have := HK2.out; have := HK3.out; omega⟩, ⟨by (with_reducible repeat (first | apply Kd.R_alloc | apply Kd.R_drewN | apply Kd.R_drew)); exact HO_3.out⟩, ⟨by (with_reducible repeat (first | refine blk_drewN ?_ _ | refine blk_drew ?_ | refine blk_alloc ?_ _)); exact BK101.out⟩, ⟨by repeat (first | (with_reducible first | exact HB.out | apply below_alloc | apply pw_below_drewN | apply below_drew1 | refine below_set ?_ GE101.out | refine below_set ?_ GE106.out) | exact HB.out)⟩⟩
                · rw [if_neg c9] at H
                  exact absurd H (by simp)
              · rw [if_neg c8] at H
                exact absurd H (by simp)
            · rw [if_neg c7] at H
              have c7b0 : decide (x14_2 < (l0_2.length : Int)) = false := decide_eq_false c7
              clear c7
              have H' := Aside0.mk H
              clear H
              go_wp2
              go_roundg k2
              case measure => have := HK1.out; have := HK2.out; omega
              case rel => exact ⟨(x3_2), (x4_2), (by first | rfl | (simp; done) | (simp [*]; done)), H', ⟨by have := HK1.out; have := HK2.out; omega⟩, ⟨by (with_reducible repeat (first | apply Kd.R_alloc | apply Kd.R_drewN | apply Kd.R_drew)); exact HO_3.out⟩, ⟨by (with_reducible repeat (first | refine blk_drewN ?_ _ | refine blk_drew ?_ | refine blk_alloc ?_ _)); exact BK101.out⟩, ⟨by repeat (first | (with_reducible first | exact HB.out | apply below_alloc | apply pw_below_drewN | apply below_drew1 | refine below_set ?_ GE101.out) | exact HB.out)⟩⟩
      · replace c5 := Bool.eq_false_iff.mpr c5
        subst c5
        have H1 : (some x3_1) = some r := by rw [if_neg (show ¬ (false = true) by decide)] at H; exact H
        clear H
        have H := H1
        clear H1
        obtain rfl := Option.some.inj H
        go_wp2
        go_ret
        exact ⟨_, by first | rfl | (simp [errW_none, errW_some] <;> rfl) | (simp [*, errW_none, errW_some] <;> rfl), by (with_reducible repeat (first | apply Kd.R_alloc | apply Kd.R_drewN | apply Kd.R_drew)); exact HO_3.out, by repeat (first | (with_reducible first | exact HB.out | apply below_alloc | apply pw_below_drewN | apply below_drew1 | refine below_set ?_ GE101.out) | exact HB.out)⟩

end Go.Proofs.Ytohbdjdjjbieeaa.P

/-! Pre -/
/- Plain lists: what the reference reaches is what the program reaches. -/
namespace Go.Proofs.Ytohbdjdjjbieeaa.P
open Go.RowKit Go.Proofs.YtohbdjdjjbieeaaW.PrintWords
set_option linter.unusedVariables false
set_option linter.unusedSimpArgs false

theorem stepX_len (f x : Int) (q : List Bool × Bool) (h : q.1.length = 6) : (stepX f x q).1.length = 6 := by
  unfold stepX
  split
  · exact set6_len _ _ h
  · exact h
theorem ruleX_len (f : Int) (l : List Int) : ∀ q : List Bool × Bool, q.1.length = 6 → (ruleX f l q).1.length = 6 := by
  induction l with
  | nil => exact fun q h => h
  | cons x l ih => exact fun q h => ih _ (stepX_len f x q h)
theorem stepX_cnt (f x : Int) (hx : x < 6) (q : List Bool × Bool) (h : q.1.length = 6) :
    cntF (stepX f x q).1 ≤ cntF q.1 ∧ ((stepX f x q).2 = true → q.2 = true ∨ cntF (stepX f x q).1 < cntF q.1) := by
  unfold stepX
  split
  · rename_i hc
    simp only [Bool.and_eq_true, Bool.not_eq_true', decide_eq_true_eq] at hc
    have := cntF_set q.1 x.toNat (by omega) hc.2.2
    exact ⟨by dsimp only; omega, fun _ => .inr (by dsimp only; omega)⟩
  · exact ⟨Nat.le_refl _, fun h => .inl h⟩
theorem ruleX_cnt (f : Int) (l : List Int) (hl : ∀ x, x ∈ l → x < 6) : ∀ q : List Bool × Bool, q.1.length = 6 →
    cntF (ruleX f l q).1 ≤ cntF q.1 ∧ ((ruleX f l q).2 = true → q.2 = true ∨ cntF (ruleX f l q).1 < cntF q.1) := by
  induction l with
  | nil => intro q h; exact ⟨Nat.le_refl _, fun h => .inl h⟩
  | cons x l ih =>
    intro q h
    obtain ⟨h2, h3⟩ := ih (fun y hy => hl y (List.mem_cons_of_mem _ hy)) (stepX f x q) (stepX_len f x q h)
    obtain ⟨h4, h5⟩ := stepX_cnt f x (hl x List.mem_cons_self) q h
    refine ⟨Nat.le_trans h2 h4, fun h6 => ?_⟩
    rcases h3 h6 with h7 | h7
    · rcases h5 h7 with h8 | h8
      · exact .inl h8
      · exact .inr (Nat.lt_of_le_of_lt h2 h8)
    · exact .inr (Nat.lt_of_lt_of_le h7 h4)
theorem passX_cnt (l : List S47) (hl : ∀ y, y ∈ l → ∀ x, x ∈ y.f1 → x < 6) : ∀ q : List Bool × Bool, q.1.length = 6 →
    (passX l q).1.length = 6 ∧ cntF (passX l q).1 ≤ cntF q.1 ∧ ((passX l q).2 = true → q.2 = true ∨ cntF (passX l q).1 < cntF q.1) := by
  induction l with
  | nil => intro q h; exact ⟨h, Nat.le_refl _, fun h => .inl h⟩
  | cons y l ih =>
    intro q h
    obtain ⟨h1, h2, h3⟩ := ih (fun z hz => hl z (List.mem_cons_of_mem _ hz)) (ruleX y.f0 y.f1 q) (ruleX_len _ _ q h)
    obtain ⟨h4, h5⟩ := ruleX_cnt y.f0 y.f1 (hl y List.mem_cons_self) q h
    refine ⟨h1, Nat.le_trans h2 h4, fun h6 => ?_⟩
    rcases h3 h6 with h7 | h7
    · rcases h5 h7 with h8 | h8
      · exact .inl h8
      · exact .inr (Nat.lt_of_le_of_lt h2 h8)
    · exact .inr (Nat.lt_of_lt_of_le h7 h4)
theorem okL_sym {l : List S47} (h : okL l) : ∀ y, y ∈ l → ∀ x, x ∈ y.f1 → x < 6 := fun y hy x hx => by
  obtain ⟨j, hj, rfl⟩ := rd_mem hy
  obtain ⟨i, hi, rfl⟩ := List.getElem_of_mem hx
  have := (h.2 j hj).1.2 i hi
  unfold rd at this
  rw [List.getD_eq_getElem?_getD, Int.toNat_natCast, List.getElem?_eq_getElem hi] at this
  exact this
theorem reach_l2 (a0 a1 : Int) (l : List S47) (i : Int) (y : S47) (hy : okR6 y) (hyl : y.f1.length ≤ 4) (X : List Int) (d : Nat) : ∀ (j : Nat) (s : List Bool) (ag : Bool), s.length = 6 → j ≤ y.f1.length → y.f1.length - j = d →
    Ev (fun k => spec_l3Reached.l1 k (placesF 0 (ruleX y.f0 (y.f1.drop j) (s, ag)).1) (ruleX y.f0 (y.f1.drop j) (s, ag)).2 l l.length (wrap64 (i + 1)) a0 a1 l) X →
    Ev (fun k => spec_l3Reached.l2 k (placesF 0 s) ag l l.length i y.f1 y.f1.length j a0 a1 l y.f0 y.f1) X := by
  induction d with
  | zero =>
    intro j s ag hs h1 hd h0
    rw [List.drop_of_length_le (by omega)] at h0
    obtain ⟨K, h⟩ := h0
    dsimp only at h
    refine ⟨K + 1, fun k hk => ?_⟩
    dsimp only
    obtain ⟨k, rfl⟩ : ∃ m, k = m + 1 := ⟨k - 1, by omega⟩
    simp only [spec_l3Reached.l2]
    rw [if_neg (by omega)]
    exact h k (by omega)
  | succ d ih =>
    intro j s ag hs h1 hd h0
    have hj : j < y.f1.length := by omega
    have hx6 := hy.2 j hj
    have hdj : y.f1.drop j = rd y.f1 j :: y.f1.drop (j + 1) := getD_drop y.f1 j 0 hj
    have ew : wrap64 ((j : Int) + 1) = ((j + 1 : Nat) : Int) := by unfold wrap64; omega
    rw [hdj] at h0
    have hstep : ruleX y.f0 (rd y.f1 j :: y.f1.drop (j + 1)) (s, ag) = ruleX y.f0 (y.f1.drop (j + 1)) (stepX y.f0 (rd y.f1 j) (s, ag)) := rfl
    rw [hstep] at h0
    have hlen := stepX_len y.f0 (rd y.f1 j) (s, ag) hs
    obtain ⟨K, h⟩ := ih (j + 1) _ _ hlen (by omega) (by omega) (show Ev (fun k => spec_l3Reached.l1 k (placesF 0 (ruleX y.f0 (y.f1.drop (j + 1)) ((stepX y.f0 (rd y.f1 j) (s, ag)).1, (stepX y.f0 (rd y.f1 j) (s, ag)).2)).1) (ruleX y.f0 (y.f1.drop (j + 1)) ((stepX y.f0 (rd y.f1 j) (s, ag)).1, (stepX y.f0 (rd y.f1 j) (s, ag)).2)).2 l l.length (wrap64 (i + 1)) a0 a1 l) X from h0)
    dsimp only at h
    refine ⟨K + 11, fun k hk => ?_⟩
    dsimp only
    obtain ⟨k, rfl⟩ : ∃ m, k = m + 1 := ⟨k - 1, by omega⟩
    have hk2 := h k (by omega)
    simp only [spec_l3Reached.l2]
    rw [if_pos (by omega), if_pos (by omega), if_pos (by omega), ew]
    by_cases h0 : rd y.f1 j ≥ 0
    · rw [if_pos h0, has6 s hs y.f0 hy.1.1 hy.1.2 k (by omega)]
      simp only [Option.bind_some]
      cases hv : s.getD y.f0.toNat false with
      | true =>
        rw [if_pos rfl, has6 s hs (rd y.f1 j) h0 hx6 k (by omega)]
        simp only [Option.bind_some]
        cases hu : s.getD (rd y.f1 j).toNat false with
        | true =>
          have e : stepX y.f0 (rd y.f1 j) (s, ag) = (s, ag) := by unfold stepX; exact if_neg (by rw [show (s, ag).1 = s from rfl, hv, hu, decide_eq_true (show 0 ≤ rd y.f1 j from h0)]; decide)
          rw [e] at hk2
          rw [if_pos rfl]
          exact hk2
        | false =>
          have e : stepX y.f0 (rd y.f1 j) (s, ag) = (s.set (rd y.f1 j).toNat true, true) := by unfold stepX; exact if_pos (by rw [show (s, ag).1 = s from rfl, hv, hu, decide_eq_true (show 0 ≤ rd y.f1 j from h0)]; rfl)
          rw [e] at hk2
          rw [if_neg (by decide), put6 s hs (rd y.f1 j) h0 hx6 k (by omega)]
          exact hk2
      | false =>
        have e : stepX y.f0 (rd y.f1 j) (s, ag) = (s, ag) := by unfold stepX; exact if_neg (by rw [show (s, ag).1 = s from rfl, hv, Bool.false_and]; decide)
        rw [e] at hk2
        rw [if_neg (by decide)]
        exact hk2
    · have e : stepX y.f0 (rd y.f1 j) (s, ag) = (s, ag) := by unfold stepX; exact if_neg (by rw [decide_eq_false (show ¬ 0 ≤ rd y.f1 j from h0), Bool.false_and, Bool.and_false]; decide)
      rw [e] at hk2
      rw [if_neg h0]
      exact hk2
theorem reach_l1 (a0 a1 : Int) (l : List S47) (hl : okL l) (X : List Int) (d : Nat) : ∀ (i : Nat) (s : List Bool) (ag : Bool), s.length = 6 → i ≤ l.length → l.length - i = d →
    Ev (fun k => spec_l3Reached.l0 k (placesF 0 (passX (l.drop i) (s, ag)).1) (passX (l.drop i) (s, ag)).2 a0 a1 l) X →
    Ev (fun k => spec_l3Reached.l1 k (placesF 0 s) ag l l.length i a0 a1 l) X := by
  have hb := hl.1
  induction d with
  | zero =>
    intro i s ag hs h1 hd h0
    rw [List.drop_of_length_le (by omega)] at h0
    obtain ⟨K, h⟩ := h0
    dsimp only at h
    refine ⟨K + 1, fun k hk => ?_⟩
    dsimp only
    obtain ⟨k, rfl⟩ : ∃ m, k = m + 1 := ⟨k - 1, by omega⟩
    simp only [spec_l3Reached.l1]
    rw [if_neg (by omega)]
    exact h k (by omega)
  | succ d ih =>
    intro i s ag hs h1 hd h0
    have hi : i < l.length := by omega
    obtain ⟨hy, hyl⟩ := hl.2 i hi
    have hdi : l.drop i = rd_T47 l i :: l.drop (i + 1) := getD_drop l i z47 hi
    rw [hdi] at h0
    have ew : wrap64 ((i : Int) + 1) = ((i + 1 : Nat) : Int) := by unfold wrap64; omega
    have hstep : ∀ q, passX (rd_T47 l i :: l.drop (i + 1)) q = passX (l.drop (i + 1)) (ruleX (rd_T47 l i).f0 (rd_T47 l i).f1 q) := fun _ => rfl
    rw [hstep] at h0
    have hlen := ruleX_len (rd_T47 l i).f0 (rd_T47 l i).f1 (s, ag) hs
    obtain ⟨K, h⟩ := reach_l2 a0 a1 l i (rd_T47 l i) hy hyl X (rd_T47 l i).f1.length 0 s ag hs (by omega) (by omega) (by
      rw [List.drop_zero, ew]
      exact ih (i + 1) _ _ hlen (by omega) (by omega) h0)
    dsimp only at h
    refine ⟨K + 1, fun k hk => ?_⟩
    dsimp only
    obtain ⟨k, rfl⟩ : ∃ m, k = m + 1 := ⟨k - 1, by omega⟩
    simp only [spec_l3Reached.l1]
    rw [if_pos (by omega), if_pos (by omega), if_pos (by omega)]
    exact h k (by omega)
theorem reach_l0 (a0 a1 : Int) (l : List S47) (hl : okL l) (n : Nat) : ∀ s : List Bool, s.length = 6 → cntF s < n →
    Ev (fun k => spec_l3Reached.l0 k (placesF 0 s) true a0 a1 l) (placesF 0 (reachN l n s)) := by
  induction n with
  | zero => intro s _ h; omega
  | succ n ih =>
    intro s hs hc
    obtain ⟨h1, h2, h3⟩ := passX_cnt l (okL_sym hl) (s, false) hs
    have key : Ev (fun k => spec_l3Reached.l0 k (placesF 0 (passX l (s, false)).1) (passX l (s, false)).2 a0 a1 l) (placesF 0 (reachN l (n + 1) s)) := by
      have e : reachN l (n + 1) s = if (passX l (s, false)).2 = true then reachN l n (passX l (s, false)).1 else (passX l (s, false)).1 := rfl
      rw [e]
      cases hq : (passX l (s, false)).2 with
      | true =>
        rw [if_pos rfl]
        refine ih _ h1 ?_
        rcases h3 hq with h4 | h4
        · cases h4
        · have h5 : cntF (passX l (s, false)).1 < cntF s := h4
          omega
      | false =>
        rw [if_neg (by decide)]
        refine ⟨1, fun k hk => ?_⟩
        dsimp only
        obtain ⟨k, rfl⟩ : ∃ m, k = m + 1 := ⟨k - 1, by omega⟩
        simp only [spec_l3Reached.l0]
        rw [if_neg (by decide)]
    obtain ⟨K, h⟩ := reach_l1 a0 a1 l hl _ l.length 0 s false hs (by omega) (by omega) (by rw [List.drop_zero]; exact key)
    dsimp only at h
    refine ⟨K + 1, fun k hk => ?_⟩
    dsimp only
    obtain ⟨k, rfl⟩ : ∃ m, k = m + 1 := ⟨k - 1, by omega⟩
    simp only [spec_l3Reached.l0]
    rw [if_pos trivial]
    exact h k (by omega)
theorem l3Reached_ev (a0 a1 : Int) (l : List S47) (hl : okL l) : Ev (fun k => spec_l3Reached.f k a0 a1 l) (placesF 0 (reachF l)) :=
  reach_l0 a0 a1 l hl 7 [true, false, false, false, false, false] rfl (by decide)
theorem passX_len (l : List S47) : ∀ q : List Bool × Bool, q.1.length = 6 → (passX l q).1.length = 6 := by
  induction l with
  | nil => exact fun q h => h
  | cons y l ih => exact fun q h => ih _ (ruleX_len _ _ q h)
theorem reachN_len (l : List S47) (n : Nat) : ∀ s : List Bool, s.length = 6 → (reachN l n s).length = 6 := by
  induction n with
  | zero => intro s h; exact h
  | succ n ih =>
    intro s h
    unfold reachN
    split
    · exact ih _ (passX_len l (s, false) h)
    · exact passX_len l (s, false) h
theorem reachF_len (l : List S47) : (reachF l).length = 6 := reachN_len l 7 _ rfl
end Go.Proofs.Ytohbdjdjjbieeaa.P

/-! F16 -/
namespace Go.Proofs.Ytohbdjdjjbieeaa.P
open Go.RowKit Go.Proofs.YtohbdjdjjbieeaaW.PrintWords Go.Proofs.YtohbdjdjjbieeaaW.PrintLast Go.Proofs.YtohbdjdjjbieeaaW.PrintMore
attribute [local go_sem] max2_int min2_int max_two min_two max_three min_three max_four min_four   -- for this text's walks alone
set_option linter.unusedVariables false
set_option linter.unusedSimpArgs false

/-! ### spec_ReachedOf: function 16 -/
def spec_ReachedOf.f (k : Nat) (a0_0 : Int) (a0_1 : Int) (l0_2 : List (S47)) : Option (List Int × Bool) := (spec_GoodGrammar.f k a0_0 a0_1 l0_2).bind fun t102 => (if t102 = true then ((spec_l3Reached.f k a0_0 a0_1 l0_2).bind fun t103 => (some (t103, true))) else (some (([] : List Int), false)))
theorem spec_ReachedOf.mono : ∀ a0 a1 a2 k, LeO (spec_ReachedOf.f k a0 a1 a2) (spec_ReachedOf.f (k + 1) a0 a1 a2) := by
  intro a0 a1 a2 k
  unfold spec_ReachedOf.f
  repeat' first
      | (with_reducible exact spec_GoodGrammar.mono _ _ _ _)
      | (with_reducible exact spec_l3Reached.mono _ _ _ _)
      | (with_reducible exact LeO.refl _)
      | (with_reducible exact LeO.none _)
      | (with_reducible refine LeO.ite ?_ ?_)
      | (with_reducible refine LeO.bind ?_ (fun _ => ?_))
      | exact spec_GoodGrammar.mono _ _ _ _
      | exact spec_l3Reached.mono _ _ _ _
      | exact LeO.none _
      | refine LeO.ite ?_ ?_
      | refine LeO.bind ?_ (fun _ => ?_)
set_option maxHeartbeats 8000000 in
set_option maxRecDepth 100000 in
theorem spec_ReachedOf.calls (k : Nat) (a0_0 : Int) (a0_1 : Int) (A0_2 : Option Addr) (c0_2 : Nat) (l0_2 : List (S47)) (r1 : List Int) (r2 : Bool) (w : World) (hr0_2 : Kd.C k47 w A0_2 l0_2.length l0_2) (hc0_2 : l0_2.length ≤ c0_2) (h : spec_ReachedOf.f k a0_0 a0_1 l0_2 = some (r1, r2)) :
    Calls Try.prog 16 #[.agg #[.int .i64 a0_0, .int .i64 a0_1, .slice A0_2 l0_2.length c0_2]] w fun e w' => ∃ v0_ : Value, e = .returned (.tuple #[v0_, .bool r2]) ∧ Kd.R (Kd.int .i64) 3 w' w.heap.size (fun _ => True) v0_ r1 ∧ Below w.heap.size w w' := by
  have hu30 := Try.underlying30
  have HR0_2 := Aside0.mk hr0_2
  have HC0_2 := Aside0.mk hc0_2
  clear hr0_2 hc0_2
  have HB := Aside0.mk (Below.refl w.heap.size w)
  have H : ((spec_GoodGrammar.f k a0_0 a0_1 l0_2).bind fun t102 => (if t102 = true then ((spec_l3Reached.f k a0_0 a0_1 l0_2).bind fun t103 => (some (t103, true))) else (some (([] : List Int), false)))) = some (r1, r2) := h
  clear h
  replace H := Option.bind_eq_some_iff.mp H
  obtain ⟨t102, A20, H⟩ := H
  replace H : (if t102 = true then ((spec_l3Reached.f k a0_0 a0_1 l0_2).bind fun t103 => (some (t103, true))) else (some (([] : List Int), false))) = some (r1, r2) := H
  have A2 := Aside0.mk A20
  clear A20
  by_cases c3 : t102 = true
  · subst c3
    have H1 : ((spec_l3Reached.f k a0_0 a0_1 l0_2).bind fun t103 => (some (t103, true))) = some (r1, r2) := by rw [if_pos rfl] at H; exact H
    clear H
    have H := H1
    clear H1
    replace H := Option.bind_eq_some_iff.mp H
    obtain ⟨t103, A40, H⟩ := H
    replace H : (some (t103, true)) = some (r1, r2) := H
    have A4 := Aside0.mk A40
    clear A40
    simp only [Option.some.injEq, Prod.mk.injEq] at H
    obtain ⟨rfl, rfl⟩ := H
    go_enter Try.func16, Try.ntmps16
    go_wp2_with (first | ((with_reducible refine gate_dst (N := 1) rfl ?_); refine box_event ?hg (N := 1) ?hd (cs := #[.int .i64 a0_0, .int .i64 a0_1, .slice A0_2 l0_2.length c0_2]) (t := 30) ?hr ?_; (case hd => rfl); (case hg => rfl); (case hr => first | (go_simp; done) | (go_simp; rfl)); intro gb101 hg w5 hbox hb; have n0_ := Aside0.mk (below_step (by repeat (first | (with_reducible first | exact HB.out | apply below_alloc | apply pw_below_drewN | apply below_drew1) | exact HB.out)) hb); have n1_ := Aside0.mk (hbox); have n2_ := Aside0.mk ((by rw [hg]; exact (below_size (by repeat (first | (with_reducible first | exact HB.out | apply below_alloc | apply pw_below_drewN | apply below_drew1) | exact HB.out))) : w.heap.size ≤ gb101)); have n3_ := Aside0.mk ((by rw [hg]; exact (below_size (by repeat (first | (with_reducible first | exact HB.out | apply below_alloc | apply pw_below_drewN | apply below_drew1) | exact HB.out))) : w.heap.size ≤ gb101)); clear HB; have HB := n0_; have BK101 := n1_; have GW101 := n2_; have GE101 := n3_; clear n0_ n1_ n2_ n3_; clear hb hbox hg; have hcz6_0 : w5.cell? ⟨gb101, 0, none⟩ = some (.int .i64 a0_0) := (blk_cell BK101.out 0).trans rfl; have hcz6_1 : w5.cell? ⟨gb101, 1, none⟩ = some (.int .i64 a0_1) := (blk_cell BK101.out 1).trans rfl; have hcz6_2 : w5.cell? ⟨gb101, 2, none⟩ = some (.slice A0_2 l0_2.length c0_2) := (blk_cell BK101.out 2).trans rfl; have hfz6_0 := blk_frozen BK101.out 0; have hfz6_1 := blk_frozen BK101.out 1; have hfz6_2 := blk_frozen BK101.out 2) | ((with_reducible refine gate_callee (f := 36) rfl ?_); refine goesL_ (some 5) rfl rfl Try.func36 (by kernel_rfl) rfl #[.agg #[.int .i64 a0_0, .int .i64 a0_1, .slice A0_2 l0_2.length c0_2]] rfl (by (try simp only [List.map_toArray, List.map_cons, List.map_nil]); first | done | rfl | (simp only [List.length_drop, List.length_take]; rfl)) ?_; (with_reducible refine (spec_GoodGrammar.calls k a0_0 a0_1 _ _ l0_2 true _ ?side1 ?side2 A2.out).mono ?_); (case side1 => repeat (first | exact (Kd.C_below HR0_2.out HB.out) | (with_reducible refine Kd.C_alloc ?_ _) | (with_reducible refine Kd.C_drewN ?_ _) | (with_reducible refine Kd.C_drew ?_))); (case side2 => exact HC0_2.out); rintro e w7 ⟨rfl, hb⟩; refine ⟨_, rfl, ?_⟩; have n0_ := Aside0.mk (blk_below (g := gb101) (o := .cells #[.int .i64 a0_0, .int .i64 a0_1, .slice A0_2 l0_2.length c0_2] 30 (0, 0)) (by (with_reducible repeat (first | refine blk_drewN ?_ _ | refine blk_drew ?_ | refine blk_alloc ?_ _)); exact BK101.out) hb); have n1_ := Aside0.mk (below_step (by repeat (first | (with_reducible first | exact HB.out | apply below_alloc | apply pw_below_drewN | apply below_drew1 | refine below_set ?_ GE101.out) | exact HB.out)) hb); clear BK101; clear HB; have BK101 := n0_; have HB := n1_; clear n0_ n1_; (try clear hb); (try clear hb2); (try clear hk); (try clear hi); have hcz8_0 : w7.cell? ⟨gb101, 0, none⟩ = some (.int .i64 a0_0) := (blk_cell BK101.out 0).trans rfl; have hcz8_1 : w7.cell? ⟨gb101, 1, none⟩ = some (.int .i64 a0_1) := (blk_cell BK101.out 1).trans rfl; have hcz8_2 : w7.cell? ⟨gb101, 2, none⟩ = some (.slice A0_2 l0_2.length c0_2) := (blk_cell BK101.out 2).trans rfl; have hfz8_0 := blk_frozen BK101.out 0; have hfz8_1 := blk_frozen BK101.out 1; have hfz8_2 := blk_frozen BK101.out 2) | ((with_reducible refine gate_callee (f := 41) rfl ?_); refine goesL_ (some 8) rfl rfl Try.func41 (by kernel_rfl) rfl #[.agg #[.int .i64 a0_0, .int .i64 a0_1, .slice A0_2 l0_2.length c0_2]] rfl (by (try simp only [List.map_toArray, List.map_cons, List.map_nil]); first | done | rfl | (simp only [List.length_drop, List.length_take]; rfl)) ?_; (with_reducible refine (spec_l3Reached.calls k a0_0 a0_1 _ _ l0_2 t103 _ ?side1 ?side2 A4.out).mono ?_); (case side1 => repeat (first | exact (Kd.C_below HR0_2.out HB.out) | (with_reducible refine Kd.C_alloc ?_ _) | (with_reducible refine Kd.C_drewN ?_ _) | (with_reducible refine Kd.C_drew ?_))); (case side2 => exact HC0_2.out); rintro e w9 ⟨v104, rfl, ho0, hb⟩; refine ⟨_, rfl, ?_⟩; have n0_ := Aside0.mk (Kd.R_lower ho0 (below_size (by repeat (first | (with_reducible first | exact HB.out | apply below_alloc | apply pw_below_drewN | apply below_drew1 | refine below_set ?_ GE101.out) | exact HB.out)))); have n1_ := Aside0.mk (blk_below (g := gb101) (o := .cells #[.int .i64 a0_0, .int .i64 a0_1, .slice A0_2 l0_2.length c0_2] 30 (0, 0)) (by (with_reducible repeat (first | refine blk_drewN ?_ _ | refine blk_drew ?_ | refine blk_alloc ?_ _)); exact BK101.out) hb); have n2_ := Aside0.mk (below_step (by repeat (first | (with_reducible first | exact HB.out | apply below_alloc | apply pw_below_drewN | apply below_drew1 | refine below_set ?_ GE101.out) | exact HB.out)) hb); clear BK101; clear HB; have HO105 := n0_; have BK101 := n1_; have HB := n2_; clear n0_ n1_ n2_; (try clear hb); (try clear hb2); (try clear hk); (try clear hi); (try clear ho0)))
    go_ret2
    exact ⟨_, by first | rfl | (simp [errW_none, errW_some] <;> rfl) | (simp [*, errW_none, errW_some] <;> rfl), by (with_reducible repeat (first | apply Kd.R_alloc | apply Kd.R_drewN | apply Kd.R_drew)); exact HO105.out, by repeat (first | (with_reducible first | exact HB.out | apply below_alloc | apply pw_below_drewN | apply below_drew1 | refine below_set ?_ GE101.out) | exact HB.out)⟩
  · replace c3 := Bool.eq_false_iff.mpr c3
    subst c3
    have H1 : (some (([] : List Int), false)) = some (r1, r2) := by rw [if_neg (show ¬ (false = true) by decide)] at H; exact H
    clear H
    have H := H1
    clear H1
    simp only [Option.some.injEq, Prod.mk.injEq] at H
    obtain ⟨rfl, rfl⟩ := H
    go_enter Try.func16, Try.ntmps16
    go_wp2_with (first | ((with_reducible refine gate_dst (N := 1) rfl ?_); refine box_event ?hg (N := 1) ?hd (cs := #[.int .i64 a0_0, .int .i64 a0_1, .slice A0_2 l0_2.length c0_2]) (t := 30) ?hr ?_; (case hd => rfl); (case hg => rfl); (case hr => first | (go_simp; done) | (go_simp; rfl)); intro gb101 hg w10 hbox hb; have n0_ := Aside0.mk (below_step (by repeat (first | (with_reducible first | exact HB.out | apply below_alloc | apply pw_below_drewN | apply below_drew1) | exact HB.out)) hb); have n1_ := Aside0.mk (hbox); have n2_ := Aside0.mk ((by rw [hg]; exact (below_size (by repeat (first | (with_reducible first | exact HB.out | apply below_alloc | apply pw_below_drewN | apply below_drew1) | exact HB.out))) : w.heap.size ≤ gb101)); have n3_ := Aside0.mk ((by rw [hg]; exact (below_size (by repeat (first | (with_reducible first | exact HB.out | apply below_alloc | apply pw_below_drewN | apply below_drew1) | exact HB.out))) : w.heap.size ≤ gb101)); clear HB; have HB := n0_; have BK101 := n1_; have GW101 := n2_; have GE101 := n3_; clear n0_ n1_ n2_ n3_; clear hb hbox hg; have hcz11_0 : w10.cell? ⟨gb101, 0, none⟩ = some (.int .i64 a0_0) := (blk_cell BK101.out 0).trans rfl; have hcz11_1 : w10.cell? ⟨gb101, 1, none⟩ = some (.int .i64 a0_1) := (blk_cell BK101.out 1).trans rfl; have hcz11_2 : w10.cell? ⟨gb101, 2, none⟩ = some (.slice A0_2 l0_2.length c0_2) := (blk_cell BK101.out 2).trans rfl; have hfz11_0 := blk_frozen BK101.out 0; have hfz11_1 := blk_frozen BK101.out 1; have hfz11_2 := blk_frozen BK101.out 2) | ((with_reducible refine gate_callee (f := 36) rfl ?_); refine goesL_ (some 5) rfl rfl Try.func36 (by kernel_rfl) rfl #[.agg #[.int .i64 a0_0, .int .i64 a0_1, .slice A0_2 l0_2.length c0_2]] rfl (by (try simp only [List.map_toArray, List.map_cons, List.map_nil]); first | done | rfl | (simp only [List.length_drop, List.length_take]; rfl)) ?_; (with_reducible refine (spec_GoodGrammar.calls k a0_0 a0_1 _ _ l0_2 false _ ?side1 ?side2 A2.out).mono ?_); (case side1 => repeat (first | exact (Kd.C_below HR0_2.out HB.out) | (with_reducible refine Kd.C_alloc ?_ _) | (with_reducible refine Kd.C_drewN ?_ _) | (with_reducible refine Kd.C_drew ?_))); (case side2 => exact HC0_2.out); rintro e w12 ⟨rfl, hb⟩; refine ⟨_, rfl, ?_⟩; have n0_ := Aside0.mk (blk_below (g := gb101) (o := .cells #[.int .i64 a0_0, .int .i64 a0_1, .slice A0_2 l0_2.length c0_2] 30 (0, 0)) (by (with_reducible repeat (first | refine blk_drewN ?_ _ | refine blk_drew ?_ | refine blk_alloc ?_ _)); exact BK101.out) hb); have n1_ := Aside0.mk (below_step (by repeat (first | (with_reducible first | exact HB.out | apply below_alloc | apply pw_below_drewN | apply below_drew1 | refine below_set ?_ GE101.out) | exact HB.out)) hb); clear BK101; clear HB; have BK101 := n0_; have HB := n1_; clear n0_ n1_; (try clear hb); (try clear hb2); (try clear hk); (try clear hi)))
    go_ret2
    exact ⟨_, by first | rfl | (simp [errW_none, errW_some] <;> rfl) | (simp [*, errW_none, errW_some] <;> rfl), by first | exact Kd.R_nil _ _ _ _ _ | exact Kd.N_nil _ _ _ _ _ | exact Kd.V_nil _ _ _ _ _ | exact Kd.Q_nil _ _ _ _ _ | exact Kd.S_nil _ _ _ _ _, by repeat (first | (with_reducible first | exact HB.out | apply below_alloc | apply pw_below_drewN | apply below_drew1 | refine below_set ?_ GE101.out) | exact HB.out)⟩

end Go.Proofs.Ytohbdjdjjbieeaa.P

/-! Z0FnExactReachedOf -/
/- Plain lists: ReachedOf of the reference and of the program answer the same. -/
namespace Go.Proofs.Ytohbdjdjjbieeaa.P
open Go.RowKit Go.Proofs.YtohbdjdjjbieeaaW.PrintWords
set_option linter.unusedVariables false
set_option linter.unusedSimpArgs false
theorem pure_ReachedOf (a0 a1 : Int) (l : List S47) (hs : smallI l) : ∃ (r0 : List Int) (r1 : Bool), r0.length ≤ 6 ∧ Ev (fun k => spec_ReachedOf.f k a0 a1 l) (r0, r1) ∧ impl_ReachedOf.f a0 a1 l = some (r0, r1) := by
  obtain ⟨K, h⟩ := spec_GoodGrammar_ev a0 a1 l hs
  dsimp only at h
  cases hg : goodG a0 a1 l with
  | true =>
    obtain ⟨K2, h2⟩ := l3Reached_ev a0 a1 l (goodG_okL hg)
    dsimp only at h2
    refine ⟨placesF 0 (reachF l), true, by have := placesF_len (reachF l) 0; rw [reachF_len] at this; exact this, ⟨K + K2, fun k hk => ?_⟩, by unfold impl_ReachedOf.f; rw [hg]; rfl⟩
    dsimp only
    unfold spec_ReachedOf.f
    rw [h k (by omega), hg]; simp only [Option.bind_some]
    rw [if_pos trivial, h2 k (by omega)]; rfl
  | false =>
    refine ⟨[], false, by simp, ⟨K, fun k hk => ?_⟩, by unfold impl_ReachedOf.f; rw [hg]; rfl⟩
    dsimp only
    unfold spec_ReachedOf.f
    rw [h k hk, hg]; rfl
end Go.Proofs.Ytohbdjdjjbieeaa.P

/-! ZFnExactReachedOf -/
/- The law of ReachedOf answers true, whatever came in. Written by wip/tools/lawgen.py of this session. -/
namespace Go.Proofs.Ytohbdjdjjbieeaa.P
open Go.RowKit Go.Proofs.YtohbdjdjjbieeaaW.PrintWords Go.Proofs.YtohbdjdjjbieeaaW.PrintLast Go.Proofs.YtohbdjdjjbieeaaW.PrintMore
set_option linter.unusedVariables false
set_option linter.unusedSimpArgs false
set_option maxHeartbeats 16000000 in
set_option maxRecDepth 100000 in
theorem holds_FnExactReachedOf (w : World) (a0_0 : Int) (a0_1 : Int) (A0_2 : Option Addr) (c0_2 : Nat) (l0_2 : List S62) (hr0_2 : Kd.C k62 w A0_2 l0_2.length l0_2) (hc0_2 : l0_2.length ≤ c0_2) :
    Calls Try.prog 4 #[.agg #[.int .i64 a0_0, .int .i64 a0_1, .slice A0_2 l0_2.length c0_2]] w fun e w' => e = .returned (.bool true) ∧ Below w.heap.size w w' := by
  have hu0 := Try.underlying24
  have hu1 := Try.underlying30
  have HB := Aside0.mk (Below.refl w.heap.size w)
  obtain ⟨hq0, hw0⟩ := reads_small hr0_2
  obtain ⟨t0, hze0, htl0, hsm0⟩ := szGrammar_fr a0_0 a0_1 l0_2 hq0 hw0 1048576 (by omega) (by omega)
  obtain ⟨kz0, hz0⟩ := hze0.rounds
  try dsimp only at hz0
  by_cases hT0 : t0 < 0
  · have dt_ : decide (t0 < 0) = true := decide_eq_true hT0
    clear hT0
    go_enter Try.func4, Try.ntmps4
    go_wp2_with fail
    refine (laws_szGrammar.calls kz0 a0_0 a0_1 A0_2 c0_2 l0_2 1048576 t0 _ (Kd.C_below hr0_2 (by repeat (first | (with_reducible first | exact HB.out | apply below_alloc | apply pw_below_drewN | apply below_drew1) | exact HB.out))) hc0_2 hz0).mono ?_
    rintro e w0_ ⟨rfl, hb⟩
    have nB := Aside0.mk (below_step (by repeat (first | (with_reducible first | exact HB.out | apply below_alloc | apply pw_below_drewN | apply below_drew1) | exact HB.out)) hb)
    have BA0_ := Aside0.mk (blk_below (o := .cells #[.int .i64 a0_0, .int .i64 a0_1, .slice A0_2 l0_2.length c0_2] 24 (0, 0)) (heap_alloc_new w _) hb)
    clear HB hb
    have HB := nB
    clear nB
    go_wp2
    go_ret
    exact ⟨rfl, by repeat (first | (with_reducible first | exact HB.out | apply below_alloc | apply pw_below_drewN | apply below_drew1) | exact HB.out)⟩
  have dt0 : decide (t0 < 0) = false := decide_eq_false hT0
  have hs0 := hsm0 (by omega)
  obtain ⟨kt0, ht0⟩ := (toGrammar_ev a0_0 a0_1 l0_2 hs0).rounds
  obtain ⟨r0, r1, hr0, es, hki⟩ := pure_ReachedOf a0_0 a0_1 (convs l0_2) (smallI_convs hs0)
  obtain ⟨ks, hks⟩ := es.rounds
  obtain ⟨ke0, hke0⟩ := (eqIntS_ev r0 (by omega)).rounds
  obtain ⟨kx0, hkx0⟩ := (eqGrammar_ev a0_0 a0_1 (convs l0_2) (smallI_convs hs0)).rounds
  have bx0 := szR_bound (smallI_convs hs0)
  have br0 : (r0.length : Int) ≤ 1048576 := by omega
  try dsimp only at ht0 hks hke0 hkx0
  clear es
  clear hT0 hq0 hw0 hze0 hsm0 htl0
  have KEEP0 := Aside0.mk hs0
  clear hs0
  go_enter Try.func4, Try.ntmps4
  go_wp2_with fail
  refine (laws_szGrammar.calls kz0 a0_0 a0_1 A0_2 c0_2 l0_2 1048576 t0 _ (Kd.C_below hr0_2 (by repeat (first | (with_reducible first | exact HB.out | apply below_alloc | apply pw_below_drewN | apply below_drew1) | exact HB.out))) hc0_2 hz0).mono ?_
  rintro e w1 ⟨rfl, hb⟩
  have HSZ := Aside0.mk (show w.heap.size + 1 ≤ w1.heap.size by have h_ := hb.size; (try simp at h_); omega)
  have nB := Aside0.mk (below_step (by repeat (first | (with_reducible first | exact HB.out | apply below_alloc | apply pw_below_drewN | apply below_drew1) | exact HB.out)) hb)
  have nBA0 := Aside0.mk (blk_below (o := .cells #[.int .i64 a0_0, .int .i64 a0_1, .slice A0_2 l0_2.length c0_2] 24 (0, 0)) (heap_alloc_new w _) hb)
  clear HB 
  have HB := nB
  have BA0 := nBA0
  clear nB nBA0
  have Z1 := HSZ
  clear HSZ
  have cBA0_0 : w1.cell? ⟨w.heap.size, 0, none⟩ = some (.int .i64 a0_0) := (blk_cell BA0.out 0).trans rfl
  have cBA0_1 : w1.cell? ⟨w.heap.size, 1, none⟩ = some (.int .i64 a0_1) := (blk_cell BA0.out 1).trans rfl
  have cBA0_2 : w1.cell? ⟨w.heap.size, 2, none⟩ = some (.slice A0_2 l0_2.length c0_2) := (blk_cell BA0.out 2).trans rfl
  go_wp2_with fail
  clear cBA0_0 cBA0_1 cBA0_2
  refine (laws_toGrammar.calls kt0 a0_0 a0_1 A0_2 c0_2 l0_2 a0_0 a0_1 (convs l0_2) _ (Kd.C_below hr0_2 (by repeat (first | (with_reducible first | exact HB.out | apply below_alloc | apply pw_below_drewN | apply below_drew1) | exact HB.out))) hc0_2 ht0).mono ?_
  rintro e w2 ⟨v0, rfl, ho0, hb⟩
  obtain ⟨A102_0, c102_0, ev_⟩ := Kd.S_slice ho0
  subst ev_
  have NO2_0 := Aside0.mk (Kd.S_mono (ok' := fun q_ => w1.heap.size + 0 ≤ q_ ∧ q_ < w2.heap.size) (Kd.S_lower (Kd.S_bound ho0) (below_size (by repeat (first | (with_reducible first | exact HB.out | apply below_alloc | apply pw_below_drewN | apply below_drew1) | exact HB.out)))) (fun q_ h_ => ⟨by have h2_ := h_.2.1; (try simp at h2_); omega, h_.2.2.1⟩))
  clear ho0
  have HSZ := Aside0.mk (show w1.heap.size + 0 ≤ w2.heap.size by have h_ := hb.size; (try simp at h_); omega)
  have nB := Aside0.mk (below_step (by repeat (first | (with_reducible first | exact HB.out | apply below_alloc | apply pw_below_drewN | apply below_drew1) | exact HB.out)) hb)
  have nBA0 := Aside0.mk (blk_below (g := w.heap.size) (o := .cells #[.int .i64 a0_0, .int .i64 a0_1, .slice A0_2 l0_2.length c0_2] 24 (0, 0)) (by (with_reducible repeat (first | refine blk_drewN ?_ _ | refine blk_drew ?_ | refine blk_alloc ?_ _)); exact BA0.out) hb)
  clear HB BA0
  have HB := nB
  have BA0 := nBA0
  clear nB nBA0
  have Z2 := HSZ
  clear HSZ
  have cBA0_0 : w2.cell? ⟨w.heap.size, 0, none⟩ = some (.int .i64 a0_0) := (blk_cell BA0.out 0).trans rfl
  have cBA0_1 : w2.cell? ⟨w.heap.size, 1, none⟩ = some (.int .i64 a0_1) := (blk_cell BA0.out 1).trans rfl
  have cBA0_2 : w2.cell? ⟨w.heap.size, 2, none⟩ = some (.slice A0_2 l0_2.length c0_2) := (blk_cell BA0.out 2).trans rfl
  have O2_0 := NO2_0
  clear NO2_0
  go_wp2_with fail
  clear cBA0_0 cBA0_1 cBA0_2
  refine (spec_ReachedOf.calls ks a0_0 a0_1 _ _ (convs l0_2) r0 r1 _ (Kd.S_reads' (by (with_reducible repeat (first | apply Kd.S_alloc | apply Kd.S_drewN | apply Kd.S_drew)); exact O2_0.out)).2.2 (Kd.S_reads' O2_0.out).2.1 hks).mono ?_
  rintro e w3 ⟨v0, rfl, ho0, hb⟩
  obtain ⟨A103_0, c103_0, ev_⟩ := Kd.R_slice ho0
  subst ev_
  have NO3_0 := Aside0.mk (Kd.R_mono (ok' := fun q_ => w2.heap.size + 0 ≤ q_ ∧ q_ < w3.heap.size) (Kd.R_lower (Kd.R_bound ho0) (below_size (by repeat (first | (with_reducible first | exact HB.out | apply below_alloc | apply pw_below_drewN | apply below_drew1) | exact HB.out)))) (fun q_ h_ => ⟨by have h2_ := h_.2.1; (try simp at h2_); omega, h_.2.2.1⟩))
  clear ho0
  have HSZ := Aside0.mk (show w2.heap.size + 0 ≤ w3.heap.size by have h_ := hb.size; (try simp at h_); omega)
  have nB := Aside0.mk (below_step (by repeat (first | (with_reducible first | exact HB.out | apply below_alloc | apply pw_below_drewN | apply below_drew1) | exact HB.out)) hb)
  have nO2_0 := Aside0.mk (Kd.S_below (by (with_reducible repeat (first | apply Kd.S_alloc | apply Kd.S_drewN | apply Kd.S_drew)); exact O2_0.out) hb)
  have nBA0 := Aside0.mk (blk_below (g := w.heap.size) (o := .cells #[.int .i64 a0_0, .int .i64 a0_1, .slice A0_2 l0_2.length c0_2] 24 (0, 0)) (by (with_reducible repeat (first | refine blk_drewN ?_ _ | refine blk_drew ?_ | refine blk_alloc ?_ _)); exact BA0.out) hb)
  clear HB O2_0 BA0
  have HB := nB
  have O2_0 := nO2_0
  have BA0 := nBA0
  clear nB nO2_0 nBA0
  have Z3 := HSZ
  clear HSZ
  have cBA0_0 : w3.cell? ⟨w.heap.size, 0, none⟩ = some (.int .i64 a0_0) := (blk_cell BA0.out 0).trans rfl
  have cBA0_1 : w3.cell? ⟨w.heap.size, 1, none⟩ = some (.int .i64 a0_1) := (blk_cell BA0.out 1).trans rfl
  have cBA0_2 : w3.cell? ⟨w.heap.size, 2, none⟩ = some (.slice A0_2 l0_2.length c0_2) := (blk_cell BA0.out 2).trans rfl
  have O3_0 := NO3_0
  clear NO3_0
  go_wp2_with fail
  clear cBA0_0 cBA0_1 cBA0_2
  refine (laws_toGrammar.calls kt0 a0_0 a0_1 A0_2 c0_2 l0_2 a0_0 a0_1 (convs l0_2) _ (Kd.C_below hr0_2 (by repeat (first | (with_reducible first | exact HB.out | apply below_alloc | apply pw_below_drewN | apply below_drew1) | exact HB.out))) hc0_2 ht0).mono ?_
  rintro e w4 ⟨v0, rfl, ho0, hb⟩
  obtain ⟨A104_0, c104_0, ev_⟩ := Kd.S_slice ho0
  subst ev_
  have NO4_0 := Aside0.mk (Kd.S_mono (ok' := fun q_ => w3.heap.size + 0 ≤ q_ ∧ q_ < w4.heap.size) (Kd.S_lower (Kd.S_bound ho0) (below_size (by repeat (first | (with_reducible first | exact HB.out | apply below_alloc | apply pw_below_drewN | apply below_drew1) | exact HB.out)))) (fun q_ h_ => ⟨by have h2_ := h_.2.1; (try simp at h2_); omega, h_.2.2.1⟩))
  clear ho0
  have HSZ := Aside0.mk (show w3.heap.size + 0 ≤ w4.heap.size by have h_ := hb.size; (try simp at h_); omega)
  have nB := Aside0.mk (below_step (by repeat (first | (with_reducible first | exact HB.out | apply below_alloc | apply pw_below_drewN | apply below_drew1) | exact HB.out)) hb)
  have nO3_0 := Aside0.mk (Kd.R_below (by (with_reducible repeat (first | apply Kd.R_alloc | apply Kd.R_drewN | apply Kd.R_drew)); exact O3_0.out) hb)
  have nBA0 := Aside0.mk (blk_below (g := w.heap.size) (o := .cells #[.int .i64 a0_0, .int .i64 a0_1, .slice A0_2 l0_2.length c0_2] 24 (0, 0)) (by (with_reducible repeat (first | refine blk_drewN ?_ _ | refine blk_drew ?_ | refine blk_alloc ?_ _)); exact BA0.out) hb)
  clear HB O3_0 BA0
  have HB := nB
  have O3_0 := nO3_0
  have BA0 := nBA0
  clear nB nO3_0 nBA0
  have Z4 := HSZ
  clear HSZ
  have cBA0_0 : w4.cell? ⟨w.heap.size, 0, none⟩ = some (.int .i64 a0_0) := (blk_cell BA0.out 0).trans rfl
  have cBA0_1 : w4.cell? ⟨w.heap.size, 1, none⟩ = some (.int .i64 a0_1) := (blk_cell BA0.out 1).trans rfl
  have cBA0_2 : w4.cell? ⟨w.heap.size, 2, none⟩ = some (.slice A0_2 l0_2.length c0_2) := (blk_cell BA0.out 2).trans rfl
  have O4_0 := NO4_0
  clear NO4_0
  go_wp2_with fail
  clear cBA0_0 cBA0_1 cBA0_2
  refine (impl_ReachedOf.calls a0_0 a0_1 _ _ (convs l0_2) r0 r1 _ (Kd.S_reads' (by (with_reducible repeat (first | apply Kd.S_alloc | apply Kd.S_drewN | apply Kd.S_drew)); exact O4_0.out)).2.2 (Kd.S_reads' O4_0.out).2.1 hki).mono ?_
  rintro e w5 ⟨v0, rfl, ho0, hb⟩
  obtain ⟨A105_0, c105_0, ev_⟩ := Kd.R_slice ho0
  subst ev_
  have NO5_0 := Aside0.mk (Kd.R_mono (ok' := fun q_ => w4.heap.size + 1 ≤ q_ ∧ q_ < w5.heap.size) (Kd.R_lower (Kd.R_bound ho0) (below_size (by repeat (first | (with_reducible first | exact HB.out | apply below_alloc | apply pw_below_drewN | apply below_drew1) | exact HB.out)))) (fun q_ h_ => ⟨by have h2_ := h_.2.1; (try simp at h2_); omega, h_.2.2.1⟩))
  clear ho0
  have HSZ := Aside0.mk (show w4.heap.size + 1 ≤ w5.heap.size by have h_ := hb.size; (try simp at h_); omega)
  have nB := Aside0.mk (below_step (by repeat (first | (with_reducible first | exact HB.out | apply below_alloc | apply pw_below_drewN | apply below_drew1) | exact HB.out)) hb)
  have nO3_0 := Aside0.mk (Kd.R_below (by (with_reducible repeat (first | apply Kd.R_alloc | apply Kd.R_drewN | apply Kd.R_drew)); exact O3_0.out) hb)
  have nO4_0 := Aside0.mk (Kd.S_below (by (with_reducible repeat (first | apply Kd.S_alloc | apply Kd.S_drewN | apply Kd.S_drew)); exact O4_0.out) hb)
  have nBA0 := Aside0.mk (blk_below (g := w.heap.size) (o := .cells #[.int .i64 a0_0, .int .i64 a0_1, .slice A0_2 l0_2.length c0_2] 24 (0, 0)) (by (with_reducible repeat (first | refine blk_drewN ?_ _ | refine blk_drew ?_ | refine blk_alloc ?_ _)); exact BA0.out) hb)
  have nBX0 := Aside0.mk (blk_below (o := .cells #[.int .i64 a0_0, .int .i64 a0_1, .slice A104_0 (convs l0_2).length c104_0] 30 (0, 0)) (heap_alloc_new w4 _) hb)
  clear HB O3_0 O4_0 BA0
  have HB := nB
  have O3_0 := nO3_0
  have O4_0 := nO4_0
  have BA0 := nBA0
  have BX0 := nBX0
  clear nB nO3_0 nO4_0 nBA0 nBX0
  have Z5 := HSZ
  clear HSZ
  have cBA0_0 : w5.cell? ⟨w.heap.size, 0, none⟩ = some (.int .i64 a0_0) := (blk_cell BA0.out 0).trans rfl
  have cBA0_1 : w5.cell? ⟨w.heap.size, 1, none⟩ = some (.int .i64 a0_1) := (blk_cell BA0.out 1).trans rfl
  have cBA0_2 : w5.cell? ⟨w.heap.size, 2, none⟩ = some (.slice A0_2 l0_2.length c0_2) := (blk_cell BA0.out 2).trans rfl
  have cBX0_0 : w5.cell? ⟨w4.heap.size, 0, none⟩ = some (.int .i64 a0_0) := (blk_cell BX0.out 0).trans rfl
  have cBX0_1 : w5.cell? ⟨w4.heap.size, 1, none⟩ = some (.int .i64 a0_1) := (blk_cell BX0.out 1).trans rfl
  have cBX0_2 : w5.cell? ⟨w4.heap.size, 2, none⟩ = some (.slice A104_0 (convs l0_2).length c104_0) := (blk_cell BX0.out 2).trans rfl
  have O5_0 := NO5_0
  clear NO5_0
  go_wp2_with fail
  clear cBA0_0 cBA0_1 cBA0_2 cBX0_0 cBX0_1 cBX0_2
  refine (laws_eqIntS.calls ke0 _ _ r0 _ _ r0 true _ (Kd.R_reads' (by (with_reducible repeat (first | apply Kd.R_alloc | apply Kd.R_drewN | apply Kd.R_drew)); exact O5_0.out)).2.2 (Kd.R_reads' O5_0.out).2.1 (Kd.R_reads' (by (with_reducible repeat (first | apply Kd.R_alloc | apply Kd.R_drewN | apply Kd.R_drew)); exact O3_0.out)).2.2 (Kd.R_reads' O3_0.out).2.1 hke0).mono ?_
  rintro e w6 ⟨rfl, hd⟩
  have hb := drawn_below hd
  clear hd
  have HSZ := Aside0.mk (show w5.heap.size + 0 ≤ w6.heap.size by have h_ := hb.size; (try simp at h_); omega)
  have nB := Aside0.mk (below_step (by repeat (first | (with_reducible first | exact HB.out | apply below_alloc | apply pw_below_drewN | apply below_drew1) | exact HB.out)) hb)
  have nO3_0 := Aside0.mk (Kd.R_below (by (with_reducible repeat (first | apply Kd.R_alloc | apply Kd.R_drewN | apply Kd.R_drew)); exact O3_0.out) hb)
  have nO4_0 := Aside0.mk (Kd.S_below (by (with_reducible repeat (first | apply Kd.S_alloc | apply Kd.S_drewN | apply Kd.S_drew)); exact O4_0.out) hb)
  have nO5_0 := Aside0.mk (Kd.R_below (by (with_reducible repeat (first | apply Kd.R_alloc | apply Kd.R_drewN | apply Kd.R_drew)); exact O5_0.out) hb)
  have nBA0 := Aside0.mk (blk_below (g := w.heap.size) (o := .cells #[.int .i64 a0_0, .int .i64 a0_1, .slice A0_2 l0_2.length c0_2] 24 (0, 0)) (by (with_reducible repeat (first | refine blk_drewN ?_ _ | refine blk_drew ?_ | refine blk_alloc ?_ _)); exact BA0.out) hb)
  have nBX0 := Aside0.mk (blk_below (g := w4.heap.size) (o := .cells #[.int .i64 a0_0, .int .i64 a0_1, .slice A104_0 (convs l0_2).length c104_0] 30 (0, 0)) (by (with_reducible repeat (first | refine blk_drewN ?_ _ | refine blk_drew ?_ | refine blk_alloc ?_ _)); exact BX0.out) hb)
  clear HB O3_0 O4_0 O5_0 BA0 BX0
  have HB := nB
  have O3_0 := nO3_0
  have O4_0 := nO4_0
  have O5_0 := nO5_0
  have BA0 := nBA0
  have BX0 := nBX0
  clear nB nO3_0 nO4_0 nO5_0 nBA0 nBX0
  have Z6 := HSZ
  clear HSZ
  have cBA0_0 : w6.cell? ⟨w.heap.size, 0, none⟩ = some (.int .i64 a0_0) := (blk_cell BA0.out 0).trans rfl
  have cBA0_1 : w6.cell? ⟨w.heap.size, 1, none⟩ = some (.int .i64 a0_1) := (blk_cell BA0.out 1).trans rfl
  have cBA0_2 : w6.cell? ⟨w.heap.size, 2, none⟩ = some (.slice A0_2 l0_2.length c0_2) := (blk_cell BA0.out 2).trans rfl
  have cBX0_0 : w6.cell? ⟨w4.heap.size, 0, none⟩ = some (.int .i64 a0_0) := (blk_cell BX0.out 0).trans rfl
  have cBX0_1 : w6.cell? ⟨w4.heap.size, 1, none⟩ = some (.int .i64 a0_1) := (blk_cell BX0.out 1).trans rfl
  have cBX0_2 : w6.cell? ⟨w4.heap.size, 2, none⟩ = some (.slice A104_0 (convs l0_2).length c104_0) := (blk_cell BX0.out 2).trans rfl
  go_wp2_with fail
  have nO3_0 := Aside0.mk (Kd.R_drew O3_0.out)
  have nO4_0 := Aside0.mk (Kd.S_drew O4_0.out)
  have nO5_0 := Aside0.mk (Kd.R_drew O5_0.out)
  have nBA0 := Aside0.mk (blk_drew BA0.out)
  have nBX0 := Aside0.mk (blk_drew BX0.out)
  have nB := Aside0.mk (below_drew1 HB.out)
  have HSZ := Aside0.mk (show w6.heap.size + 0 ≤ w6.drew.heap.size from Nat.le_refl _)
  clear cBA0_0 cBA0_1 cBA0_2 cBX0_0 cBX0_1 cBX0_2
  clear HB O3_0 O4_0 O5_0 BA0 BX0
  have HB := nB
  have O3_0 := nO3_0
  have O4_0 := nO4_0
  have O5_0 := nO5_0
  have BA0 := nBA0
  have BX0 := nBX0
  clear nB nO3_0 nO4_0 nO5_0 nBA0 nBX0
  refine start_ (n := 5) (S := fun w' => w'.cell? ⟨w4.heap.size, 0, none⟩ = some (.int .i64 a0_0) ∧ w'.cell? ⟨w4.heap.size, 1, none⟩ = some (.int .i64 a0_1) ∧ w'.cell? ⟨w4.heap.size, 2, none⟩ = some (.slice A104_0 (convs l0_2).length c104_0) ∧ w'.cell? ⟨w.heap.size, 0, none⟩ = some (.int .i64 a0_0) ∧ w'.cell? ⟨w.heap.size, 1, none⟩ = some (.int .i64 a0_1) ∧ w'.cell? ⟨w.heap.size, 2, none⟩ = some (.slice A0_2 l0_2.length c0_2)) (ds := []) #[false, false, false, false, false] (by kernel_rfl) rfl rfl ⟨(blk_cell BX0.out 0).trans rfl, (blk_cell BX0.out 1).trans rfl, (blk_cell BX0.out 2).trans rfl, (blk_cell BA0.out 0).trans rfl, (blk_cell BA0.out 1).trans rfl, (blk_cell BA0.out 2).trans rfl⟩ (fun hHeld => ?_)
  generalize w6.drew = w7 at O3_0 O4_0 O5_0 BA0 BX0 HB HSZ hHeld ⊢
  have Z7 := HSZ
  clear HSZ
  refine take_ (i := 0) (v := ?_) (a' := ?_) #[true, false, false, false, false] rfl rfl (by kernel_rfl) (fun _ _ _ h => h) (Or.inl ⟨by rfl, ?_⟩) hHeld ?_ ?_
  rotate_left
  · rintro w' ⟨s0, s1, s2, s3, s4, s5⟩
    go_simp
    with_reducible rfl
  rotate_left
  · simp only [Act.put, List.setIfInBounds_toArray, List.set_cons_zero, List.set_cons_succ, i64_w, i32_w]
    rfl
  refine take_ (i := 1) (v := ?_) (a' := ?_) #[true, true, false, false, false] rfl rfl (by kernel_rfl) (fun _ _ _ h => h) (Or.inl ⟨by rfl, ?_⟩) hHeld ?_ ?_
  rotate_left
  · rintro w' ⟨s0, s1, s2, s3, s4, s5⟩
    go_simp
    with_reducible rfl
  rotate_left
  · simp only [Act.put, List.setIfInBounds_toArray, List.set_cons_zero, List.set_cons_succ, i64_w, i32_w]
    rfl
  refine one_ (i := 2) #[true, true, true, false, false] rfl rfl (by kernel_rfl) (by decide) (fun K hK => ?_)
  refine goes_ Try.func13 (by kernel_rfl) rfl #[.agg #[.int .i64 a0_0, .int .i64 a0_1, .slice A0_2 l0_2.length c0_2]] (by rfl) rfl rfl (by first | rfl | ((try simp only [List.map_toArray, List.map_cons, List.map_nil]); first | done | rfl)) ?_
  with_reducible refine (laws_toGrammar.calls kt0 a0_0 a0_1 A0_2 c0_2 l0_2 a0_0 a0_1 (convs l0_2) _ (Kd.C_below hr0_2 (by repeat (first | (with_reducible first | exact HB.out | apply below_alloc | apply pw_below_drewN | apply below_drew1) | exact HB.out))) hc0_2 ht0).mono ?_
  rintro e w8 ⟨v0, rfl, ho0, hb⟩
  refine ⟨_, rfl, ?_⟩
  obtain ⟨A108_0, c108_0, ev_⟩ := Kd.S_slice ho0
  subst ev_
  have NO8_0 := Aside0.mk (Kd.S_mono (ok' := fun q_ => w7.heap.size + 0 ≤ q_ ∧ q_ < w8.heap.size) (Kd.S_lower (Kd.S_bound ho0) (below_size (by repeat (first | (with_reducible first | exact HB.out | apply below_alloc | apply pw_below_drewN | apply below_drew1) | exact HB.out)))) (fun q_ h_ => ⟨by have h2_ := h_.2.1; (try simp at h2_); omega, h_.2.2.1⟩))
  clear ho0
  have HSZ := Aside0.mk (show w7.heap.size + 0 ≤ w8.heap.size by have h_ := hb.size; (try simp at h_); omega)
  have nB := Aside0.mk (below_step (by repeat (first | (with_reducible first | exact HB.out | apply below_alloc | apply pw_below_drewN | apply below_drew1) | exact HB.out)) hb)
  have nO3_0 := Aside0.mk (Kd.R_below (by (with_reducible repeat (first | apply Kd.R_alloc | apply Kd.R_drewN | apply Kd.R_drew)); exact O3_0.out) hb)
  have nO4_0 := Aside0.mk (Kd.S_below (by (with_reducible repeat (first | apply Kd.S_alloc | apply Kd.S_drewN | apply Kd.S_drew)); exact O4_0.out) hb)
  have nO5_0 := Aside0.mk (Kd.R_below (by (with_reducible repeat (first | apply Kd.R_alloc | apply Kd.R_drewN | apply Kd.R_drew)); exact O5_0.out) hb)
  have nBA0 := Aside0.mk (blk_below (g := w.heap.size) (o := .cells #[.int .i64 a0_0, .int .i64 a0_1, .slice A0_2 l0_2.length c0_2] 24 (0, 0)) (by (with_reducible repeat (first | refine blk_drewN ?_ _ | refine blk_drew ?_ | refine blk_alloc ?_ _)); exact BA0.out) hb)
  have nBX0 := Aside0.mk (blk_below (g := w4.heap.size) (o := .cells #[.int .i64 a0_0, .int .i64 a0_1, .slice A104_0 (convs l0_2).length c104_0] 30 (0, 0)) (by (with_reducible repeat (first | refine blk_drewN ?_ _ | refine blk_drew ?_ | refine blk_alloc ?_ _)); exact BX0.out) hb)
  clear HB O3_0 O4_0 O5_0 BA0 BX0
  have HB := nB
  have O3_0 := nO3_0
  have O4_0 := nO4_0
  have O5_0 := nO5_0
  have BA0 := nBA0
  have BX0 := nBX0
  clear nB nO3_0 nO4_0 nO5_0 nBA0 nBX0
  have Z8 := HSZ
  clear HSZ
  have cBA0_0 : w8.cell? ⟨w.heap.size, 0, none⟩ = some (.int .i64 a0_0) := (blk_cell BA0.out 0).trans rfl
  have cBA0_1 : w8.cell? ⟨w.heap.size, 1, none⟩ = some (.int .i64 a0_1) := (blk_cell BA0.out 1).trans rfl
  have cBA0_2 : w8.cell? ⟨w.heap.size, 2, none⟩ = some (.slice A0_2 l0_2.length c0_2) := (blk_cell BA0.out 2).trans rfl
  have cBX0_0 : w8.cell? ⟨w4.heap.size, 0, none⟩ = some (.int .i64 a0_0) := (blk_cell BX0.out 0).trans rfl
  have cBX0_1 : w8.cell? ⟨w4.heap.size, 1, none⟩ = some (.int .i64 a0_1) := (blk_cell BX0.out 1).trans rfl
  have cBX0_2 : w8.cell? ⟨w4.heap.size, 2, none⟩ = some (.slice A104_0 (convs l0_2).length c104_0) := (blk_cell BX0.out 2).trans rfl
  have O8_0 := NO8_0
  clear NO8_0
  clear cBA0_0 cBA0_1 cBA0_2 cBX0_0 cBX0_1 cBX0_2
  refine hK.out _ _ ⟨(blk_cell BX0.out 0).trans rfl, (blk_cell BX0.out 1).trans rfl, (blk_cell BX0.out 2).trans rfl, (blk_cell BA0.out 0).trans rfl, (blk_cell BA0.out 1).trans rfl, (blk_cell BA0.out 2).trans rfl⟩ (fun hHeld => ?_)
  clear hK K
  refine norm_ (a' := ?_) ?_ ?_
  rotate_left
  · show Act.put _ (some _) _ = _
    simp only [Act.put, List.setIfInBounds_toArray, List.set_cons_zero, List.set_cons_succ, i64_w, i32_w]
    rfl
  refine one_ (i := 3) #[true, true, true, true, false] rfl rfl (by kernel_rfl) (by decide) (fun K hK => ?_)
  refine goes_ Try.func15 (by kernel_rfl) rfl #[.agg #[.int .i64 a0_0, .int .i64 a0_1, .slice A104_0 (convs l0_2).length c104_0], .agg #[.int .i64 a0_0, .int .i64 a0_1, .slice A108_0 (convs l0_2).length c108_0]] (by rfl) rfl rfl (by first | rfl | ((try simp only [List.map_toArray, List.map_cons, List.map_nil]); first | done | rfl)) ?_
  with_reducible refine (laws_eqGrammar.calls kx0 a0_0 a0_1 _ _ (convs l0_2) a0_0 a0_1 _ _ (convs l0_2) true _ (Kd.S_reads' (by (with_reducible repeat (first | apply Kd.S_alloc | apply Kd.S_drewN | apply Kd.S_drew)); exact O4_0.out)).2.2 (Kd.S_reads' O4_0.out).2.1 (Kd.S_reads' (by (with_reducible repeat (first | apply Kd.S_alloc | apply Kd.S_drewN | apply Kd.S_drew)); exact O8_0.out)).2.2 (Kd.S_reads' O8_0.out).2.1 hkx0).mono ?_
  rintro e w9 ⟨rfl, hb⟩
  refine ⟨_, rfl, ?_⟩
  clear O8_0
  have HSZ := Aside0.mk (show w8.heap.size + 0 ≤ w9.heap.size by have h_ := hb.size; (try simp at h_); omega)
  have nB := Aside0.mk (below_step (by repeat (first | (with_reducible first | exact HB.out | apply below_alloc | apply pw_below_drewN | apply below_drew1) | exact HB.out)) hb)
  have nO3_0 := Aside0.mk (Kd.R_below (by (with_reducible repeat (first | apply Kd.R_alloc | apply Kd.R_drewN | apply Kd.R_drew)); exact O3_0.out) hb)
  have nO4_0 := Aside0.mk (Kd.S_below (by (with_reducible repeat (first | apply Kd.S_alloc | apply Kd.S_drewN | apply Kd.S_drew)); exact O4_0.out) hb)
  have nO5_0 := Aside0.mk (Kd.R_below (by (with_reducible repeat (first | apply Kd.R_alloc | apply Kd.R_drewN | apply Kd.R_drew)); exact O5_0.out) hb)
  have nBA0 := Aside0.mk (blk_below (g := w.heap.size) (o := .cells #[.int .i64 a0_0, .int .i64 a0_1, .slice A0_2 l0_2.length c0_2] 24 (0, 0)) (by (with_reducible repeat (first | refine blk_drewN ?_ _ | refine blk_drew ?_ | refine blk_alloc ?_ _)); exact BA0.out) hb)
  have nBX0 := Aside0.mk (blk_below (g := w4.heap.size) (o := .cells #[.int .i64 a0_0, .int .i64 a0_1, .slice A104_0 (convs l0_2).length c104_0] 30 (0, 0)) (by (with_reducible repeat (first | refine blk_drewN ?_ _ | refine blk_drew ?_ | refine blk_alloc ?_ _)); exact BX0.out) hb)
  clear HB O3_0 O4_0 O5_0 BA0 BX0
  have HB := nB
  have O3_0 := nO3_0
  have O4_0 := nO4_0
  have O5_0 := nO5_0
  have BA0 := nBA0
  have BX0 := nBX0
  clear nB nO3_0 nO4_0 nO5_0 nBA0 nBX0
  have Z9 := HSZ
  clear HSZ
  have cBA0_0 : w9.cell? ⟨w.heap.size, 0, none⟩ = some (.int .i64 a0_0) := (blk_cell BA0.out 0).trans rfl
  have cBA0_1 : w9.cell? ⟨w.heap.size, 1, none⟩ = some (.int .i64 a0_1) := (blk_cell BA0.out 1).trans rfl
  have cBA0_2 : w9.cell? ⟨w.heap.size, 2, none⟩ = some (.slice A0_2 l0_2.length c0_2) := (blk_cell BA0.out 2).trans rfl
  have cBX0_0 : w9.cell? ⟨w4.heap.size, 0, none⟩ = some (.int .i64 a0_0) := (blk_cell BX0.out 0).trans rfl
  have cBX0_1 : w9.cell? ⟨w4.heap.size, 1, none⟩ = some (.int .i64 a0_1) := (blk_cell BX0.out 1).trans rfl
  have cBX0_2 : w9.cell? ⟨w4.heap.size, 2, none⟩ = some (.slice A104_0 (convs l0_2).length c104_0) := (blk_cell BX0.out 2).trans rfl
  clear cBA0_0 cBA0_1 cBA0_2 cBX0_0 cBX0_1 cBX0_2
  refine hK.out _ _ ⟨(blk_cell BX0.out 0).trans rfl, (blk_cell BX0.out 1).trans rfl, (blk_cell BX0.out 2).trans rfl, (blk_cell BA0.out 0).trans rfl, (blk_cell BA0.out 1).trans rfl, (blk_cell BA0.out 2).trans rfl⟩ (fun hHeld => ?_)
  clear hK K
  refine norm_ (a' := ?_) ?_ ?_
  rotate_left
  · show Act.put _ (some _) _ = _
    simp only [Act.put, List.setIfInBounds_toArray, List.set_cons_zero, List.set_cons_succ, i64_w, i32_w]
    rfl
  refine pure_ (i := 4) (v := ?_) (a' := ?_) #[true, true, true, true, true] rfl rfl (by kernel_rfl) (fun _ _ _ h => h) (Or.inl ⟨by rfl, ?_⟩) ?_ ?_
  rotate_left
  · intro w'
    go_simp
    with_reducible rfl
  rotate_left
  · simp only [Act.put, List.setIfInBounds_toArray, List.set_cons_zero, List.set_cons_succ, i64_w, i32_w]
    rfl
  refine done_ (by kernel_rfl) ?_
  clear hHeld
  have cBA0_0 : w9.cell? ⟨w.heap.size, 0, none⟩ = some (.int .i64 a0_0) := (blk_cell BA0.out 0).trans rfl
  have cBA0_1 : w9.cell? ⟨w.heap.size, 1, none⟩ = some (.int .i64 a0_1) := (blk_cell BA0.out 1).trans rfl
  have cBA0_2 : w9.cell? ⟨w.heap.size, 2, none⟩ = some (.slice A0_2 l0_2.length c0_2) := (blk_cell BA0.out 2).trans rfl
  have cBX0_0 : w9.cell? ⟨w4.heap.size, 0, none⟩ = some (.int .i64 a0_0) := (blk_cell BX0.out 0).trans rfl
  have cBX0_1 : w9.cell? ⟨w4.heap.size, 1, none⟩ = some (.int .i64 a0_1) := (blk_cell BX0.out 1).trans rfl
  have cBX0_2 : w9.cell? ⟨w4.heap.size, 2, none⟩ = some (.slice A104_0 (convs l0_2).length c104_0) := (blk_cell BX0.out 2).trans rfl
  obtain ⟨kk0, hkk0⟩ : ∃ z_ : Int, z_ = 1 + (szR (convs l0_2) : Int) := ⟨_, rfl⟩
  go_wp2_with fail
  clear cBA0_0 cBA0_1 cBA0_2 cBX0_0 cBX0_1 cBX0_2
  have CM := markGrammar_calls (fun q_ => w3.heap.size + 0 ≤ q_ ∧ q_ < w4.heap.size) a0_0 a0_1 _ (convs l0_2) (1) w _ (by repeat (first | (with_reducible first | exact HB.out | apply below_alloc | apply pw_below_drewN | apply below_drew1) | exact HB.out)) (by (with_reducible repeat (first | apply Kd.S_alloc | apply Kd.S_drewN | apply Kd.S_drew)); exact O4_0.out) (by omega) (by have := bx0; omega)
  rw [← hkk0] at CM
  refine CM.mono ?_
  rintro e w10 ⟨rfl, ho, hB_, hK_⟩
  have NB := Aside0.mk hB_
  have NK := Aside0.mk hK_
  have NO := Aside0.mk ho
  clear ho hB_ hK_ CM
  have HSZ := Aside0.mk (show w9.heap.size + 0 ≤ w10.heap.size by have h_ := NK.out.1; (try simp at h_); omega)
  have nB := NB
  have nO3_0 := Aside0.mk (Kd.R_kept (by (with_reducible repeat (first | apply Kd.R_alloc | apply Kd.R_drewN | apply Kd.R_drew)); exact O3_0.out) NK.out (fun q_ h1_ h2_ => by have := Z1.out; have := Z2.out; have := Z3.out; have := Z4.out; have := Z5.out; have := Z6.out; have := Z7.out; have := Z8.out; have := Z9.out; omega))
  have nO5_0 := Aside0.mk (Kd.R_kept (by (with_reducible repeat (first | apply Kd.R_alloc | apply Kd.R_drewN | apply Kd.R_drew)); exact O5_0.out) NK.out (fun q_ h1_ h2_ => by have := Z1.out; have := Z2.out; have := Z3.out; have := Z4.out; have := Z5.out; have := Z6.out; have := Z7.out; have := Z8.out; have := Z9.out; omega))
  have nBA0 := Aside0.mk (blk_kept (g := w.heap.size) (o := .cells #[.int .i64 a0_0, .int .i64 a0_1, .slice A0_2 l0_2.length c0_2] 24 (0, 0)) (by (with_reducible repeat (first | refine blk_drewN ?_ _ | refine blk_drew ?_ | refine blk_alloc ?_ _)); exact BA0.out) NK.out (fun h2_ => by have := Z1.out; have := Z2.out; have := Z3.out; have := Z4.out; have := Z5.out; have := Z6.out; have := Z7.out; have := Z8.out; have := Z9.out; omega))
  have nBX0 := Aside0.mk (blk_kept (g := w4.heap.size) (o := .cells #[.int .i64 a0_0, .int .i64 a0_1, .slice A104_0 (convs l0_2).length c104_0] 30 (0, 0)) (by (with_reducible repeat (first | refine blk_drewN ?_ _ | refine blk_drew ?_ | refine blk_alloc ?_ _)); exact BX0.out) NK.out (fun h2_ => by have := Z1.out; have := Z2.out; have := Z3.out; have := Z4.out; have := Z5.out; have := Z6.out; have := Z7.out; have := Z8.out; have := Z9.out; omega))
  clear HB O3_0 O5_0 BA0 BX0
  have HB := nB
  have O3_0 := nO3_0
  have O5_0 := nO5_0
  have BA0 := nBA0
  have BX0 := nBX0
  clear nB nO3_0 nO5_0 nBA0 nBX0
  have Z10 := HSZ
  clear HSZ
  have cBA0_0 : w10.cell? ⟨w.heap.size, 0, none⟩ = some (.int .i64 a0_0) := (blk_cell BA0.out 0).trans rfl
  have cBA0_1 : w10.cell? ⟨w.heap.size, 1, none⟩ = some (.int .i64 a0_1) := (blk_cell BA0.out 1).trans rfl
  have cBA0_2 : w10.cell? ⟨w.heap.size, 2, none⟩ = some (.slice A0_2 l0_2.length c0_2) := (blk_cell BA0.out 2).trans rfl
  have cBX0_0 : w10.cell? ⟨w4.heap.size, 0, none⟩ = some (.int .i64 a0_0) := (blk_cell BX0.out 0).trans rfl
  have cBX0_1 : w10.cell? ⟨w4.heap.size, 1, none⟩ = some (.int .i64 a0_1) := (blk_cell BX0.out 1).trans rfl
  have cBX0_2 : w10.cell? ⟨w4.heap.size, 2, none⟩ = some (.slice A104_0 (convs l0_2).length c104_0) := (blk_cell BX0.out 2).trans rfl
  clear O4_0
  have O4_0 := NO
  clear NO NK NB
  have dkk0 : decide (kk0 < 0) = false := decide_eq_false (by omega)
  have gkk0 : 0 ≤ kk0 := by omega
  have qkk0 : kk0 ≤ 1152921504606846976 := by have := bx0; omega
  have Skk0 := Aside0.mk hkk0
  clear hkk0
  clear O4_0
  go_wp2_with fail
  clear cBA0_0 cBA0_1 cBA0_2
  refine (laws_eqIntS.calls ke0 _ _ r0 _ _ r0 true _ (Kd.R_reads' (by (with_reducible repeat (first | apply Kd.R_alloc | apply Kd.R_drewN | apply Kd.R_drew)); exact O5_0.out)).2.2 (Kd.R_reads' O5_0.out).2.1 (Kd.R_reads' (by (with_reducible repeat (first | apply Kd.R_alloc | apply Kd.R_drewN | apply Kd.R_drew)); exact O3_0.out)).2.2 (Kd.R_reads' O3_0.out).2.1 hke0).mono ?_
  rintro e w11 ⟨rfl, hd⟩
  have hb := drawn_below hd
  clear hd
  have HSZ := Aside0.mk (show w10.heap.size + 0 ≤ w11.heap.size by have h_ := hb.size; (try simp at h_); omega)
  have nB := Aside0.mk (below_step (by repeat (first | (with_reducible first | exact HB.out | apply below_alloc | apply pw_below_drewN | apply below_drew1) | exact HB.out)) hb)
  have nO3_0 := Aside0.mk (Kd.R_below (by (with_reducible repeat (first | apply Kd.R_alloc | apply Kd.R_drewN | apply Kd.R_drew)); exact O3_0.out) hb)
  have nO5_0 := Aside0.mk (Kd.R_below (by (with_reducible repeat (first | apply Kd.R_alloc | apply Kd.R_drewN | apply Kd.R_drew)); exact O5_0.out) hb)
  have nBA0 := Aside0.mk (blk_below (g := w.heap.size) (o := .cells #[.int .i64 a0_0, .int .i64 a0_1, .slice A0_2 l0_2.length c0_2] 24 (0, 0)) (by (with_reducible repeat (first | refine blk_drewN ?_ _ | refine blk_drew ?_ | refine blk_alloc ?_ _)); exact BA0.out) hb)
  clear HB O3_0 O5_0 BA0
  have HB := nB
  have O3_0 := nO3_0
  have O5_0 := nO5_0
  have BA0 := nBA0
  clear nB nO3_0 nO5_0 nBA0
  have Z11 := HSZ
  clear HSZ
  have cBA0_0 : w11.cell? ⟨w.heap.size, 0, none⟩ = some (.int .i64 a0_0) := (blk_cell BA0.out 0).trans rfl
  have cBA0_1 : w11.cell? ⟨w.heap.size, 1, none⟩ = some (.int .i64 a0_1) := (blk_cell BA0.out 1).trans rfl
  have cBA0_2 : w11.cell? ⟨w.heap.size, 2, none⟩ = some (.slice A0_2 l0_2.length c0_2) := (blk_cell BA0.out 2).trans rfl
  obtain ⟨mm0, hmm0⟩ : ∃ z_ : Int, z_ = 1 + (r0.length : Int) := ⟨_, rfl⟩
  go_wp2_with fail
  clear cBA0_0 cBA0_1 cBA0_2
  have CM := markIntS_calls (fun q_ => w4.heap.size + 1 ≤ q_ ∧ q_ < w5.heap.size) _ r0 (1) w _ (by repeat (first | (with_reducible first | exact HB.out | apply below_alloc | apply pw_below_drewN | apply below_drew1) | exact HB.out)) (by (with_reducible repeat (first | apply Kd.R_alloc | apply Kd.R_drewN | apply Kd.R_drew)); exact O5_0.out) (by omega) (by have := br0; omega)
  rw [← hmm0] at CM
  refine CM.mono ?_
  rintro e w12 ⟨rfl, ho, hB_, hK_⟩
  have NB := Aside0.mk hB_
  have NK := Aside0.mk hK_
  have NO := Aside0.mk ho
  clear ho hB_ hK_ CM
  have HSZ := Aside0.mk (show w11.heap.size + 0 ≤ w12.heap.size by have h_ := NK.out.1; (try simp at h_); omega)
  have nB := NB
  have nO3_0 := Aside0.mk (Kd.R_kept (by (with_reducible repeat (first | apply Kd.R_alloc | apply Kd.R_drewN | apply Kd.R_drew)); exact O3_0.out) NK.out (fun q_ h1_ h2_ => by have := Z1.out; have := Z2.out; have := Z3.out; have := Z4.out; have := Z5.out; have := Z6.out; have := Z7.out; have := Z8.out; have := Z9.out; have := Z10.out; have := Z11.out; omega))
  have nBA0 := Aside0.mk (blk_kept (g := w.heap.size) (o := .cells #[.int .i64 a0_0, .int .i64 a0_1, .slice A0_2 l0_2.length c0_2] 24 (0, 0)) (by (with_reducible repeat (first | refine blk_drewN ?_ _ | refine blk_drew ?_ | refine blk_alloc ?_ _)); exact BA0.out) NK.out (fun h2_ => by have := Z1.out; have := Z2.out; have := Z3.out; have := Z4.out; have := Z5.out; have := Z6.out; have := Z7.out; have := Z8.out; have := Z9.out; have := Z10.out; have := Z11.out; omega))
  clear HB O3_0 BA0
  have HB := nB
  have O3_0 := nO3_0
  have BA0 := nBA0
  clear nB nO3_0 nBA0
  have Z12 := HSZ
  clear HSZ
  have cBA0_0 : w12.cell? ⟨w.heap.size, 0, none⟩ = some (.int .i64 a0_0) := (blk_cell BA0.out 0).trans rfl
  have cBA0_1 : w12.cell? ⟨w.heap.size, 1, none⟩ = some (.int .i64 a0_1) := (blk_cell BA0.out 1).trans rfl
  have cBA0_2 : w12.cell? ⟨w.heap.size, 2, none⟩ = some (.slice A0_2 l0_2.length c0_2) := (blk_cell BA0.out 2).trans rfl
  clear O5_0
  have O5_0 := NO
  clear NO NK NB
  have dmm0 : decide (mm0 < 0) = false := decide_eq_false (by omega)
  have gmm0 : 0 ≤ mm0 := by omega
  have qmm0 : mm0 ≤ 1152921504606846976 := by have := br0; omega
  have Smm0 := Aside0.mk hmm0
  clear hmm0
  go_wp2_with fail
  clear cBA0_0 cBA0_1 cBA0_2
  have CH := fun A_ c_ w_ hr_ hc_ => heldIntS_calls  A_ c_ r0 (1) w_ hr_ hc_ (by omega) (by have := br0; omega)
  rw [← Smm0.out] at CH
  refine (CH _ _ _ (Kd.R_reads' (by (with_reducible repeat (first | apply Kd.R_alloc | apply Kd.R_drewN | apply Kd.R_drew)); exact O5_0.out)).2.2 (Kd.R_reads' O5_0.out).2.1).mono ?_
  rintro e w13 ⟨rfl, hb⟩
  clear CH
  have HSZ := Aside0.mk (show w12.heap.size + 0 ≤ w13.heap.size by have h_ := hb.size; (try simp at h_); omega)
  have nB := Aside0.mk (below_step (by repeat (first | (with_reducible first | exact HB.out | apply below_alloc | apply pw_below_drewN | apply below_drew1) | exact HB.out)) hb)
  have nO3_0 := Aside0.mk (Kd.R_below (by (with_reducible repeat (first | apply Kd.R_alloc | apply Kd.R_drewN | apply Kd.R_drew)); exact O3_0.out) hb)
  have nO5_0 := Aside0.mk (Kd.R_below (by (with_reducible repeat (first | apply Kd.R_alloc | apply Kd.R_drewN | apply Kd.R_drew)); exact O5_0.out) hb)
  have nBA0 := Aside0.mk (blk_below (g := w.heap.size) (o := .cells #[.int .i64 a0_0, .int .i64 a0_1, .slice A0_2 l0_2.length c0_2] 24 (0, 0)) (by (with_reducible repeat (first | refine blk_drewN ?_ _ | refine blk_drew ?_ | refine blk_alloc ?_ _)); exact BA0.out) hb)
  clear HB O3_0 O5_0 BA0
  have HB := nB
  have O3_0 := nO3_0
  have O5_0 := nO5_0
  have BA0 := nBA0
  clear nB nO3_0 nO5_0 nBA0
  have Z13 := HSZ
  clear HSZ
  have cBA0_0 : w13.cell? ⟨w.heap.size, 0, none⟩ = some (.int .i64 a0_0) := (blk_cell BA0.out 0).trans rfl
  have cBA0_1 : w13.cell? ⟨w.heap.size, 1, none⟩ = some (.int .i64 a0_1) := (blk_cell BA0.out 1).trans rfl
  have cBA0_2 : w13.cell? ⟨w.heap.size, 2, none⟩ = some (.slice A0_2 l0_2.length c0_2) := (blk_cell BA0.out 2).trans rfl
  go_wp2_with fail
  clear cBA0_0 cBA0_1 cBA0_2
  refine (laws_toGrammar.calls kt0 a0_0 a0_1 A0_2 c0_2 l0_2 a0_0 a0_1 (convs l0_2) _ (Kd.C_below hr0_2 (by repeat (first | (with_reducible first | exact HB.out | apply below_alloc | apply pw_below_drewN | apply below_drew1) | exact HB.out))) hc0_2 ht0).mono ?_
  rintro e w14 ⟨v0, rfl, ho0, hb⟩
  obtain ⟨A114_0, c114_0, ev_⟩ := Kd.S_slice ho0
  subst ev_
  have NO14_0 := Aside0.mk (Kd.S_mono (ok' := fun q_ => w13.heap.size + 0 ≤ q_ ∧ q_ < w14.heap.size) (Kd.S_lower (Kd.S_bound ho0) (below_size (by repeat (first | (with_reducible first | exact HB.out | apply below_alloc | apply pw_below_drewN | apply below_drew1) | exact HB.out)))) (fun q_ h_ => ⟨by have h2_ := h_.2.1; (try simp at h2_); omega, h_.2.2.1⟩))
  clear ho0
  have HSZ := Aside0.mk (show w13.heap.size + 0 ≤ w14.heap.size by have h_ := hb.size; (try simp at h_); omega)
  have nB := Aside0.mk (below_step (by repeat (first | (with_reducible first | exact HB.out | apply below_alloc | apply pw_below_drewN | apply below_drew1) | exact HB.out)) hb)
  have nO3_0 := Aside0.mk (Kd.R_below (by (with_reducible repeat (first | apply Kd.R_alloc | apply Kd.R_drewN | apply Kd.R_drew)); exact O3_0.out) hb)
  have nO5_0 := Aside0.mk (Kd.R_below (by (with_reducible repeat (first | apply Kd.R_alloc | apply Kd.R_drewN | apply Kd.R_drew)); exact O5_0.out) hb)
  have nBA0 := Aside0.mk (blk_below (g := w.heap.size) (o := .cells #[.int .i64 a0_0, .int .i64 a0_1, .slice A0_2 l0_2.length c0_2] 24 (0, 0)) (by (with_reducible repeat (first | refine blk_drewN ?_ _ | refine blk_drew ?_ | refine blk_alloc ?_ _)); exact BA0.out) hb)
  clear HB O3_0 O5_0 BA0
  have HB := nB
  have O3_0 := nO3_0
  have O5_0 := nO5_0
  have BA0 := nBA0
  clear nB nO3_0 nO5_0 nBA0
  have Z14 := HSZ
  clear HSZ
  have cBA0_0 : w14.cell? ⟨w.heap.size, 0, none⟩ = some (.int .i64 a0_0) := (blk_cell BA0.out 0).trans rfl
  have cBA0_1 : w14.cell? ⟨w.heap.size, 1, none⟩ = some (.int .i64 a0_1) := (blk_cell BA0.out 1).trans rfl
  have cBA0_2 : w14.cell? ⟨w.heap.size, 2, none⟩ = some (.slice A0_2 l0_2.length c0_2) := (blk_cell BA0.out 2).trans rfl
  have O14_0 := NO14_0
  clear NO14_0
  go_wp2_with fail
  clear cBA0_0 cBA0_1 cBA0_2
  refine (impl_ReachedOf.calls a0_0 a0_1 _ _ (convs l0_2) r0 r1 _ (Kd.S_reads' (by (with_reducible repeat (first | apply Kd.S_alloc | apply Kd.S_drewN | apply Kd.S_drew)); exact O14_0.out)).2.2 (Kd.S_reads' O14_0.out).2.1 hki).mono ?_
  rintro e w15 ⟨v0, rfl, ho0, hb⟩
  obtain ⟨A115_0, c115_0, ev_⟩ := Kd.R_slice ho0
  subst ev_
  have NO15_0 := Aside0.mk (Kd.R_mono (ok' := fun q_ => w14.heap.size + 0 ≤ q_ ∧ q_ < w15.heap.size) (Kd.R_lower (Kd.R_bound ho0) (below_size (by repeat (first | (with_reducible first | exact HB.out | apply below_alloc | apply pw_below_drewN | apply below_drew1) | exact HB.out)))) (fun q_ h_ => ⟨by have h2_ := h_.2.1; (try simp at h2_); omega, h_.2.2.1⟩))
  clear ho0
  have HSZ := Aside0.mk (show w14.heap.size + 0 ≤ w15.heap.size by have h_ := hb.size; (try simp at h_); omega)
  have nB := Aside0.mk (below_step (by repeat (first | (with_reducible first | exact HB.out | apply below_alloc | apply pw_below_drewN | apply below_drew1) | exact HB.out)) hb)
  have nO3_0 := Aside0.mk (Kd.R_below (by (with_reducible repeat (first | apply Kd.R_alloc | apply Kd.R_drewN | apply Kd.R_drew)); exact O3_0.out) hb)
  have nO5_0 := Aside0.mk (Kd.R_below (by (with_reducible repeat (first | apply Kd.R_alloc | apply Kd.R_drewN | apply Kd.R_drew)); exact O5_0.out) hb)
  have nO14_0 := Aside0.mk (Kd.S_below (by (with_reducible repeat (first | apply Kd.S_alloc | apply Kd.S_drewN | apply Kd.S_drew)); exact O14_0.out) hb)
  have nBA0 := Aside0.mk (blk_below (g := w.heap.size) (o := .cells #[.int .i64 a0_0, .int .i64 a0_1, .slice A0_2 l0_2.length c0_2] 24 (0, 0)) (by (with_reducible repeat (first | refine blk_drewN ?_ _ | refine blk_drew ?_ | refine blk_alloc ?_ _)); exact BA0.out) hb)
  clear HB O3_0 O5_0 O14_0 BA0
  have HB := nB
  have O3_0 := nO3_0
  have O5_0 := nO5_0
  have O14_0 := nO14_0
  have BA0 := nBA0
  clear nB nO3_0 nO5_0 nO14_0 nBA0
  have Z15 := HSZ
  clear HSZ
  have cBA0_0 : w15.cell? ⟨w.heap.size, 0, none⟩ = some (.int .i64 a0_0) := (blk_cell BA0.out 0).trans rfl
  have cBA0_1 : w15.cell? ⟨w.heap.size, 1, none⟩ = some (.int .i64 a0_1) := (blk_cell BA0.out 1).trans rfl
  have cBA0_2 : w15.cell? ⟨w.heap.size, 2, none⟩ = some (.slice A0_2 l0_2.length c0_2) := (blk_cell BA0.out 2).trans rfl
  have O15_0 := NO15_0
  clear NO15_0
  clear O14_0
  go_wp2_with fail
  clear cBA0_0 cBA0_1 cBA0_2
  refine (laws_eqIntS.calls ke0 _ _ r0 _ _ r0 true _ (Kd.R_reads' (by (with_reducible repeat (first | apply Kd.R_alloc | apply Kd.R_drewN | apply Kd.R_drew)); exact O15_0.out)).2.2 (Kd.R_reads' O15_0.out).2.1 (Kd.R_reads' (by (with_reducible repeat (first | apply Kd.R_alloc | apply Kd.R_drewN | apply Kd.R_drew)); exact O3_0.out)).2.2 (Kd.R_reads' O3_0.out).2.1 hke0).mono ?_
  rintro e w16 ⟨rfl, hd⟩
  have hb := drawn_below hd
  clear hd
  have HSZ := Aside0.mk (show w15.heap.size + 0 ≤ w16.heap.size by have h_ := hb.size; (try simp at h_); omega)
  have nB := Aside0.mk (below_step (by repeat (first | (with_reducible first | exact HB.out | apply below_alloc | apply pw_below_drewN | apply below_drew1) | exact HB.out)) hb)
  have nO3_0 := Aside0.mk (Kd.R_below (by (with_reducible repeat (first | apply Kd.R_alloc | apply Kd.R_drewN | apply Kd.R_drew)); exact O3_0.out) hb)
  have nO5_0 := Aside0.mk (Kd.R_below (by (with_reducible repeat (first | apply Kd.R_alloc | apply Kd.R_drewN | apply Kd.R_drew)); exact O5_0.out) hb)
  have nO15_0 := Aside0.mk (Kd.R_below (by (with_reducible repeat (first | apply Kd.R_alloc | apply Kd.R_drewN | apply Kd.R_drew)); exact O15_0.out) hb)
  have nBA0 := Aside0.mk (blk_below (g := w.heap.size) (o := .cells #[.int .i64 a0_0, .int .i64 a0_1, .slice A0_2 l0_2.length c0_2] 24 (0, 0)) (by (with_reducible repeat (first | refine blk_drewN ?_ _ | refine blk_drew ?_ | refine blk_alloc ?_ _)); exact BA0.out) hb)
  clear HB O3_0 O5_0 O15_0 BA0
  have HB := nB
  have O3_0 := nO3_0
  have O5_0 := nO5_0
  have O15_0 := nO15_0
  have BA0 := nBA0
  clear nB nO3_0 nO5_0 nO15_0 nBA0
  have Z16 := HSZ
  clear HSZ
  have cBA0_0 : w16.cell? ⟨w.heap.size, 0, none⟩ = some (.int .i64 a0_0) := (blk_cell BA0.out 0).trans rfl
  have cBA0_1 : w16.cell? ⟨w.heap.size, 1, none⟩ = some (.int .i64 a0_1) := (blk_cell BA0.out 1).trans rfl
  have cBA0_2 : w16.cell? ⟨w.heap.size, 2, none⟩ = some (.slice A0_2 l0_2.length c0_2) := (blk_cell BA0.out 2).trans rfl
  go_wp2_with fail
  clear cBA0_0 cBA0_1 cBA0_2
  have CH := fun A_ c_ w_ hr_ hc_ => heldIntS_calls  A_ c_ r0 (1) w_ hr_ hc_ (by omega) (by have := br0; omega)
  rw [← Smm0.out] at CH
  refine (CH _ _ _ (Kd.R_reads' (by (with_reducible repeat (first | apply Kd.R_alloc | apply Kd.R_drewN | apply Kd.R_drew)); exact O5_0.out)).2.2 (Kd.R_reads' O5_0.out).2.1).mono ?_
  rintro e w17 ⟨rfl, hb⟩
  clear CH
  have HSZ := Aside0.mk (show w16.heap.size + 0 ≤ w17.heap.size by have h_ := hb.size; (try simp at h_); omega)
  have nB := Aside0.mk (below_step (by repeat (first | (with_reducible first | exact HB.out | apply below_alloc | apply pw_below_drewN | apply below_drew1) | exact HB.out)) hb)
  have nO3_0 := Aside0.mk (Kd.R_below (by (with_reducible repeat (first | apply Kd.R_alloc | apply Kd.R_drewN | apply Kd.R_drew)); exact O3_0.out) hb)
  have nO5_0 := Aside0.mk (Kd.R_below (by (with_reducible repeat (first | apply Kd.R_alloc | apply Kd.R_drewN | apply Kd.R_drew)); exact O5_0.out) hb)
  have nO15_0 := Aside0.mk (Kd.R_below (by (with_reducible repeat (first | apply Kd.R_alloc | apply Kd.R_drewN | apply Kd.R_drew)); exact O15_0.out) hb)
  have nBA0 := Aside0.mk (blk_below (g := w.heap.size) (o := .cells #[.int .i64 a0_0, .int .i64 a0_1, .slice A0_2 l0_2.length c0_2] 24 (0, 0)) (by (with_reducible repeat (first | refine blk_drewN ?_ _ | refine blk_drew ?_ | refine blk_alloc ?_ _)); exact BA0.out) hb)
  clear HB O3_0 O5_0 O15_0 BA0
  have HB := nB
  have O3_0 := nO3_0
  have O5_0 := nO5_0
  have O15_0 := nO15_0
  have BA0 := nBA0
  clear nB nO3_0 nO5_0 nO15_0 nBA0
  have Z17 := HSZ
  clear HSZ
  have cBA0_0 : w17.cell? ⟨w.heap.size, 0, none⟩ = some (.int .i64 a0_0) := (blk_cell BA0.out 0).trans rfl
  have cBA0_1 : w17.cell? ⟨w.heap.size, 1, none⟩ = some (.int .i64 a0_1) := (blk_cell BA0.out 1).trans rfl
  have cBA0_2 : w17.cell? ⟨w.heap.size, 2, none⟩ = some (.slice A0_2 l0_2.length c0_2) := (blk_cell BA0.out 2).trans rfl
  go_wp2
  go_ret
  exact ⟨rfl, by repeat (first | (with_reducible first | exact HB.out | apply below_alloc | apply pw_below_drewN | apply below_drew1) | exact HB.out)⟩
end Go.Proofs.Ytohbdjdjjbieeaa.P

/-! LawFnExactReachedOf -/
/- Proved: for all arguments ReachedOf of the program returns what ReachedOf of the reference returns; it leaves its arguments as they were, and shares no memory. No condition. -/
namespace Go.Proofs.Ytohbdjdjjbieeaa.fnExactReachedOf
open Go.ChangeShapes Go.WideShapes Go.ChangeAt Go.RowKit
open Go.ChangeMaps (open_string shut_string)
set_option linter.unusedVariables false
theorem own : ownKnob Try.prog.godebug = none := by kernel_rfl
theorem laidOut : laidOutB Try.prog = true := by kernel_rfl
set_option maxRecDepth 100000 in
theorem lifted (os : Os) (started : os.Started) (H : Type) (enc : TypeId × Value → H) :
    ReturnsInHanded {} Try.checked os 4 .any (Rows.fnExactReachedOfSpec.pre6 enc Try.prog Try.f4 Rows.fnExactReachedOfRow.domain false) (Rows.fnExactReachedOfSpec.post enc Try.prog Try.f4 false true false false) := by
  refine returnsInHanded_of_change_sized (C := Try.checked) own started (by kernel_rfl) Try.func4
    (ChangeSpec.witness6 (enc := enc) (C := Try.checked) false ⟨#[], #[.agg #[.int .i64 0, .int .i64 0, .slice none 0 0]], []⟩ 8 (by kernel_rfl) (by kernel_rfl) (by kernel_rfl) (by kernel_rfl)) ?_
  intro W base args ds gs before hval0 hW hcnd hsz0 _
  have hval : ∀ (j : Nat) t v, Try.f4.params[j]? = some t → args[j]? = some v → Value.okWide Try.prog W .any base t v := hval0
  have hW' := hW
  obtain ⟨p, q, hA0, hV, rfl, hfz, hnd⟩ := hW
  have hA : DataW.TrodAll enc Try.prog W 0 (fun _ => true) true Try.f4.params.toList args.toList ds p := hA0
  rw [Try.params4] at hA hval
  obtain ⟨v0, vs0, d0, ds0, p0, q0, hargs, rfl, rfl, h0, r0⟩ := trodAll_cons hA
  obtain ⟨rfl, rfl, rfl⟩ := trodAll_nil r0
  obtain rfl : args = #[v0] := by cases args; simp_all
  obtain ⟨rfl, rfl⟩ := trodVars_none hV
  have lt0 : ∀ x ∈ p0, x.block < W.heap.size := by obtain ⟨m, hm⟩ := h0; exact DataW.trod_lt m _ _ _ hm
  have k0 := h0
  obtain ⟨a0_0, a0_1, A0_2, c0_2, l0_2, rfl, hc0_2, hr0_2⟩ := Open.open_grammar (hval 0 24 v0 rfl rfl) h0
  clear hA0 hval0 hsz0
  refine (P.holds_FnExactReachedOf W a0_0 a0_1 A0_2 c0_2 l0_2 hr0_2 hc0_2).mono fun e W' ⟨he, bel⟩ => ?_
  subst he
  exact ⟨_, rfl, _, _, _, [], _, [], hW', trodAll_mk1 (shut_bool Try.underlying4 _), (trodAll_cons_mk (Below.trod laidOut (by kernel_rfl) (of_decide_eq_true (by kernel_rfl)) k0 bel lt0) trodAll_mk0), rfl, bel.frame _, fun h => by cases h⟩
theorem over : Rows.fnExactReachedOfRow.holds Try.pinned (OpenSpec.ofChange Rows.fnExactReachedOfSpec) :=
  OpenClaim.holds_of_wide 4 Try.f4 rfl rfl rfl rfl rfl rfl rfl ⟨rfl, rfl, rfl, rfl, rfl⟩ rfl rfl rfl rfl rfl (by kernel_rfl) Try.func4 (by kernel_rfl)
    (of_decide_eq_true (by kernel_rfl)) (by unfold Func.isWrapper; first | (rw [if_pos (by decide +kernel)]; kernel_rfl) | (rw [if_neg (by decide +kernel)]; exact ⟨rfl, rfl⟩))
    (fun os started H enc _ => lifted os started H enc)
theorem proved : Rows.FnExactReachedOfSaid := over
#print axioms proved
end Go.Proofs.Ytohbdjdjjbieeaa.fnExactReachedOf
namespace Go.Proofs.Ytohbdjdjjbieeaa
/-- The row, under a short name, for the claim. -/
theorem fnExactReachedOf_holds : Rows.FnExactReachedOfSaid := fnExactReachedOf.proved
end Go.Proofs.Ytohbdjdjjbieeaa

