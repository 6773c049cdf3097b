/- A part of the proof of the law FnExactGrowingOf. -/
import Derived.Test.YtohbdjdjjbieeaaK0
import Derived.Test.YtohbdjdjjbieeaaQFnExactGrowingOfp0
import Derived.Test.YtohbdjdjjbieeaaB1
import Derived.Test.YtohbdjdjjbieeaaB2
/-! F45 -/
namespace Go.Proofs.Ytohbdjdjjbieeaa.P
open Go.RowKit Go.Proofs.YtohbdjdjjbieeaaW.PrintWords Go.Proofs.YtohbdjdjjbieeaaW.PrintLast Go.Proofs.YtohbdjdjjbieeaaW.PrintMore
attribute [local go_sem] max2_int min2_int max_two min_two max_three min_three max_four min_four   -- for this text's walks alone
set_option linter.unusedVariables false
set_option linter.unusedSimpArgs false

/-! ### spec_l3Close: function 45 -/
mutual
def spec_l3Close.l0 : Nat → Bool → List Int → Bool → Int → Int → List (S47) → Option (List Int)
  | 0, _, _, _, _, _, _ => none
  | k + 1, x1, x5, x6, x102000, x102001, x102002 => if x6 = true then (spec_l3Close.l1 k x1 x5 false x102002 (x102002.length : Int) 0 x102000 x102001 x102002) else (some x5)
def spec_l3Close.l1 : Nat → Bool → List Int → Bool → List (S47) → Int → Int → Int → Int → List (S47) → Option (List Int)
  | 0, _, _, _, _, _, _, _, _, _ => none
  | k + 1, x1, x5, x6, x14, x15, x16, x102000, x102001, x102002 => if x16 < x15 then (if 0 ≤ x16 then (if x16 < (x14.length : Int) then ((spec_l1Has.f k x5 ((rd_T47 x14 x16).f0)).bind fun t104 => (spec_l3Close.l2 k x1 x5 x6 (!t104) x14 x15 x16 ((rd_T47 x14 x16).f1) (((rd_T47 x14 x16).f1).length : Int) 0 x102000 x102001 x102002 ((rd_T47 x14 x16).f0) ((rd_T47 x14 x16).f1))) else (none)) else (none)) else (spec_l3Close.l0 k x1 x5 x6 x102000 x102001 x102002)
def spec_l3Close.l2 : Nat → Bool → List Int → Bool → Bool → List (S47) → Int → Int → List Int → Int → Int → Int → Int → List (S47) → Int → List Int → Option (List Int)
  | 0, _, _, _, _, _, _, _, _, _, _, _, _, _, _, _ => none
  | k + 1, x1, x5, x6, x9, x14, x15, x16, x26, x27, x28, x102000, x102001, x102002, x104000, x104001 => if x28 < x27 then (if 0 ≤ x28 then (if x28 < (x26.length : Int) then (if x9 = true then (if (rd x26 x28) < 0 then (if x1 = true then (spec_l3Close.l2 k x1 x5 x6 true x14 x15 x16 x26 x27 (wrap64 (x28 + 1)) x102000 x102001 x102002 x104000 x104001) else (if (rd x26 x28) ≥ 0 then ((spec_l1Has.f k x5 (rd x26 x28)).bind fun t106 => (spec_l3Close.l2 k x1 x5 x6 t106 x14 x15 x16 x26 x27 (wrap64 (x28 + 1)) x102000 x102001 x102002 x104000 x104001)) else (spec_l3Close.l2 k x1 x5 x6 false x14 x15 x16 x26 x27 (wrap64 (x28 + 1)) x102000 x102001 x102002 x104000 x104001))) else (if (rd x26 x28) ≥ 0 then ((spec_l1Has.f k x5 (rd x26 x28)).bind fun t107 => (spec_l3Close.l2 k x1 x5 x6 t107 x14 x15 x16 x26 x27 (wrap64 (x28 + 1)) x102000 x102001 x102002 x104000 x104001)) else (spec_l3Close.l2 k x1 x5 x6 false x14 x15 x16 x26 x27 (wrap64 (x28 + 1)) x102000 x102001 x102002 x104000 x104001))) else (spec_l3Close.l2 k x1 x5 x6 false x14 x15 x16 x26 x27 (wrap64 (x28 + 1)) x102000 x102001 x102002 x104000 x104001)) else (none)) else (none)) else (if x9 = true then ((spec_l1Put.f k x5 x104000).bind fun t108 => (spec_l3Close.l1 k x1 t108 true x14 x15 (wrap64 (x16 + 1)) x102000 x102001 x102002)) else (spec_l3Close.l1 k x1 x5 x6 x14 x15 (wrap64 (x16 + 1)) x102000 x102001 x102002))
end
def spec_l3Close.f (k : Nat) (a0_0 : Int) (a0_1 : Int) (l0_2 : List (S47)) (a1 : Bool) : Option (List Int) := spec_l3Close.l0 k a1 ([] : List Int) true a0_0 a0_1 l0_2
theorem spec_l3Close.mono_l : ∀ k, (∀ y0 y1 y2 y3 y4 y5, LeO (spec_l3Close.l0 k y0 y1 y2 y3 y4 y5) (spec_l3Close.l0 (k + 1) y0 y1 y2 y3 y4 y5)) ∧ (∀ y0 y1 y2 y3 y4 y5 y6 y7 y8, LeO (spec_l3Close.l1 k y0 y1 y2 y3 y4 y5 y6 y7 y8) (spec_l3Close.l1 (k + 1) y0 y1 y2 y3 y4 y5 y6 y7 y8)) ∧ (∀ y0 y1 y2 y3 y4 y5 y6 y7 y8 y9 y10 y11 y12 y13 y14, LeO (spec_l3Close.l2 k y0 y1 y2 y3 y4 y5 y6 y7 y8 y9 y10 y11 y12 y13 y14) (spec_l3Close.l2 (k + 1) y0 y1 y2 y3 y4 y5 y6 y7 y8 y9 y10 y11 y12 y13 y14))
  | 0 => ⟨fun _ _ _ _ _ _ r h => by simp [spec_l3Close.l0] at h, fun _ _ _ _ _ _ _ _ _ r h => by simp [spec_l3Close.l1] at h, fun _ _ _ _ _ _ _ _ _ _ _ _ _ _ _ r h => by simp [spec_l3Close.l2] at h⟩
  | k + 1 => by
    obtain ⟨ih0, ih1, ih2⟩ := spec_l3Close.mono_l k
    refine ⟨?_, ?_, ?_⟩
    · intro y0 y1 y2 y3 y4 y5
      unfold spec_l3Close.l0
      repeat' first
      | (with_reducible exact ih0 _ _ _ _ _ _)
      | (with_reducible exact ih1 _ _ _ _ _ _ _ _ _)
      | (with_reducible exact ih2 _ _ _ _ _ _ _ _ _ _ _ _ _ _ _)
      | (with_reducible exact spec_l1Has.mono _ _ _)
      | (with_reducible exact spec_l1Put.mono _ _ _)
      | (with_reducible exact LeO.refl _)
      | (with_reducible exact LeO.none _)
      | (with_reducible refine LeO.ite ?_ ?_)
      | (with_reducible refine LeO.bind ?_ (fun _ => ?_))
      | exact ih0 _ _ _ _ _ _
      | exact ih1 _ _ _ _ _ _ _ _ _
      | exact ih2 _ _ _ _ _ _ _ _ _ _ _ _ _ _ _
      | exact spec_l1Has.mono _ _ _
      | exact spec_l1Put.mono _ _ _
      | exact LeO.none _
      | refine LeO.ite ?_ ?_
      | refine LeO.bind ?_ (fun _ => ?_)
    · intro y0 y1 y2 y3 y4 y5 y6 y7 y8
      unfold spec_l3Close.l1
      repeat' first
      | (with_reducible exact ih0 _ _ _ _ _ _)
      | (with_reducible exact ih1 _ _ _ _ _ _ _ _ _)
      | (with_reducible exact ih2 _ _ _ _ _ _ _ _ _ _ _ _ _ _ _)
      | (with_reducible exact spec_l1Has.mono _ _ _)
      | (with_reducible exact spec_l1Put.mono _ _ _)
      | (with_reducible exact LeO.refl _)
      | (with_reducible exact LeO.none _)
      | (with_reducible refine LeO.ite ?_ ?_)
      | (with_reducible refine LeO.bind ?_ (fun _ => ?_))
      | exact ih0 _ _ _ _ _ _
      | exact ih1 _ _ _ _ _ _ _ _ _
      | exact ih2 _ _ _ _ _ _ _ _ _ _ _ _ _ _ _
      | exact spec_l1Has.mono _ _ _
      | exact spec_l1Put.mono _ _ _
      | exact LeO.none _
      | refine LeO.ite ?_ ?_
      | refine LeO.bind ?_ (fun _ => ?_)
    · intro y0 y1 y2 y3 y4 y5 y6 y7 y8 y9 y10 y11 y12 y13 y14
      unfold spec_l3Close.l2
      repeat' first
      | (with_reducible exact ih0 _ _ _ _ _ _)
      | (with_reducible exact ih1 _ _ _ _ _ _ _ _ _)
      | (with_reducible exact ih2 _ _ _ _ _ _ _ _ _ _ _ _ _ _ _)
      | (with_reducible exact spec_l1Has.mono _ _ _)
      | (with_reducible exact spec_l1Put.mono _ _ _)
      | (with_reducible exact LeO.refl _)
      | (with_reducible exact LeO.none _)
      | (with_reducible refine LeO.ite ?_ ?_)
      | (with_reducible refine LeO.bind ?_ (fun _ => ?_))
      | exact ih0 _ _ _ _ _ _
      | exact ih1 _ _ _ _ _ _ _ _ _
      | exact ih2 _ _ _ _ _ _ _ _ _ _ _ _ _ _ _
      | exact spec_l1Has.mono _ _ _
      | exact spec_l1Put.mono _ _ _
      | exact LeO.none _
      | refine LeO.ite ?_ ?_
      | refine LeO.bind ?_ (fun _ => ?_)
theorem spec_l3Close.mono : ∀ a0 a1 a2 a3 k, LeO (spec_l3Close.f k a0 a1 a2 a3) (spec_l3Close.f (k + 1) a0 a1 a2 a3) := by
  intro a0 a1 a2 a3 k
  obtain ⟨ih0, ih1, ih2⟩ := spec_l3Close.mono_l k
  unfold spec_l3Close.f
  repeat' first
      | (with_reducible exact ih0 _ _ _ _ _ _)
      | (with_reducible exact ih1 _ _ _ _ _ _ _ _ _)
      | (with_reducible exact ih2 _ _ _ _ _ _ _ _ _ _ _ _ _ _ _)
      | (with_reducible exact spec_l1Has.mono _ _ _)
      | (with_reducible exact spec_l1Put.mono _ _ _)
      | (with_reducible exact LeO.refl _)
      | (with_reducible exact LeO.none _)
      | (with_reducible refine LeO.ite ?_ ?_)
      | (with_reducible refine LeO.bind ?_ (fun _ => ?_))
      | exact ih0 _ _ _ _ _ _
      | exact ih1 _ _ _ _ _ _ _ _ _
      | exact ih2 _ _ _ _ _ _ _ _ _ _ _ _ _ _ _
      | exact spec_l1Has.mono _ _ _
      | exact spec_l1Put.mono _ _ _
      | exact LeO.none _
      | refine LeO.ite ?_ ?_
      | refine LeO.bind ?_ (fun _ => ?_)
set_option maxHeartbeats 8000000 in
set_option maxRecDepth 100000 in
theorem spec_l3Close.calls (k : Nat) (a0_0 : Int) (a0_1 : Int) (A0_2 : Option Addr) (c0_2 : Nat) (l0_2 : List (S47)) (a1 : Bool) (r : List Int) (w : World) (hr0_2 : Kd.C k47 w A0_2 l0_2.length l0_2) (hc0_2 : l0_2.length ≤ c0_2) (h : spec_l3Close.f k a0_0 a0_1 l0_2 a1 = some r) :
    Calls Try.prog 45 #[.agg #[.int .i64 a0_0, .int .i64 a0_1, .slice A0_2 l0_2.length c0_2], .bool a1] w fun e w' => ∃ v0_ : Value, e = .returned (v0_) ∧ Kd.R (Kd.int .i64) 3 w' w.heap.size (fun _ => True) v0_ r ∧ Below w.heap.size w w' := by
  have hu30 := Try.underlying30
  have hu47 := Try.underlying47
  have HR0_2 := Aside0.mk hr0_2
  have HC0_2 := Aside0.mk hc0_2
  clear hr0_2 hc0_2
  have HB := Aside0.mk (Below.refl w.heap.size w)
  have H : (spec_l3Close.l0 k a1 ([] : List Int) true a0_0 a0_1 l0_2) = some r := h
  clear h
  have H' := Aside0.mk H
  clear H
  go_enter Try.func45, Try.ntmps45
  go_wp2_with (first | ((with_reducible refine gate_dst (N := 2) rfl ?_); refine box_event ?hg (N := 2) ?hd (cs := #[.int .i64 a0_0, .int .i64 a0_1, .slice A0_2 l0_2.length c0_2]) (t := 30) ?hr ?_; (case hd => rfl); (case hg => rfl); (case hr => first | (go_simp; done) | (go_simp; rfl)); intro gb101 hg w3 hbox hb; have n0_ := Aside0.mk (below_step (by repeat (first | (with_reducible first | exact HB.out | apply below_alloc | apply pw_below_drewN | apply below_drew1) | exact HB.out)) hb); have n1_ := Aside0.mk (hbox); have n2_ := Aside0.mk ((by rw [hg]; exact (below_size (by repeat (first | (with_reducible first | exact HB.out | apply below_alloc | apply pw_below_drewN | apply below_drew1) | exact HB.out))) : w.heap.size ≤ gb101)); have n3_ := Aside0.mk ((by rw [hg]; exact (below_size (by repeat (first | (with_reducible first | exact HB.out | apply below_alloc | apply pw_below_drewN | apply below_drew1) | exact HB.out))) : w.heap.size ≤ gb101)); clear HB; have HB := n0_; have BK101 := n1_; have GW101 := n2_; have GE101 := n3_; clear n0_ n1_ n2_ n3_; clear hb hbox hg))
  go_loopg [5, 6] k (fun kq v5 v6 w' => ∃ (x5_1 : List Int) (x6_1 : Bool), v6 = .bool x6_1 ∧ Aside0 (spec_l3Close.l0 kq a1 x5_1 x6_1 a0_0 a0_1 l0_2 = some r) ∧ Aside0 (kq ≤ k) ∧ Aside0 (Kd.R (Kd.int .i64) 3 w' w.heap.size (fun _ => True) v5 x5_1) ∧ Aside0 (w'.heap[gb101]? = some (.cells #[.int .i64 a0_0, .int .i64 a0_1, (.slice A0_2 l0_2.length c0_2)] 30 (0, 0))) ∧ Aside0 (Below w.heap.size w w'))
  case atStart => exact ⟨(([] : List Int)), (true), (by first | rfl | (simp; done) | (simp [*]; done)), H', ⟨Nat.le_refl _⟩, ⟨by first | exact Kd.R_nil _ _ _ _ _ | exact Kd.N_nil _ _ _ _ _ | exact Kd.V_nil _ _ _ _ _ | exact Kd.Q_nil _ _ _ _ _ | exact Kd.S_nil _ _ _ _ _⟩, ⟨by (with_reducible repeat (first | refine blk_drewN ?_ _ | refine blk_drew ?_ | refine blk_alloc ?_ _)); exact BK101.out⟩, ⟨by repeat (first | (with_reducible first | exact HB.out | apply below_alloc | apply pw_below_drewN | apply below_drew1 | refine below_set ?_ GE101.out) | exact HB.out)⟩⟩
  case round =>
    clear H'
    try clear p2
    obtain ⟨x5_1, x6_1, rfl, HA, HK1, HO_5, BK101, HB⟩ := hrel
    cases gk with
    | zero => exact absurd HA.out (by simp [spec_l3Close.l0])
    | succ k1 =>
      have H := HA.out
      clear HA
      simp only [spec_l3Close.l0] at H
      by_cases c4 : x6_1 = true
      · subst c4
        have H1 : (spec_l3Close.l1 k1 a1 x5_1 false l0_2 (l0_2.length : Int) 0 a0_0 a0_1 l0_2) = some r := by rw [if_pos rfl] at H; exact H
        clear H
        have H := H1
        clear H1
        have H' := Aside0.mk H
        clear H
        have hcz5_0 : wr.cell? ⟨gb101, 0, none⟩ = some (.int .i64 a0_0) := (blk_cell BK101.out 0).trans rfl
        have hcz5_1 : wr.cell? ⟨gb101, 1, none⟩ = some (.int .i64 a0_1) := (blk_cell BK101.out 1).trans rfl
        have hcz5_2 : wr.cell? ⟨gb101, 2, none⟩ = some (.slice A0_2 l0_2.length c0_2) := (blk_cell BK101.out 2).trans rfl
        have hfz5_0 := blk_frozen BK101.out 0
        have hfz5_1 := blk_frozen BK101.out 1
        have hfz5_2 := blk_frozen BK101.out 2
        go_wp2
        go_loopg [5, 6, 16] k1 (fun kq v5 v6 v16 w' => ∃ (x5_2 : List Int) (x6_2 : Bool) (x16_2 : Int), v6 = .bool x6_2 ∧ v16 = .int .i64 x16_2 ∧ Aside0 (spec_l3Close.l1 kq a1 x5_2 x6_2 l0_2 (l0_2.length : Int) x16_2 a0_0 a0_1 l0_2 = some r) ∧ Aside0 (kq ≤ k1) ∧ Aside0 (Kd.R (Kd.int .i64) 3 w' w.heap.size (fun _ => True) v5 x5_2) ∧ Aside0 (w'.heap[gb101]? = some (.cells #[.int .i64 a0_0, .int .i64 a0_1, (.slice A0_2 l0_2.length c0_2)] 30 (0, 0))) ∧ Aside0 (Below w.heap.size w w'))
        case atStart => exact ⟨(x5_1), (false), (0), (by first | rfl | (simp; done) | (simp [*]; done)), (by first | rfl | (simp; done) | (simp [*]; done)), H', ⟨Nat.le_refl _⟩, ⟨by (with_reducible repeat (first | apply Kd.R_alloc | apply Kd.R_drewN | apply Kd.R_drew)); exact HO_5.out⟩, ⟨by (with_reducible repeat (first | refine blk_drewN ?_ _ | refine blk_drew ?_ | refine blk_alloc ?_ _)); exact BK101.out⟩, ⟨by repeat (first | (with_reducible first | exact HB.out | apply below_alloc | apply pw_below_drewN | apply below_drew1 | refine below_set ?_ GE101.out) | exact HB.out)⟩⟩
        case round =>
          clear H'
          try clear p2
          try clear c4
          try clear hcz5_0
          try clear hcz5_1
          try clear hcz5_2
          try clear hfz5_0
          try clear hfz5_1
          try clear hfz5_2
          try clear p2
          obtain ⟨x5_2, x6_2, x16_2, rfl, rfl, HA, HK2, HO_5, BK101, HB⟩ := hrel
          cases gk with
          | zero => exact absurd HA.out (by simp [spec_l3Close.l1])
          | succ k2 =>
            have H := HA.out
            clear HA
            simp only [spec_l3Close.l1] at H
            by_cases c6 : x16_2 < (l0_2.length : Int)
            · rw [if_pos c6] at H
              have c6b0 : decide (x16_2 < (l0_2.length : Int)) = true := decide_eq_true c6
              clear c6
              by_cases c7 : 0 ≤ x16_2
              · rw [if_pos c7] at H
                have c7b0 : decide (0 ≤ x16_2) = true := decide_eq_true c7
                clear c7
                by_cases c8 : x16_2 < (l0_2.length : Int)
                · rw [if_pos c8] at H
                  have c8b0 : decide (x16_2 < (l0_2.length : Int)) = true := decide_eq_true c8
                  clear c8
                  replace H := Option.bind_eq_some_iff.mp H
                  obtain ⟨t104, A90, H⟩ := H
                  replace H : (spec_l3Close.l2 k2 a1 x5_2 x6_2 (!t104) l0_2 (l0_2.length : Int) x16_2 ((rd_T47 l0_2 x16_2).f1) (((rd_T47 l0_2 x16_2).f1).length : Int) 0 a0_0 a0_1 l0_2 ((rd_T47 l0_2 x16_2).f0) ((rd_T47 l0_2 x16_2).f1)) = some r := H
                  have A9 := Aside0.mk A90
                  clear A90
                  have H' := Aside0.mk H
                  clear H
                  have p102 : 0 ≤ (x16_2 : Int) := of_decide_eq_true (by first | (with_reducible assumption) | assumption)
                  have q102 : x16_2 < (l0_2.length : Int) := of_decide_eq_true (by first | (with_reducible assumption) | assumption)
                  obtain ⟨ad102, A102_1, c102_1, e102, hx102_0, hx102_1, hl102_1, hi102_1⟩ := at_T47 HR0_2.out x16_2 p102 q102
                  cases e102
                  replace hx102_0 := (HB.out.cell (World.block_lt_of_cell? w _ hx102_0)).trans hx102_0
                  replace hx102_1 := (HB.out.cell (World.block_lt_of_cell? w _ hx102_1)).trans hx102_1
                  have HR102_1 := Aside0.mk hi102_1
                  have HC102_1 := Aside0.mk hl102_1
                  clear hi102_1 hl102_1
                  replace p102 := eq_true p102
                  replace q102 := eq_true q102
                  go_wp2_with (first | ((with_reducible refine gate_dst (N := 8) rfl ?_); refine box_event ?hg (N := 8) ?hd (cs := #[.int .i64 0, .slice none 0 0]) (t := 47) ?hr ?_; (case hd => rfl); (case hg => rfl); (case hr => first | (go_simp; done) | (go_simp; rfl)); intro gb103 hg w10 hbox hb; have n0_ := Aside0.mk (Kd.R_below (by (with_reducible repeat (first | apply Kd.R_alloc | apply Kd.R_drewN | apply Kd.R_drew)); exact HO_5.out) hb); have n1_ := Aside0.mk (blk_below (g := gb101) (o := .cells #[.int .i64 a0_0, .int .i64 a0_1, .slice (some ad102) l0_2.length c0_2] 30 (0, 0)) (by (with_reducible repeat (first | refine blk_drewN ?_ _ | refine blk_drew ?_ | refine blk_alloc ?_ _)); exact BK101.out) hb); have n2_ := Aside0.mk (below_step (by repeat (first | (with_reducible first | exact HB.out | apply below_alloc | apply pw_below_drewN | apply below_drew1 | refine below_set ?_ GE101.out) | exact HB.out)) hb); have n3_ := Aside0.mk (hbox); have n4_ := Aside0.mk ((by rw [hg]; exact (below_size (by repeat (first | (with_reducible first | exact HB.out | apply below_alloc | apply pw_below_drewN | apply below_drew1 | refine below_set ?_ GE101.out) | exact HB.out))) : w.heap.size ≤ gb103)); have n5_ := Aside0.mk ((by rw [hg]; exact (below_size (by repeat (first | (with_reducible first | exact HB.out | apply below_alloc | apply pw_below_drewN | apply below_drew1 | refine below_set ?_ GE101.out) | exact HB.out))) : w.heap.size ≤ gb103)); have n6_ := Aside0.mk ((by rw [hg]; exact Nat.ne_of_lt (blk_lt (g := gb101) (o := .cells #[.int .i64 a0_0, .int .i64 a0_1, .slice (some ad102) l0_2.length c0_2] 30 (0, 0)) (by (with_reducible repeat (first | refine blk_drewN ?_ _ | refine blk_drew ?_ | refine blk_alloc ?_ _)); exact BK101.out)) : gb101 ≠ gb103)); have n7_ := Aside0.mk ((by rw [hg]; exact Nat.ne_of_gt (blk_lt (g := gb101) (o := .cells #[.int .i64 a0_0, .int .i64 a0_1, .slice (some ad102) l0_2.length c0_2] 30 (0, 0)) (by (with_reducible repeat (first | refine blk_drewN ?_ _ | refine blk_drew ?_ | refine blk_alloc ?_ _)); exact BK101.out)) : gb103 ≠ gb101)); clear HO_5; clear BK101; clear HB; have HO_5 := n0_; have BK101 := n1_; have HB := n2_; have BK103 := n3_; have GW103 := n4_; have GE103 := n5_; have NB101_103 := n6_; have NB103_101 := n7_; clear n0_ n1_ n2_ n3_ n4_ n5_ n6_ n7_; clear hb hbox hg; have hnb11 := NB103_101.out; have hnc11 := NB101_103.out; have hcz12_0 : w10.cell? ⟨gb103, 0, none⟩ = some (.int .i64 0) := (blk_cell BK103.out 0).trans rfl; have hcz12_1 : w10.cell? ⟨gb103, 1, none⟩ = some (.slice none 0 0) := (blk_cell BK103.out 1).trans rfl; have hfz12_0 := blk_frozen BK103.out 0; have hfz12_1 := blk_frozen BK103.out 1; obtain ⟨Ao13, co13, eo13⟩ := Kd.R_slice HO_5.out; subst eo13) | ((with_reducible refine gate_callee (f := 66) rfl ?_); refine goesL_ (some 23) rfl rfl Try.func66 (by kernel_rfl) rfl #[.slice Ao13 x5_2.length co13, .int .i64 ((rd_T47 l0_2 x16_2).f0)] rfl (by (try simp only [List.map_toArray, List.map_cons, List.map_nil]); first | done | rfl | (simp only [List.length_drop, List.length_take]; rfl)) ?_; (with_reducible refine (spec_l1Has.calls k2 _ _ x5_2 ((rd_T47 l0_2 x16_2).f0) t104 _ ?side1 ?side2 A9.out).mono ?_); (case side1 => refine (Kd.R_reads' (e := 3) (base := w.heap.size) (ok := fun k_ => True) (n := x5_2.length) (c := co13) ?_).2.2; exact (by (with_reducible repeat (first | apply Kd.R_alloc | apply Kd.R_drewN | apply Kd.R_drew)); exact (Kd.R_mono (Kd.R_far (p := ⟨gb103, 1, none⟩) (Kd.R_far (p := ⟨gb103, 0, none⟩) (Kd.R_types HO_5.out BK103.out (by decide)) (fun _ hk => hk.2) (.int .i64 ((rd_T47 l0_2 x16_2).f0))) (fun _ hk => hk.2) (.slice A102_1 ((rd_T47 l0_2 x16_2).f1).length c102_1)) (fun _ h_ => h_.1)))); (case side2 => exact (Kd.R_reads' HO_5.out).2.1); rintro e w' ⟨rfl, ⟨nd, rfl⟩⟩; refine ⟨_, rfl, ?_⟩))
                  go_loopg [9, 28] k2 (fun kq v9 v28 w' => ∃ (x9_3 : Bool) (x28_3 : Int), v9 = .bool x9_3 ∧ v28 = .int .i64 x28_3 ∧ Aside0 (spec_l3Close.l2 kq a1 x5_2 x6_2 x9_3 l0_2 (l0_2.length : Int) x16_2 ((rd_T47 l0_2 x16_2).f1) (((rd_T47 l0_2 x16_2).f1).length : Int) x28_3 a0_0 a0_1 l0_2 ((rd_T47 l0_2 x16_2).f0) ((rd_T47 l0_2 x16_2).f1) = some r) ∧ Aside0 (kq ≤ k2) ∧ Aside0 (Kd.R (Kd.int .i64) 3 w' w.heap.size (fun _ => True) (.slice Ao13 x5_2.length co13) x5_2) ∧ Aside0 (w'.heap[gb101]? = some (.cells #[.int .i64 a0_0, .int .i64 a0_1, (.slice (some ad102) l0_2.length c0_2)] 30 (0, 0))) ∧ Aside0 (w'.heap[gb103]? = some (.cells #[.int .i64 ((rd_T47 l0_2 x16_2).f0), (.slice A102_1 ((rd_T47 l0_2 x16_2).f1).length c102_1)] 47 (0, 0))) ∧ Aside0 (Below w.heap.size w w'))
                  case atStart => exact ⟨(!t104), (0), (by first | rfl | (simp; done) | (simp [*]; done)), (by first | rfl | (simp; done) | (simp [*]; done)), H', ⟨Nat.le_refl _⟩, ⟨by (with_reducible repeat (first | apply Kd.R_alloc | apply Kd.R_drewN | apply Kd.R_drew)); exact Kd.R_mono (Kd.R_far (p := ⟨gb103, 1, none⟩) (Kd.R_far (p := ⟨gb103, 0, none⟩) (Kd.R_types HO_5.out BK103.out (by decide)) (fun _ hk => hk.2) (.int .i64 ((rd_T47 l0_2 x16_2).f0))) (fun _ hk => hk.2) (.slice A102_1 ((rd_T47 l0_2 x16_2).f1).length c102_1)) (fun _ hk => trivial)⟩, ⟨by (with_reducible repeat (first | refine blk_drewN ?_ _ | refine blk_drew ?_ | refine blk_alloc ?_ _)); refine blk_far ?_ NB101_103.out _; (with_reducible repeat (first | refine blk_drewN ?_ _ | refine blk_drew ?_ | refine blk_alloc ?_ _)); refine blk_far ?_ NB101_103.out _; (with_reducible repeat (first | refine blk_drewN ?_ _ | refine blk_drew ?_ | refine blk_alloc ?_ _)); exact BK101.out⟩, ⟨by (with_reducible repeat (first | refine blk_drewN ?_ _ | refine blk_drew ?_ | refine blk_alloc ?_ _)); refine blk_put (cs := #[.int .i64 ((rd_T47 l0_2 x16_2).f0), .slice none 0 0]) ?_ 1 _ rfl; (with_reducible repeat (first | refine blk_drewN ?_ _ | refine blk_drew ?_ | refine blk_alloc ?_ _)); refine blk_put (cs := #[.int .i64 0, .slice none 0 0]) ?_ 0 _ rfl; (with_reducible repeat (first | refine blk_drewN ?_ _ | refine blk_drew ?_ | refine blk_alloc ?_ _)); exact BK103.out⟩, ⟨by repeat (first | (with_reducible first | exact HB.out | apply below_alloc | apply pw_below_drewN | apply below_drew1 | refine below_set ?_ GE101.out | refine below_set ?_ GE103.out) | exact HB.out)⟩⟩
                  case round =>
                    clear H'
                    try clear c1
                    try clear p1
                    try clear q1
                    try clear hx1
                    try clear p2
                    try clear c4
                    try clear c6
                    try clear c6b0
                    try clear c7
                    try clear c7b0
                    try clear c8
                    try clear c8b0
                    try clear c10
                    try clear p10
                    try clear q10
                    try clear hx10
                    try clear c11
                    try clear hcz12_0
                    try clear hcz12_1
                    try clear hcz5_0
                    try clear hcz5_1
                    try clear hcz5_2
                    try clear hfz12_0
                    try clear hfz12_1
                    try clear hfz5_0
                    try clear hfz5_1
                    try clear hfz5_2
                    try clear hx102_0
                    try clear hx102_1
                    try clear p102
                    try clear p2
                    try clear q102
                    obtain ⟨x9_3, x28_3, rfl, rfl, HA, HK3, HO_5, BK101, BK103, HB⟩ := hrel
                    cases gk with
                    | zero => exact absurd HA.out (by simp [spec_l3Close.l2])
                    | succ k3 =>
                      have H := HA.out
                      clear HA
                      simp only [spec_l3Close.l2] at H
                      by_cases c14 : x28_3 < (((rd_T47 l0_2 x16_2).f1).length : Int)
                      · rw [if_pos c14] at H
                        have c14b0 : decide (x28_3 < (((rd_T47 l0_2 x16_2).f1).length : Int)) = true := decide_eq_true c14
                        clear c14
                        by_cases c15 : 0 ≤ x28_3
                        · rw [if_pos c15] at H
                          have c15b0 : decide (0 ≤ x28_3) = true := decide_eq_true c15
                          clear c15
                          by_cases c16 : x28_3 < (((rd_T47 l0_2 x16_2).f1).length : Int)
                          · rw [if_pos c16] at H
                            have c16b0 : decide (x28_3 < (((rd_T47 l0_2 x16_2).f1).length : Int)) = true := decide_eq_true c16
                            clear c16
                            by_cases c17 : x9_3 = true
                            · subst c17
                              have H1 : (if (rd ((rd_T47 l0_2 x16_2).f1) x28_3) < 0 then (if a1 = true then (spec_l3Close.l2 k3 a1 x5_2 x6_2 true l0_2 (l0_2.length : Int) x16_2 ((rd_T47 l0_2 x16_2).f1) (((rd_T47 l0_2 x16_2).f1).length : Int) (wrap64 (x28_3 + 1)) a0_0 a0_1 l0_2 ((rd_T47 l0_2 x16_2).f0) ((rd_T47 l0_2 x16_2).f1)) else (if (rd ((rd_T47 l0_2 x16_2).f1) x28_3) ≥ 0 then ((spec_l1Has.f k3 x5_2 (rd ((rd_T47 l0_2 x16_2).f1) x28_3)).bind fun t106 => (spec_l3Close.l2 k3 a1 x5_2 x6_2 t106 l0_2 (l0_2.length : Int) x16_2 ((rd_T47 l0_2 x16_2).f1) (((rd_T47 l0_2 x16_2).f1).length : Int) (wrap64 (x28_3 + 1)) a0_0 a0_1 l0_2 ((rd_T47 l0_2 x16_2).f0) ((rd_T47 l0_2 x16_2).f1))) else (spec_l3Close.l2 k3 a1 x5_2 x6_2 false l0_2 (l0_2.length : Int) x16_2 ((rd_T47 l0_2 x16_2).f1) (((rd_T47 l0_2 x16_2).f1).length : Int) (wrap64 (x28_3 + 1)) a0_0 a0_1 l0_2 ((rd_T47 l0_2 x16_2).f0) ((rd_T47 l0_2 x16_2).f1)))) else (if (rd ((rd_T47 l0_2 x16_2).f1) x28_3) ≥ 0 then ((spec_l1Has.f k3 x5_2 (rd ((rd_T47 l0_2 x16_2).f1) x28_3)).bind fun t107 => (spec_l3Close.l2 k3 a1 x5_2 x6_2 t107 l0_2 (l0_2.length : Int) x16_2 ((rd_T47 l0_2 x16_2).f1) (((rd_T47 l0_2 x16_2).f1).length : Int) (wrap64 (x28_3 + 1)) a0_0 a0_1 l0_2 ((rd_T47 l0_2 x16_2).f0) ((rd_T47 l0_2 x16_2).f1))) else (spec_l3Close.l2 k3 a1 x5_2 x6_2 false l0_2 (l0_2.length : Int) x16_2 ((rd_T47 l0_2 x16_2).f1) (((rd_T47 l0_2 x16_2).f1).length : Int) (wrap64 (x28_3 + 1)) a0_0 a0_1 l0_2 ((rd_T47 l0_2 x16_2).f0) ((rd_T47 l0_2 x16_2).f1)))) = some r := by rw [if_pos rfl] at H; exact H
                              clear H
                              have H := H1
                              clear H1
                              by_cases c18 : (rd ((rd_T47 l0_2 x16_2).f1) x28_3) < 0
                              · rw [if_pos c18] at H
                                have c18b0 : decide ((rd ((rd_T47 l0_2 x16_2).f1) x28_3) < 0) = true := decide_eq_true c18
                                clear c18
                                by_cases c19 : a1 = true
                                · subst c19
                                  have H1 : (spec_l3Close.l2 k3 true x5_2 x6_2 true l0_2 (l0_2.length : Int) x16_2 ((rd_T47 l0_2 x16_2).f1) (((rd_T47 l0_2 x16_2).f1).length : Int) (wrap64 (x28_3 + 1)) a0_0 a0_1 l0_2 ((rd_T47 l0_2 x16_2).f0) ((rd_T47 l0_2 x16_2).f1)) = some r := by rw [if_pos rfl] at H; exact H
                                  clear H
                                  have H := H1
                                  clear H1
                                  have H' := Aside0.mk H
                                  clear H
                                  have p105 : 0 ≤ (x28_3 : Int) := of_decide_eq_true (by first | (with_reducible assumption) | assumption)
                                  have q105 : x28_3 < (((rd_T47 l0_2 x16_2).f1).length : Int) := of_decide_eq_true (by first | (with_reducible assumption) | assumption)
                                  obtain ⟨ad105, e105, hx105_0⟩ := Kd.at_int HR102_1.out x28_3 p105 q105
                                  cases e105
                                  replace hx105_0 := (HB.out.cell (World.block_lt_of_cell? w _ hx105_0)).trans hx105_0
                                  replace p105 := eq_true p105
                                  replace q105 := eq_true q105
                                  go_wp2
                                  go_roundg k3
                                  case measure => have := HK1.out; have := HK2.out; have := HK3.out; omega
                                  case rel => exact ⟨(true), (wrap64 (x28_3 + 1)), (by first | rfl | (simp; done) | (simp [*]; done)), (by first | rfl | (simp; done) | (simp [*]; done)), H', ⟨by have := HK1.out; have := HK2.out; have := HK3.out; omega⟩, ⟨by (with_reducible repeat (first | apply Kd.R_alloc | apply Kd.R_drewN | apply Kd.R_drew)); exact HO_5.out⟩, ⟨by (with_reducible repeat (first | refine blk_drewN ?_ _ | refine blk_drew ?_ | refine blk_alloc ?_ _)); exact BK101.out⟩, ⟨by (with_reducible repeat (first | refine blk_drewN ?_ _ | refine blk_drew ?_ | refine blk_alloc ?_ _)); exact BK103.out⟩, ⟨by repeat (first | (with_reducible first | exact HB.out | apply below_alloc | apply pw_below_drewN | apply below_drew1 | refine below_set ?_ GE101.out | refine below_set ?_ GE103.out) | exact HB.out)⟩⟩
                                · replace c19 := Bool.eq_false_iff.mpr c19
                                  subst c19
                                  have H1 : (if (rd ((rd_T47 l0_2 x16_2).f1) x28_3) ≥ 0 then ((spec_l1Has.f k3 x5_2 (rd ((rd_T47 l0_2 x16_2).f1) x28_3)).bind fun t106 => (spec_l3Close.l2 k3 false x5_2 x6_2 t106 l0_2 (l0_2.length : Int) x16_2 ((rd_T47 l0_2 x16_2).f1) (((rd_T47 l0_2 x16_2).f1).length : Int) (wrap64 (x28_3 + 1)) a0_0 a0_1 l0_2 ((rd_T47 l0_2 x16_2).f0) ((rd_T47 l0_2 x16_2).f1))) else (spec_l3Close.l2 k3 false x5_2 x6_2 false l0_2 (l0_2.length : Int) x16_2 ((rd_T47 l0_2 x16_2).f1) (((rd_T47 l0_2 x16_2).f1).length : Int) (wrap64 (x28_3 + 1)) a0_0 a0_1 l0_2 ((rd_T47 l0_2 x16_2).f0) ((rd_T47 l0_2 x16_2).f1))) = some r := by rw [if_neg (show ¬ (false = true) by decide)] at H; exact H
                                  clear H
                                  have H := H1
                                  clear H1
                                  by_cases c20 : (rd ((rd_T47 l0_2 x16_2).f1) x28_3) ≥ 0
                                  · rw [if_pos c20] at H
                                    have c20b0 : decide (0 ≤ (rd ((rd_T47 l0_2 x16_2).f1) x28_3)) = true := decide_eq_true c20
                                    clear c20
                                    replace H := Option.bind_eq_some_iff.mp H
                                    obtain ⟨t106, A210, H⟩ := H
                                    replace H : (spec_l3Close.l2 k3 false x5_2 x6_2 t106 l0_2 (l0_2.length : Int) x16_2 ((rd_T47 l0_2 x16_2).f1) (((rd_T47 l0_2 x16_2).f1).length : Int) (wrap64 (x28_3 + 1)) a0_0 a0_1 l0_2 ((rd_T47 l0_2 x16_2).f0) ((rd_T47 l0_2 x16_2).f1)) = some r := H
                                    have A21 := Aside0.mk A210
                                    clear A210
                                    have H' := Aside0.mk H
                                    clear H
                                    have p105 : 0 ≤ (x28_3 : Int) := of_decide_eq_true (by first | (with_reducible assumption) | assumption)
                                    have q105 : x28_3 < (((rd_T47 l0_2 x16_2).f1).length : Int) := of_decide_eq_true (by first | (with_reducible assumption) | assumption)
                                    obtain ⟨ad105, e105, hx105_0⟩ := Kd.at_int HR102_1.out x28_3 p105 q105
                                    cases e105
                                    replace hx105_0 := (HB.out.cell (World.block_lt_of_cell? w _ hx105_0)).trans hx105_0
                                    replace p105 := eq_true p105
                                    replace q105 := eq_true q105
                                    go_wp2_with (first | (go_at_call 66; (with_reducible refine (spec_l1Has.calls k3 _ _ x5_2 (rd ((rd_T47 l0_2 x16_2).f1) x28_3) t106 _ ?side1 ?side2 A21.out).mono ?_); (case side1 => repeat (first | exact (Kd.R_reads' HO_5.out).2.2 | (with_reducible refine Kd.C_alloc ?_ _) | (with_reducible refine Kd.C_drewN ?_ _) | (with_reducible refine Kd.C_drew ?_))); (case side2 => exact (Kd.R_reads' HO_5.out).2.1); rintro e w' ⟨rfl, ⟨nd, rfl⟩⟩))
                                    go_roundg k3
                                    case measure => have := HK1.out; have := HK2.out; have := HK3.out; omega
                                    case rel => exact ⟨(t106), (wrap64 (x28_3 + 1)), (by first | rfl | (simp; done) | (simp [*]; done)), (by first | rfl | (simp; done) | (simp [*]; done)), H', ⟨by have := HK1.out; have := HK2.out; have := HK3.out; omega⟩, ⟨by (with_reducible repeat (first | apply Kd.R_alloc | apply Kd.R_drewN | apply Kd.R_drew)); exact HO_5.out⟩, ⟨by (with_reducible repeat (first | refine blk_drewN ?_ _ | refine blk_drew ?_ | refine blk_alloc ?_ _)); exact BK101.out⟩, ⟨by (with_reducible repeat (first | refine blk_drewN ?_ _ | refine blk_drew ?_ | refine blk_alloc ?_ _)); exact BK103.out⟩, ⟨by repeat (first | (with_reducible first | exact HB.out | apply below_alloc | apply pw_below_drewN | apply below_drew1 | refine below_set ?_ GE101.out | refine below_set ?_ GE103.out) | exact HB.out)⟩⟩
                                  · rw [if_neg c20] at H
                                    have c20b0 : decide (0 ≤ (rd ((rd_T47 l0_2 x16_2).f1) x28_3)) = false := decide_eq_false c20
                                    clear c20
                                    have H' := Aside0.mk H
                                    clear H
                                    have p105 : 0 ≤ (x28_3 : Int) := of_decide_eq_true (by first | (with_reducible assumption) | assumption)
                                    have q105 : x28_3 < (((rd_T47 l0_2 x16_2).f1).length : Int) := of_decide_eq_true (by first | (with_reducible assumption) | assumption)
                                    obtain ⟨ad105, e105, hx105_0⟩ := Kd.at_int HR102_1.out x28_3 p105 q105
                                    cases e105
                                    replace hx105_0 := (HB.out.cell (World.block_lt_of_cell? w _ hx105_0)).trans hx105_0
                                    replace p105 := eq_true p105
                                    replace q105 := eq_true q105
                                    go_wp2
                                    go_roundg k3
                                    case measure => have := HK1.out; have := HK2.out; have := HK3.out; omega
                                    case rel => exact ⟨(false), (wrap64 (x28_3 + 1)), (by first | rfl | (simp; done) | (simp [*]; done)), (by first | rfl | (simp; done) | (simp [*]; done)), H', ⟨by have := HK1.out; have := HK2.out; have := HK3.out; omega⟩, ⟨by (with_reducible repeat (first | apply Kd.R_alloc | apply Kd.R_drewN | apply Kd.R_drew)); exact HO_5.out⟩, ⟨by (with_reducible repeat (first | refine blk_drewN ?_ _ | refine blk_drew ?_ | refine blk_alloc ?_ _)); exact BK101.out⟩, ⟨by (with_reducible repeat (first | refine blk_drewN ?_ _ | refine blk_drew ?_ | refine blk_alloc ?_ _)); exact BK103.out⟩, ⟨by repeat (first | (with_reducible first | exact HB.out | apply below_alloc | apply pw_below_drewN | apply below_drew1 | refine below_set ?_ GE101.out | refine below_set ?_ GE103.out) | exact HB.out)⟩⟩
                              · rw [if_neg c18] at H
                                have c18b0 : decide ((rd ((rd_T47 l0_2 x16_2).f1) x28_3) < 0) = false := decide_eq_false c18
                                clear c18
                                by_cases c22 : (rd ((rd_T47 l0_2 x16_2).f1) x28_3) ≥ 0
                                · rw [if_pos c22] at H
                                  have c22b0 : decide (0 ≤ (rd ((rd_T47 l0_2 x16_2).f1) x28_3)) = true := decide_eq_true c22
                                  clear c22
                                  replace H := Option.bind_eq_some_iff.mp H
                                  obtain ⟨t107, A230, H⟩ := H
                                  replace H : (spec_l3Close.l2 k3 a1 x5_2 x6_2 t107 l0_2 (l0_2.length : Int) x16_2 ((rd_T47 l0_2 x16_2).f1) (((rd_T47 l0_2 x16_2).f1).length : Int) (wrap64 (x28_3 + 1)) a0_0 a0_1 l0_2 ((rd_T47 l0_2 x16_2).f0) ((rd_T47 l0_2 x16_2).f1)) = some r := H
                                  have A23 := Aside0.mk A230
                                  clear A230
                                  have H' := Aside0.mk H
                                  clear H
                                  have p105 : 0 ≤ (x28_3 : Int) := of_decide_eq_true (by first | (with_reducible assumption) | assumption)
                                  have q105 : x28_3 < (((rd_T47 l0_2 x16_2).f1).length : Int) := of_decide_eq_true (by first | (with_reducible assumption) | assumption)
                                  obtain ⟨ad105, e105, hx105_0⟩ := Kd.at_int HR102_1.out x28_3 p105 q105
                                  cases e105
                                  replace hx105_0 := (HB.out.cell (World.block_lt_of_cell? w _ hx105_0)).trans hx105_0
                                  replace p105 := eq_true p105
                                  replace q105 := eq_true q105
                                  go_wp2_with (first | (go_at_call 66; (with_reducible refine (spec_l1Has.calls k3 _ _ x5_2 (rd ((rd_T47 l0_2 x16_2).f1) x28_3) t107 _ ?side1 ?side2 A23.out).mono ?_); (case side1 => repeat (first | exact (Kd.R_reads' HO_5.out).2.2 | (with_reducible refine Kd.C_alloc ?_ _) | (with_reducible refine Kd.C_drewN ?_ _) | (with_reducible refine Kd.C_drew ?_))); (case side2 => exact (Kd.R_reads' HO_5.out).2.1); rintro e w' ⟨rfl, ⟨nd, rfl⟩⟩))
                                  go_roundg k3
                                  case measure => have := HK1.out; have := HK2.out; have := HK3.out; omega
                                  case rel => exact ⟨(t107), (wrap64 (x28_3 + 1)), (by first | rfl | (simp; done) | (simp [*]; done)), (by first | rfl | (simp; done) | (simp [*]; done)), H', ⟨by have := HK1.out; have := HK2.out; have := HK3.out; omega⟩, ⟨by (with_reducible repeat (first | apply Kd.R_alloc | apply Kd.R_drewN | apply Kd.R_drew)); exact HO_5.out⟩, ⟨by (with_reducible repeat (first | refine blk_drewN ?_ _ | refine blk_drew ?_ | refine blk_alloc ?_ _)); exact BK101.out⟩, ⟨by (with_reducible repeat (first | refine blk_drewN ?_ _ | refine blk_drew ?_ | refine blk_alloc ?_ _)); exact BK103.out⟩, ⟨by repeat (first | (with_reducible first | exact HB.out | apply below_alloc | apply pw_below_drewN | apply below_drew1 | refine below_set ?_ GE101.out | refine below_set ?_ GE103.out) | exact HB.out)⟩⟩
                                · rw [if_neg c22] at H
                                  have c22b0 : decide (0 ≤ (rd ((rd_T47 l0_2 x16_2).f1) x28_3)) = false := decide_eq_false c22
                                  clear c22
                                  have H' := Aside0.mk H
                                  clear H
                                  have p105 : 0 ≤ (x28_3 : Int) := of_decide_eq_true (by first | (with_reducible assumption) | assumption)
                                  have q105 : x28_3 < (((rd_T47 l0_2 x16_2).f1).length : Int) := of_decide_eq_true (by first | (with_reducible assumption) | assumption)
                                  obtain ⟨ad105, e105, hx105_0⟩ := Kd.at_int HR102_1.out x28_3 p105 q105
                                  cases e105
                                  replace hx105_0 := (HB.out.cell (World.block_lt_of_cell? w _ hx105_0)).trans hx105_0
                                  replace p105 := eq_true p105
                                  replace q105 := eq_true q105
                                  go_wp2
                                  go_roundg k3
                                  case measure => have := HK1.out; have := HK2.out; have := HK3.out; omega
                                  case rel => exact ⟨(false), (wrap64 (x28_3 + 1)), (by first | rfl | (simp; done) | (simp [*]; done)), (by first | rfl | (simp; done) | (simp [*]; done)), H', ⟨by have := HK1.out; have := HK2.out; have := HK3.out; omega⟩, ⟨by (with_reducible repeat (first | apply Kd.R_alloc | apply Kd.R_drewN | apply Kd.R_drew)); exact HO_5.out⟩, ⟨by (with_reducible repeat (first | refine blk_drewN ?_ _ | refine blk_drew ?_ | refine blk_alloc ?_ _)); exact BK101.out⟩, ⟨by (with_reducible repeat (first | refine blk_drewN ?_ _ | refine blk_drew ?_ | refine blk_alloc ?_ _)); exact BK103.out⟩, ⟨by repeat (first | (with_reducible first | exact HB.out | apply below_alloc | apply pw_below_drewN | apply below_drew1 | refine below_set ?_ GE101.out | refine below_set ?_ GE103.out) | exact HB.out)⟩⟩
                            · replace c17 := Bool.eq_false_iff.mpr c17
                              subst c17
                              have H1 : (spec_l3Close.l2 k3 a1 x5_2 x6_2 false l0_2 (l0_2.length : Int) x16_2 ((rd_T47 l0_2 x16_2).f1) (((rd_T47 l0_2 x16_2).f1).length : Int) (wrap64 (x28_3 + 1)) a0_0 a0_1 l0_2 ((rd_T47 l0_2 x16_2).f0) ((rd_T47 l0_2 x16_2).f1)) = some r := by rw [if_neg (show ¬ (false = true) by decide)] at H; exact H
                              clear H
                              have H := H1
                              clear H1
                              have H' := Aside0.mk H
                              clear H
                              have p105 : 0 ≤ (x28_3 : Int) := of_decide_eq_true (by first | (with_reducible assumption) | assumption)
                              have q105 : x28_3 < (((rd_T47 l0_2 x16_2).f1).length : Int) := of_decide_eq_true (by first | (with_reducible assumption) | assumption)
                              obtain ⟨ad105, e105, hx105_0⟩ := Kd.at_int HR102_1.out x28_3 p105 q105
                              cases e105
                              replace hx105_0 := (HB.out.cell (World.block_lt_of_cell? w _ hx105_0)).trans hx105_0
                              replace p105 := eq_true p105
                              replace q105 := eq_true q105
                              go_wp2
                              go_roundg k3
                              case measure => have := HK1.out; have := HK2.out; have := HK3.out; omega
                              case rel => exact ⟨(false), (wrap64 (x28_3 + 1)), (by first | rfl | (simp; done) | (simp [*]; done)), (by first | rfl | (simp; done) | (simp [*]; done)), H', ⟨by have := HK1.out; have := HK2.out; have := HK3.out; omega⟩, ⟨by (with_reducible repeat (first | apply Kd.R_alloc | apply Kd.R_drewN | apply Kd.R_drew)); exact HO_5.out⟩, ⟨by (with_reducible repeat (first | refine blk_drewN ?_ _ | refine blk_drew ?_ | refine blk_alloc ?_ _)); exact BK101.out⟩, ⟨by (with_reducible repeat (first | refine blk_drewN ?_ _ | refine blk_drew ?_ | refine blk_alloc ?_ _)); exact BK103.out⟩, ⟨by repeat (first | (with_reducible first | exact HB.out | apply below_alloc | apply pw_below_drewN | apply below_drew1 | refine below_set ?_ GE101.out | refine below_set ?_ GE103.out) | exact HB.out)⟩⟩
                          · rw [if_neg c16] at H
                            exact absurd H (by simp)
                        · rw [if_neg c15] at H
                          exact absurd H (by simp)
                      · rw [if_neg c14] at H
                        have c14b0 : decide (x28_3 < (((rd_T47 l0_2 x16_2).f1).length : Int)) = false := decide_eq_false c14
                        clear c14
                        by_cases c24 : x9_3 = true
                        · subst c24
                          have H1 : ((spec_l1Put.f k3 x5_2 ((rd_T47 l0_2 x16_2).f0)).bind fun t108 => (spec_l3Close.l1 k3 a1 t108 true l0_2 (l0_2.length : Int) (wrap64 (x16_2 + 1)) a0_0 a0_1 l0_2)) = some r := by rw [if_pos rfl] at H; exact H
                          clear H
                          have H := H1
                          clear H1
                          replace H := Option.bind_eq_some_iff.mp H
                          obtain ⟨t108, A250, H⟩ := H
                          replace H : (spec_l3Close.l1 k3 a1 t108 true l0_2 (l0_2.length : Int) (wrap64 (x16_2 + 1)) a0_0 a0_1 l0_2) = some r := H
                          have A25 := Aside0.mk A250
                          clear A250
                          have H' := Aside0.mk H
                          clear H
                          have hnb26 := NB103_101.out
                          have hnc26 := NB101_103.out
                          have hcz27_0 : wr.cell? ⟨gb103, 0, none⟩ = some (.int .i64 ((rd_T47 l0_2 x16_2).f0)) := (blk_cell BK103.out 0).trans rfl
                          have hcz27_1 : wr.cell? ⟨gb103, 1, none⟩ = some (.slice A102_1 ((rd_T47 l0_2 x16_2).f1).length c102_1) := (blk_cell BK103.out 1).trans rfl
                          have hfz27_0 := blk_frozen BK103.out 0
                          have hfz27_1 := blk_frozen BK103.out 1
                          go_wp2_with (first | ((with_reducible refine gate_callee (f := 67) rfl ?_); refine goesL_ (some 54) rfl rfl Try.func67 (by kernel_rfl) rfl #[.slice Ao13 x5_2.length co13, .int .i64 ((rd_T47 l0_2 x16_2).f0)] rfl (by (try simp only [List.map_toArray, List.map_cons, List.map_nil]); first | done | rfl | (simp only [List.length_drop, List.length_take]; rfl)) ?_; (with_reducible refine (spec_l1Put.calls k3 (fun k_ => some k_ = (.slice Ao13 x5_2.length co13 : Value).ownBlock) (.slice Ao13 x5_2.length co13) x5_2 ((rd_T47 l0_2 x16_2).f0) t108 w _ ?side1 ?side2 A25.out).mono ?_); (case side1 => repeat (first | (with_reducible first | exact HB.out | apply below_alloc | apply pw_below_drewN | apply below_drew1 | refine below_set ?_ GE101.out | refine below_set ?_ GE103.out) | exact HB.out)); (case side2 => exact Kd.R_tight rfl HO_5.out); rintro e w28 ⟨v109, rfl, ho0, hb, hkp⟩; refine ⟨_, rfl, ?_⟩; have n0_ := Aside0.mk (blk_kept (by (with_reducible repeat (first | refine blk_drewN ?_ _ | refine blk_drew ?_ | refine blk_alloc ?_ _)); exact BK101.out) hkp (fun hs_ => (fun e_ => (Kd.R_ne HO_5.out BK101.out (by decide)) e_) hs_)); have n1_ := Aside0.mk (blk_kept (by (with_reducible repeat (first | refine blk_drewN ?_ _ | refine blk_drew ?_ | refine blk_alloc ?_ _)); exact BK103.out) hkp (fun hs_ => (fun e_ => (Kd.R_ne HO_5.out BK103.out (by decide)) e_) hs_)); have n2_ := Aside0.mk (Kd.R_mono (ok' := fun k_ => True) ho0 (fun k_ hk_ => trivial)); have n3_ := Aside0.mk (hb); clear BK101; clear BK103; clear HB; clear HO_5; have BK101 := n0_; have BK103 := n1_; have HO110 := n2_; have HB := n3_; clear n0_ n1_ n2_ n3_; (try clear hb); (try clear hkp); (try clear ho0)))
                          go_roundg k3
                          case measure => have := HK1.out; have := HK2.out; have := HK3.out; omega
                          case rel => exact ⟨(t108), (true), (wrap64 (x16_2 + 1)), (by first | rfl | (simp; done) | (simp [*]; done)), (by first | rfl | (simp; done) | (simp [*]; done)), H', ⟨by have := HK1.out; have := HK2.out; have := HK3.out; omega⟩, ⟨by (with_reducible repeat (first | apply Kd.R_alloc | apply Kd.R_drewN | apply Kd.R_drew)); exact HO110.out⟩, ⟨by (with_reducible repeat (first | refine blk_drewN ?_ _ | refine blk_drew ?_ | refine blk_alloc ?_ _)); exact BK101.out⟩, ⟨by repeat (first | (with_reducible first | exact HB.out | apply below_alloc | apply pw_below_drewN | apply below_drew1 | refine below_set ?_ GE101.out | refine below_set ?_ GE103.out) | exact HB.out)⟩⟩
                        · replace c24 := Bool.eq_false_iff.mpr c24
                          subst c24
                          have H1 : (spec_l3Close.l1 k3 a1 x5_2 x6_2 l0_2 (l0_2.length : Int) (wrap64 (x16_2 + 1)) a0_0 a0_1 l0_2) = some r := by rw [if_neg (show ¬ (false = true) by decide)] at H; exact H
                          clear H
                          have H := H1
                          clear H1
                          have H' := Aside0.mk H
                          clear H
                          go_wp2
                          go_roundg k3
                          case measure => have := HK1.out; have := HK2.out; have := HK3.out; omega
                          case rel => exact ⟨(x5_2), (x6_2), (wrap64 (x16_2 + 1)), (by first | rfl | (simp; done) | (simp [*]; done)), (by first | rfl | (simp; done) | (simp [*]; done)), H', ⟨by have := HK1.out; have := HK2.out; have := HK3.out; omega⟩, ⟨by (with_reducible repeat (first | apply Kd.R_alloc | apply Kd.R_drewN | apply Kd.R_drew)); exact HO_5.out⟩, ⟨by (with_reducible repeat (first | refine blk_drewN ?_ _ | refine blk_drew ?_ | refine blk_alloc ?_ _)); exact BK101.out⟩, ⟨by repeat (first | (with_reducible first | exact HB.out | apply below_alloc | apply pw_below_drewN | apply below_drew1 | refine below_set ?_ GE101.out | refine below_set ?_ GE103.out) | exact HB.out)⟩⟩
                · rw [if_neg c8] at H
                  exact absurd H (by simp)
              · rw [if_neg c7] at H
                exact absurd H (by simp)
            · rw [if_neg c6] at H
              have c6b0 : decide (x16_2 < (l0_2.length : Int)) = false := decide_eq_false c6
              clear c6
              have H' := Aside0.mk H
              clear H
              go_wp2
              go_roundg k2
              case measure => have := HK1.out; have := HK2.out; omega
              case rel => exact ⟨(x5_2), (x6_2), (by first | rfl | (simp; done) | (simp [*]; done)), H', ⟨by have := HK1.out; have := HK2.out; omega⟩, ⟨by (with_reducible repeat (first | apply Kd.R_alloc | apply Kd.R_drewN | apply Kd.R_drew)); exact HO_5.out⟩, ⟨by (with_reducible repeat (first | refine blk_drewN ?_ _ | refine blk_drew ?_ | refine blk_alloc ?_ _)); exact BK101.out⟩, ⟨by repeat (first | (with_reducible first | exact HB.out | apply below_alloc | apply pw_below_drewN | apply below_drew1 | refine below_set ?_ GE101.out) | exact HB.out)⟩⟩
      · replace c4 := Bool.eq_false_iff.mpr c4
        subst c4
        have H1 : (some x5_1) = some r := by rw [if_neg (show ¬ (false = true) by decide)] at H; exact H
        clear H
        have H := H1
        clear H1
        obtain rfl := Option.some.inj H
        go_wp2
        go_ret
        exact ⟨_, by first | rfl | (simp [errW_none, errW_some] <;> rfl) | (simp [*, errW_none, errW_some] <;> rfl), by (with_reducible repeat (first | apply Kd.R_alloc | apply Kd.R_drewN | apply Kd.R_drew)); exact HO_5.out, by repeat (first | (with_reducible first | exact HB.out | apply below_alloc | apply pw_below_drewN | apply below_drew1 | refine below_set ?_ GE101.out) | exact HB.out)⟩

end Go.Proofs.Ytohbdjdjjbieeaa.P

/-! F48 -/
namespace Go.Proofs.Ytohbdjdjjbieeaa.P
open Go.RowKit Go.Proofs.YtohbdjdjjbieeaaW.PrintWords Go.Proofs.YtohbdjdjjbieeaaW.PrintLast Go.Proofs.YtohbdjdjjbieeaaW.PrintMore
attribute [local go_sem] max2_int min2_int max_two min_two max_three min_three max_four min_four   -- for this text's walks alone
set_option linter.unusedVariables false
set_option linter.unusedSimpArgs false

/-! ### spec_l3Growing: function 48 -/
mutual
def spec_l3Growing.l0 : Nat → List Int → List Int → Bool → Int → Int → List (S47) → Option (List Int)
  | 0, _, _, _, _, _, _ => none
  | k + 1, x3, x4, x5, x102000, x102001, x102002 => if x5 = true then (spec_l3Growing.l1 k x3 x4 false x102002 (x102002.length : Int) 0 x102000 x102001 x102002) else (some x4)
def spec_l3Growing.l1 : Nat → List Int → List Int → Bool → List (S47) → Int → Int → Int → Int → List (S47) → Option (List Int)
  | 0, _, _, _, _, _, _, _, _, _ => none
  | k + 1, x3, x4, x5, x16, x17, x18, x102000, x102001, x102002 => if x18 < x17 then (if 0 ≤ x18 then (if x18 < (x16.length : Int) then (spec_l3Growing.l2 k x3 x4 x5 true false x16 x17 x18 ((rd_T47 x16 x18).f1) (((rd_T47 x16 x18).f1).length : Int) 0 x102000 x102001 x102002 ((rd_T47 x16 x18).f0) ((rd_T47 x16 x18).f1)) else (none)) else (none)) else (spec_l3Growing.l0 k x3 x4 x5 x102000 x102001 x102002)
def spec_l3Growing.l2 : Nat → List Int → List Int → Bool → Bool → Bool → List (S47) → Int → Int → List Int → Int → Int → Int → Int → List (S47) → Int → List Int → Option (List Int)
  | 0, _, _, _, _, _, _, _, _, _, _, _, _, _, _, _, _ => none
  | k + 1, x3, x4, x5, x8, x9, x16, x17, x18, x23, x24, x25, x102000, x102001, x102002, x107000, x107001 => if x25 < x24 then (if 0 ≤ x25 then (if x25 < (x23.length : Int) then (if x8 = true then (if (rd x23 x25) < 0 then (if x9 = true then (spec_l3Growing.l2 k x3 x4 x5 true true x16 x17 x18 x23 x24 (wrap64 (x25 + 1)) x102000 x102001 x102002 x107000 x107001) else (spec_l3Growing.l2 k x3 x4 x5 true true x16 x17 x18 x23 x24 (wrap64 (x25 + 1)) x102000 x102001 x102002 x107000 x107001)) else ((spec_l1Has.f k x3 (rd x23 x25)).bind fun t108 => (if x9 = true then (spec_l3Growing.l2 k x3 x4 x5 t108 true x16 x17 x18 x23 x24 (wrap64 (x25 + 1)) x102000 x102001 x102002 x107000 x107001) else ((spec_l1Has.f k x4 (rd x23 x25)).bind fun t109 => (spec_l3Growing.l2 k x3 x4 x5 t108 t109 x16 x17 x18 x23 x24 (wrap64 (x25 + 1)) x102000 x102001 x102002 x107000 x107001))))) else (if x9 = true then (spec_l3Growing.l2 k x3 x4 x5 false true x16 x17 x18 x23 x24 (wrap64 (x25 + 1)) x102000 x102001 x102002 x107000 x107001) else (if (rd x23 x25) < 0 then (spec_l3Growing.l2 k x3 x4 x5 false true x16 x17 x18 x23 x24 (wrap64 (x25 + 1)) x102000 x102001 x102002 x107000 x107001) else ((spec_l1Has.f k x4 (rd x23 x25)).bind fun t110 => (spec_l3Growing.l2 k x3 x4 x5 false t110 x16 x17 x18 x23 x24 (wrap64 (x25 + 1)) x102000 x102001 x102002 x107000 x107001))))) else (none)) else (none)) else (if x8 = true then (if x9 = true then ((spec_l1Has.f k x4 x107000).bind fun t111 => (if t111 = true then (spec_l3Growing.l1 k x3 x4 x5 x16 x17 (wrap64 (x18 + 1)) x102000 x102001 x102002) else ((spec_l1Put.f k x4 x107000).bind fun t112 => (spec_l3Growing.l1 k x3 t112 true x16 x17 (wrap64 (x18 + 1)) x102000 x102001 x102002)))) else (spec_l3Growing.l1 k x3 x4 x5 x16 x17 (wrap64 (x18 + 1)) x102000 x102001 x102002)) else (spec_l3Growing.l1 k x3 x4 x5 x16 x17 (wrap64 (x18 + 1)) x102000 x102001 x102002))
end
def spec_l3Growing.f (k : Nat) (a0_0 : Int) (a0_1 : Int) (l0_2 : List (S47)) : Option (List Int) := (spec_l3Close.f k a0_0 a0_1 l0_2 true).bind fun t102 => (spec_l3Growing.l0 k t102 ([] : List Int) true a0_0 a0_1 l0_2)
theorem spec_l3Growing.mono_l : ∀ k, (∀ y0 y1 y2 y3 y4 y5, LeO (spec_l3Growing.l0 k y0 y1 y2 y3 y4 y5) (spec_l3Growing.l0 (k + 1) y0 y1 y2 y3 y4 y5)) ∧ (∀ y0 y1 y2 y3 y4 y5 y6 y7 y8, LeO (spec_l3Growing.l1 k y0 y1 y2 y3 y4 y5 y6 y7 y8) (spec_l3Growing.l1 (k + 1) y0 y1 y2 y3 y4 y5 y6 y7 y8)) ∧ (∀ y0 y1 y2 y3 y4 y5 y6 y7 y8 y9 y10 y11 y12 y13 y14 y15, LeO (spec_l3Growing.l2 k y0 y1 y2 y3 y4 y5 y6 y7 y8 y9 y10 y11 y12 y13 y14 y15) (spec_l3Growing.l2 (k + 1) y0 y1 y2 y3 y4 y5 y6 y7 y8 y9 y10 y11 y12 y13 y14 y15))
  | 0 => ⟨fun _ _ _ _ _ _ r h => by simp [spec_l3Growing.l0] at h, fun _ _ _ _ _ _ _ _ _ r h => by simp [spec_l3Growing.l1] at h, fun _ _ _ _ _ _ _ _ _ _ _ _ _ _ _ _ r h => by simp [spec_l3Growing.l2] at h⟩
  | k + 1 => by
    obtain ⟨ih0, ih1, ih2⟩ := spec_l3Growing.mono_l k
    refine ⟨?_, ?_, ?_⟩
    · intro y0 y1 y2 y3 y4 y5
      unfold spec_l3Growing.l0
      repeat' first
      | (with_reducible exact ih0 _ _ _ _ _ _)
      | (with_reducible exact ih1 _ _ _ _ _ _ _ _ _)
      | (with_reducible exact ih2 _ _ _ _ _ _ _ _ _ _ _ _ _ _ _ _)
      | (with_reducible exact spec_l1Has.mono _ _ _)
      | (with_reducible exact spec_l1Put.mono _ _ _)
      | (with_reducible exact spec_l3Close.mono _ _ _ _ _)
      | (with_reducible exact LeO.refl _)
      | (with_reducible exact LeO.none _)
      | (with_reducible refine LeO.ite ?_ ?_)
      | (with_reducible refine LeO.bind ?_ (fun _ => ?_))
      | exact ih0 _ _ _ _ _ _
      | exact ih1 _ _ _ _ _ _ _ _ _
      | exact ih2 _ _ _ _ _ _ _ _ _ _ _ _ _ _ _ _
      | exact spec_l1Has.mono _ _ _
      | exact spec_l1Put.mono _ _ _
      | exact spec_l3Close.mono _ _ _ _ _
      | exact LeO.none _
      | refine LeO.ite ?_ ?_
      | refine LeO.bind ?_ (fun _ => ?_)
    · intro y0 y1 y2 y3 y4 y5 y6 y7 y8
      unfold spec_l3Growing.l1
      repeat' first
      | (with_reducible exact ih0 _ _ _ _ _ _)
      | (with_reducible exact ih1 _ _ _ _ _ _ _ _ _)
      | (with_reducible exact ih2 _ _ _ _ _ _ _ _ _ _ _ _ _ _ _ _)
      | (with_reducible exact spec_l1Has.mono _ _ _)
      | (with_reducible exact spec_l1Put.mono _ _ _)
      | (with_reducible exact spec_l3Close.mono _ _ _ _ _)
      | (with_reducible exact LeO.refl _)
      | (with_reducible exact LeO.none _)
      | (with_reducible refine LeO.ite ?_ ?_)
      | (with_reducible refine LeO.bind ?_ (fun _ => ?_))
      | exact ih0 _ _ _ _ _ _
      | exact ih1 _ _ _ _ _ _ _ _ _
      | exact ih2 _ _ _ _ _ _ _ _ _ _ _ _ _ _ _ _
      | exact spec_l1Has.mono _ _ _
      | exact spec_l1Put.mono _ _ _
      | exact spec_l3Close.mono _ _ _ _ _
      | exact LeO.none _
      | refine LeO.ite ?_ ?_
      | refine LeO.bind ?_ (fun _ => ?_)
    · intro y0 y1 y2 y3 y4 y5 y6 y7 y8 y9 y10 y11 y12 y13 y14 y15
      unfold spec_l3Growing.l2
      repeat' first
      | (with_reducible exact ih0 _ _ _ _ _ _)
      | (with_reducible exact ih1 _ _ _ _ _ _ _ _ _)
      | (with_reducible exact ih2 _ _ _ _ _ _ _ _ _ _ _ _ _ _ _ _)
      | (with_reducible exact spec_l1Has.mono _ _ _)
      | (with_reducible exact spec_l1Put.mono _ _ _)
      | (with_reducible exact spec_l3Close.mono _ _ _ _ _)
      | (with_reducible exact LeO.refl _)
      | (with_reducible exact LeO.none _)
      | (with_reducible refine LeO.ite ?_ ?_)
      | (with_reducible refine LeO.bind ?_ (fun _ => ?_))
      | exact ih0 _ _ _ _ _ _
      | exact ih1 _ _ _ _ _ _ _ _ _
      | exact ih2 _ _ _ _ _ _ _ _ _ _ _ _ _ _ _ _
      | exact spec_l1Has.mono _ _ _
      | exact spec_l1Put.mono _ _ _
      | exact spec_l3Close.mono _ _ _ _ _
      | exact LeO.none _
      | refine LeO.ite ?_ ?_
      | refine LeO.bind ?_ (fun _ => ?_)
theorem spec_l3Growing.mono : ∀ a0 a1 a2 k, LeO (spec_l3Growing.f k a0 a1 a2) (spec_l3Growing.f (k + 1) a0 a1 a2) := by
  intro a0 a1 a2 k
  obtain ⟨ih0, ih1, ih2⟩ := spec_l3Growing.mono_l k
  unfold spec_l3Growing.f
  repeat' first
      | (with_reducible exact ih0 _ _ _ _ _ _)
      | (with_reducible exact ih1 _ _ _ _ _ _ _ _ _)
      | (with_reducible exact ih2 _ _ _ _ _ _ _ _ _ _ _ _ _ _ _ _)
      | (with_reducible exact spec_l1Has.mono _ _ _)
      | (with_reducible exact spec_l1Put.mono _ _ _)
      | (with_reducible exact spec_l3Close.mono _ _ _ _ _)
      | (with_reducible exact LeO.refl _)
      | (with_reducible exact LeO.none _)
      | (with_reducible refine LeO.ite ?_ ?_)
      | (with_reducible refine LeO.bind ?_ (fun _ => ?_))
      | exact ih0 _ _ _ _ _ _
      | exact ih1 _ _ _ _ _ _ _ _ _
      | exact ih2 _ _ _ _ _ _ _ _ _ _ _ _ _ _ _ _
      | exact spec_l1Has.mono _ _ _
      | exact spec_l1Put.mono _ _ _
      | exact spec_l3Close.mono _ _ _ _ _
      | exact LeO.none _
      | refine LeO.ite ?_ ?_
      | refine LeO.bind ?_ (fun _ => ?_)
set_option maxHeartbeats 8000000 in
set_option maxRecDepth 100000 in
theorem spec_l3Growing.calls (k : Nat) (a0_0 : Int) (a0_1 : Int) (A0_2 : Option Addr) (c0_2 : Nat) (l0_2 : List (S47)) (r : List Int) (w : World) (hr0_2 : Kd.C k47 w A0_2 l0_2.length l0_2) (hc0_2 : l0_2.length ≤ c0_2) (h : spec_l3Growing.f k a0_0 a0_1 l0_2 = some r) :
    Calls Try.prog 48 #[.agg #[.int .i64 a0_0, .int .i64 a0_1, .slice A0_2 l0_2.length c0_2]] w fun e w' => ∃ v0_ : Value, e = .returned (v0_) ∧ Kd.R (Kd.int .i64) 3 w' w.heap.size (fun _ => True) v0_ r ∧ Below w.heap.size w w' := by
  have hu30 := Try.underlying30
  have hu47 := Try.underlying47
  have HR0_2 := Aside0.mk hr0_2
  have HC0_2 := Aside0.mk hc0_2
  clear hr0_2 hc0_2
  have HB := Aside0.mk (Below.refl w.heap.size w)
  have H : ((spec_l3Close.f k a0_0 a0_1 l0_2 true).bind fun t102 => (spec_l3Growing.l0 k t102 ([] : List Int) true a0_0 a0_1 l0_2)) = some r := h
  clear h
  replace H := Option.bind_eq_some_iff.mp H
  obtain ⟨t102, A20, H⟩ := H
  replace H : (spec_l3Growing.l0 k t102 ([] : List Int) true a0_0 a0_1 l0_2) = some r := H
  have A2 := Aside0.mk A20
  clear A20
  have H' := Aside0.mk H
  clear H
  go_enter Try.func48, Try.ntmps48
  go_wp2_with (first | ((with_reducible refine gate_dst (N := 1) rfl ?_); refine box_event ?hg (N := 1) ?hd (cs := #[.int .i64 a0_0, .int .i64 a0_1, .slice A0_2 l0_2.length c0_2]) (t := 30) ?hr ?_; (case hd => rfl); (case hg => rfl); (case hr => first | (go_simp; done) | (go_simp; rfl)); intro gb101 hg w3 hbox hb; have n0_ := Aside0.mk (below_step (by repeat (first | (with_reducible first | exact HB.out | apply below_alloc | apply pw_below_drewN | apply below_drew1) | exact HB.out)) hb); have n1_ := Aside0.mk (hbox); have n2_ := Aside0.mk ((by rw [hg]; exact (below_size (by repeat (first | (with_reducible first | exact HB.out | apply below_alloc | apply pw_below_drewN | apply below_drew1) | exact HB.out))) : w.heap.size ≤ gb101)); have n3_ := Aside0.mk ((by rw [hg]; exact (below_size (by repeat (first | (with_reducible first | exact HB.out | apply below_alloc | apply pw_below_drewN | apply below_drew1) | exact HB.out))) : w.heap.size ≤ gb101)); clear HB; have HB := n0_; have BK101 := n1_; have GW101 := n2_; have GE101 := n3_; clear n0_ n1_ n2_ n3_; clear hb hbox hg; have hcz4_0 : w3.cell? ⟨gb101, 0, none⟩ = some (.int .i64 a0_0) := (blk_cell BK101.out 0).trans rfl; have hcz4_1 : w3.cell? ⟨gb101, 1, none⟩ = some (.int .i64 a0_1) := (blk_cell BK101.out 1).trans rfl; have hcz4_2 : w3.cell? ⟨gb101, 2, none⟩ = some (.slice A0_2 l0_2.length c0_2) := (blk_cell BK101.out 2).trans rfl; have hfz4_0 := blk_frozen BK101.out 0; have hfz4_1 := blk_frozen BK101.out 1; have hfz4_2 := blk_frozen BK101.out 2) | ((with_reducible refine gate_callee (f := 45) rfl ?_); refine goesL_ (some 13) rfl rfl Try.func45 (by kernel_rfl) rfl #[.agg #[.int .i64 a0_0, .int .i64 a0_1, .slice A0_2 l0_2.length c0_2], .bool true] rfl (by (try simp only [List.map_toArray, List.map_cons, List.map_nil]); first | done | rfl | (simp only [List.length_drop, List.length_take]; rfl)) ?_; (with_reducible refine (spec_l3Close.calls k a0_0 a0_1 _ _ l0_2 true t102 _ ?side1 ?side2 A2.out).mono ?_); (case side1 => repeat (first | exact (Kd.C_below HR0_2.out HB.out) | (with_reducible refine Kd.C_alloc ?_ _) | (with_reducible refine Kd.C_drewN ?_ _) | (with_reducible refine Kd.C_drew ?_))); (case side2 => exact HC0_2.out); rintro e w5 ⟨v103, rfl, ho0, hb⟩; refine ⟨_, rfl, ?_⟩; have n0_ := Aside0.mk (Kd.R_lower ho0 (below_size (by repeat (first | (with_reducible first | exact HB.out | apply below_alloc | apply pw_below_drewN | apply below_drew1 | refine below_set ?_ GE101.out) | exact HB.out)))); have n1_ := Aside0.mk (blk_below (g := gb101) (o := .cells #[.int .i64 a0_0, .int .i64 a0_1, .slice A0_2 l0_2.length c0_2] 30 (0, 0)) (by (with_reducible repeat (first | refine blk_drewN ?_ _ | refine blk_drew ?_ | refine blk_alloc ?_ _)); exact BK101.out) hb); have n2_ := Aside0.mk (below_step (by repeat (first | (with_reducible first | exact HB.out | apply below_alloc | apply pw_below_drewN | apply below_drew1 | refine below_set ?_ GE101.out) | exact HB.out)) hb); clear BK101; clear HB; have HO104 := n0_; have BK101 := n1_; have HB := n2_; clear n0_ n1_ n2_; (try clear hb); (try clear hb2); (try clear hk); (try clear hi); (try clear ho0)))
  go_loopg [4, 5] k (fun kq v4 v5 w' => ∃ (x4_1 : List Int) (x5_1 : Bool), v5 = .bool x5_1 ∧ Aside0 (spec_l3Growing.l0 kq t102 x4_1 x5_1 a0_0 a0_1 l0_2 = some r) ∧ Aside0 (kq ≤ k) ∧ Aside0 (Kd.R (Kd.int .i64) 3 w' w.heap.size (fun k_ => some k_ ≠ (v4 : Value).ownBlock) v103 t102) ∧ Aside0 (Kd.R (Kd.int .i64) 3 w' w.heap.size (fun k_ => some k_ ≠ (v103 : Value).ownBlock) v4 x4_1) ∧ Aside0 (w'.heap[gb101]? = some (.cells #[.int .i64 a0_0, .int .i64 a0_1, (.slice A0_2 l0_2.length c0_2)] 30 (0, 0))) ∧ Aside0 (Below w.heap.size w w'))
  case atStart => exact ⟨(([] : List Int)), (true), (by first | rfl | (simp; done) | (simp [*]; done)), H', ⟨Nat.le_refl _⟩, ⟨by (with_reducible repeat (first | apply Kd.R_alloc | apply Kd.R_drewN | apply Kd.R_drew)); exact Kd.R_mono HO104.out (fun _ hk => (by simp [Value.ownBlock]))⟩, ⟨by first | exact Kd.R_nil _ _ _ _ _ | exact Kd.N_nil _ _ _ _ _ | exact Kd.V_nil _ _ _ _ _ | exact Kd.Q_nil _ _ _ _ _ | exact Kd.S_nil _ _ _ _ _⟩, ⟨by (with_reducible repeat (first | refine blk_drewN ?_ _ | refine blk_drew ?_ | refine blk_alloc ?_ _)); exact BK101.out⟩, ⟨by repeat (first | (with_reducible first | exact HB.out | apply below_alloc | apply pw_below_drewN | apply below_drew1 | refine below_set ?_ GE101.out) | exact HB.out)⟩⟩
  case round =>
    clear H'
    try clear p2
    try clear c4
    try clear hcz4_0
    try clear hcz4_1
    try clear hcz4_2
    try clear hfz4_0
    try clear hfz4_1
    try clear hfz4_2
    obtain ⟨x4_1, x5_1, rfl, HA, HK1, HO_3, HO_4, BK101, HB⟩ := hrel
    cases gk with
    | zero => exact absurd HA.out (by simp [spec_l3Growing.l0])
    | succ k1 =>
      have H := HA.out
      clear HA
      simp only [spec_l3Growing.l0] at H
      by_cases c6 : x5_1 = true
      · subst c6
        have H1 : (spec_l3Growing.l1 k1 t102 x4_1 false l0_2 (l0_2.length : Int) 0 a0_0 a0_1 l0_2) = some r := by rw [if_pos rfl] at H; exact H
        clear H
        have H := H1
        clear H1
        have H' := Aside0.mk H
        clear H
        have hcz7_0 : wr.cell? ⟨gb101, 0, none⟩ = some (.int .i64 a0_0) := (blk_cell BK101.out 0).trans rfl
        have hcz7_1 : wr.cell? ⟨gb101, 1, none⟩ = some (.int .i64 a0_1) := (blk_cell BK101.out 1).trans rfl
        have hcz7_2 : wr.cell? ⟨gb101, 2, none⟩ = some (.slice A0_2 l0_2.length c0_2) := (blk_cell BK101.out 2).trans rfl
        have hfz7_0 := blk_frozen BK101.out 0
        have hfz7_1 := blk_frozen BK101.out 1
        have hfz7_2 := blk_frozen BK101.out 2
        go_wp2
        go_loopg [4, 5, 18] k1 (fun kq v4 v5 v18 w' => ∃ (x4_2 : List Int) (x5_2 : Bool) (x18_2 : Int), v5 = .bool x5_2 ∧ v18 = .int .i64 x18_2 ∧ Aside0 (spec_l3Growing.l1 kq t102 x4_2 x5_2 l0_2 (l0_2.length : Int) x18_2 a0_0 a0_1 l0_2 = some r) ∧ Aside0 (kq ≤ k1) ∧ Aside0 (Kd.R (Kd.int .i64) 3 w' w.heap.size (fun k_ => some k_ ≠ (v4 : Value).ownBlock) v103 t102) ∧ Aside0 (Kd.R (Kd.int .i64) 3 w' w.heap.size (fun k_ => some k_ ≠ (v103 : Value).ownBlock) v4 x4_2) ∧ Aside0 (w'.heap[gb101]? = some (.cells #[.int .i64 a0_0, .int .i64 a0_1, (.slice A0_2 l0_2.length c0_2)] 30 (0, 0))) ∧ Aside0 (Below w.heap.size w w'))
        case atStart => exact ⟨(x4_1), (false), (0), (by first | rfl | (simp; done) | (simp [*]; done)), (by first | rfl | (simp; done) | (simp [*]; done)), H', ⟨Nat.le_refl _⟩, ⟨by (with_reducible repeat (first | apply Kd.R_alloc | apply Kd.R_drewN | apply Kd.R_drew)); exact HO_3.out⟩, ⟨by (with_reducible repeat (first | apply Kd.R_alloc | apply Kd.R_drewN | apply Kd.R_drew)); exact HO_4.out⟩, ⟨by (with_reducible repeat (first | refine blk_drewN ?_ _ | refine blk_drew ?_ | refine blk_alloc ?_ _)); exact BK101.out⟩, ⟨by repeat (first | (with_reducible first | exact HB.out | apply below_alloc | apply pw_below_drewN | apply below_drew1 | refine below_set ?_ GE101.out) | exact HB.out)⟩⟩
        case round =>
          clear H'
          try clear p2
          try clear c4
          try clear c6
          try clear hcz4_0
          try clear hcz4_1
          try clear hcz4_2
          try clear hcz7_0
          try clear hcz7_1
          try clear hcz7_2
          try clear hfz4_0
          try clear hfz4_1
          try clear hfz4_2
          try clear hfz7_0
          try clear hfz7_1
          try clear hfz7_2
          try clear p2
          obtain ⟨x4_2, x5_2, x18_2, rfl, rfl, HA, HK2, HO_3, HO_4, BK101, HB⟩ := hrel
          cases gk with
          | zero => exact absurd HA.out (by simp [spec_l3Growing.l1])
          | succ k2 =>
            have H := HA.out
            clear HA
            simp only [spec_l3Growing.l1] at H
            by_cases c8 : x18_2 < (l0_2.length : Int)
            · rw [if_pos c8] at H
              have c8b0 : decide (x18_2 < (l0_2.length : Int)) = true := decide_eq_true c8
              clear c8
              by_cases c9 : 0 ≤ x18_2
              · rw [if_pos c9] at H
                have c9b0 : decide (0 ≤ x18_2) = true := decide_eq_true c9
                clear c9
                by_cases c10 : x18_2 < (l0_2.length : Int)
                · rw [if_pos c10] at H
                  have c10b0 : decide (x18_2 < (l0_2.length : Int)) = true := decide_eq_true c10
                  clear c10
                  have H' := Aside0.mk H
                  clear H
                  have p105 : 0 ≤ (x18_2 : Int) := of_decide_eq_true (by first | (with_reducible assumption) | assumption)
                  have q105 : x18_2 < (l0_2.length : Int) := of_decide_eq_true (by first | (with_reducible assumption) | assumption)
                  obtain ⟨ad105, A105_1, c105_1, e105, hx105_0, hx105_1, hl105_1, hi105_1⟩ := at_T47 HR0_2.out x18_2 p105 q105
                  cases e105
                  replace hx105_0 := (HB.out.cell (World.block_lt_of_cell? w _ hx105_0)).trans hx105_0
                  replace hx105_1 := (HB.out.cell (World.block_lt_of_cell? w _ hx105_1)).trans hx105_1
                  have HR105_1 := Aside0.mk hi105_1
                  have HC105_1 := Aside0.mk hl105_1
                  clear hi105_1 hl105_1
                  replace p105 := eq_true p105
                  replace q105 := eq_true q105
                  go_wp2_with (first | ((with_reducible refine gate_dst (N := 7) rfl ?_); refine box_event ?hg (N := 7) ?hd (cs := #[.int .i64 0, .slice none 0 0]) (t := 47) ?hr ?_; (case hd => rfl); (case hg => rfl); (case hr => first | (go_simp; done) | (go_simp; rfl)); intro gb106 hg w11 hbox hb; have n0_ := Aside0.mk (Kd.R_below (by (with_reducible repeat (first | apply Kd.R_alloc | apply Kd.R_drewN | apply Kd.R_drew)); exact HO_3.out) hb); have n1_ := Aside0.mk (Kd.R_below (by (with_reducible repeat (first | apply Kd.R_alloc | apply Kd.R_drewN | apply Kd.R_drew)); exact HO_4.out) hb); have n2_ := Aside0.mk (blk_below (g := gb101) (o := .cells #[.int .i64 a0_0, .int .i64 a0_1, .slice (some ad105) l0_2.length c0_2] 30 (0, 0)) (by (with_reducible repeat (first | refine blk_drewN ?_ _ | refine blk_drew ?_ | refine blk_alloc ?_ _)); exact BK101.out) hb); have n3_ := Aside0.mk (below_step (by repeat (first | (with_reducible first | exact HB.out | apply below_alloc | apply pw_below_drewN | apply below_drew1 | refine below_set ?_ GE101.out) | exact HB.out)) hb); have n4_ := Aside0.mk (hbox); have n5_ := Aside0.mk ((by rw [hg]; exact (below_size (by repeat (first | (with_reducible first | exact HB.out | apply below_alloc | apply pw_below_drewN | apply below_drew1 | refine below_set ?_ GE101.out) | exact HB.out))) : w.heap.size ≤ gb106)); have n6_ := Aside0.mk ((by rw [hg]; exact (below_size (by repeat (first | (with_reducible first | exact HB.out | apply below_alloc | apply pw_below_drewN | apply below_drew1 | refine below_set ?_ GE101.out) | exact HB.out))) : w.heap.size ≤ gb106)); have n7_ := Aside0.mk ((by rw [hg]; exact Nat.ne_of_lt (blk_lt (g := gb101) (o := .cells #[.int .i64 a0_0, .int .i64 a0_1, .slice (some ad105) l0_2.length c0_2] 30 (0, 0)) (by (with_reducible repeat (first | refine blk_drewN ?_ _ | refine blk_drew ?_ | refine blk_alloc ?_ _)); exact BK101.out)) : gb101 ≠ gb106)); have n8_ := Aside0.mk ((by rw [hg]; exact Nat.ne_of_gt (blk_lt (g := gb101) (o := .cells #[.int .i64 a0_0, .int .i64 a0_1, .slice (some ad105) l0_2.length c0_2] 30 (0, 0)) (by (with_reducible repeat (first | refine blk_drewN ?_ _ | refine blk_drew ?_ | refine blk_alloc ?_ _)); exact BK101.out)) : gb106 ≠ gb101)); clear HO_3; clear HO_4; clear BK101; clear HB; have HO_3 := n0_; have HO_4 := n1_; have BK101 := n2_; have HB := n3_; have BK106 := n4_; have GW106 := n5_; have GE106 := n6_; have NB101_106 := n7_; have NB106_101 := n8_; clear n0_ n1_ n2_ n3_ n4_ n5_ n6_ n7_ n8_; clear hb hbox hg; have hnb12 := NB106_101.out; have hnc12 := NB101_106.out; have hcz13_0 : w11.cell? ⟨gb106, 0, none⟩ = some (.int .i64 0) := (blk_cell BK106.out 0).trans rfl; have hcz13_1 : w11.cell? ⟨gb106, 1, none⟩ = some (.slice none 0 0) := (blk_cell BK106.out 1).trans rfl; have hfz13_0 := blk_frozen BK106.out 0; have hfz13_1 := blk_frozen BK106.out 1))
                  go_loopg [8, 9, 25] k2 (fun kq v8 v9 v25 w' => ∃ (x8_3 : Bool) (x9_3 : Bool) (x25_3 : Int), v8 = .bool x8_3 ∧ v9 = .bool x9_3 ∧ v25 = .int .i64 x25_3 ∧ Aside0 (spec_l3Growing.l2 kq t102 x4_2 x5_2 x8_3 x9_3 l0_2 (l0_2.length : Int) x18_2 ((rd_T47 l0_2 x18_2).f1) (((rd_T47 l0_2 x18_2).f1).length : Int) x25_3 a0_0 a0_1 l0_2 ((rd_T47 l0_2 x18_2).f0) ((rd_T47 l0_2 x18_2).f1) = some r) ∧ Aside0 (kq ≤ k2) ∧ Aside0 (Kd.R (Kd.int .i64) 3 w' w.heap.size (fun k_ => some k_ ≠ (u4 : Value).ownBlock) v103 t102) ∧ Aside0 (Kd.R (Kd.int .i64) 3 w' w.heap.size (fun k_ => some k_ ≠ (v103 : Value).ownBlock) u4 x4_2) ∧ Aside0 (w'.heap[gb101]? = some (.cells #[.int .i64 a0_0, .int .i64 a0_1, (.slice (some ad105) l0_2.length c0_2)] 30 (0, 0))) ∧ Aside0 (w'.heap[gb106]? = some (.cells #[.int .i64 ((rd_T47 l0_2 x18_2).f0), (.slice A105_1 ((rd_T47 l0_2 x18_2).f1).length c105_1)] 47 (0, 0))) ∧ Aside0 (Below w.heap.size w w'))
                  case atStart => exact ⟨(true), (false), (0), (by first | rfl | (simp; done) | (simp [*]; done)), (by first | rfl | (simp; done) | (simp [*]; done)), (by first | rfl | (simp; done) | (simp [*]; done)), H', ⟨Nat.le_refl _⟩, ⟨by (with_reducible repeat (first | apply Kd.R_alloc | apply Kd.R_drewN | apply Kd.R_drew)); exact Kd.R_mono (Kd.R_far (p := ⟨gb106, 1, none⟩) (Kd.R_far (p := ⟨gb106, 0, none⟩) (Kd.R_types HO_3.out BK106.out (by decide)) (fun _ hk => hk.2) (.int .i64 ((rd_T47 l0_2 x18_2).f0))) (fun _ hk => hk.2) (.slice A105_1 ((rd_T47 l0_2 x18_2).f1).length c105_1)) (fun _ hk => hk.1)⟩, ⟨by (with_reducible repeat (first | apply Kd.R_alloc | apply Kd.R_drewN | apply Kd.R_drew)); exact Kd.R_mono (Kd.R_far (p := ⟨gb106, 1, none⟩) (Kd.R_far (p := ⟨gb106, 0, none⟩) (Kd.R_types HO_4.out BK106.out (by decide)) (fun _ hk => hk.2) (.int .i64 ((rd_T47 l0_2 x18_2).f0))) (fun _ hk => hk.2) (.slice A105_1 ((rd_T47 l0_2 x18_2).f1).length c105_1)) (fun _ hk => hk.1)⟩, ⟨by (with_reducible repeat (first | refine blk_drewN ?_ _ | refine blk_drew ?_ | refine blk_alloc ?_ _)); refine blk_far ?_ NB101_106.out _; (with_reducible repeat (first | refine blk_drewN ?_ _ | refine blk_drew ?_ | refine blk_alloc ?_ _)); refine blk_far ?_ NB101_106.out _; (with_reducible repeat (first | refine blk_drewN ?_ _ | refine blk_drew ?_ | refine blk_alloc ?_ _)); exact BK101.out⟩, ⟨by (with_reducible repeat (first | refine blk_drewN ?_ _ | refine blk_drew ?_ | refine blk_alloc ?_ _)); refine blk_put (cs := #[.int .i64 ((rd_T47 l0_2 x18_2).f0), .slice none 0 0]) ?_ 1 _ rfl; (with_reducible repeat (first | refine blk_drewN ?_ _ | refine blk_drew ?_ | refine blk_alloc ?_ _)); refine blk_put (cs := #[.int .i64 0, .slice none 0 0]) ?_ 0 _ rfl; (with_reducible repeat (first | refine blk_drewN ?_ _ | refine blk_drew ?_ | refine blk_alloc ?_ _)); exact BK106.out⟩, ⟨by repeat (first | (with_reducible first | exact HB.out | apply below_alloc | apply pw_below_drewN | apply below_drew1 | refine below_set ?_ GE101.out | refine below_set ?_ GE106.out) | exact HB.out)⟩⟩
                  case round =>
                    clear H'
                    try clear c1
                    try clear p1
                    try clear q1
                    try clear hx1
                    try clear p2
                    try clear c4
                    try clear c6
                    try clear c8
                    try clear c8b0
                    try clear c9
                    try clear c9b0
                    try clear c10
                    try clear c10b0
                    try clear p10
                    try clear q10
                    try clear hx10
                    try clear c12
                    try clear hcz13_0
                    try clear hcz13_1
                    try clear hcz4_0
                    try clear hcz4_1
                    try clear hcz4_2
                    try clear hcz7_0
                    try clear hcz7_1
                    try clear hcz7_2
                    try clear hfz13_0
                    try clear hfz13_1
                    try clear hfz4_0
                    try clear hfz4_1
                    try clear hfz4_2
                    try clear hfz7_0
                    try clear hfz7_1
                    try clear hfz7_2
                    try clear hx105_0
                    try clear hx105_1
                    try clear p105
                    try clear p2
                    try clear q105
                    obtain ⟨x8_3, x9_3, x25_3, rfl, rfl, rfl, HA, HK3, HO_3, HO_4, BK101, BK106, HB⟩ := hrel
                    cases gk with
                    | zero => exact absurd HA.out (by simp [spec_l3Growing.l2])
                    | succ k3 =>
                      have H := HA.out
                      clear HA
                      simp only [spec_l3Growing.l2] at H
                      by_cases c14 : x25_3 < (((rd_T47 l0_2 x18_2).f1).length : Int)
                      · rw [if_pos c14] at H
                        have c14b0 : decide (x25_3 < (((rd_T47 l0_2 x18_2).f1).length : Int)) = true := decide_eq_true c14
                        clear c14
                        by_cases c15 : 0 ≤ x25_3
                        · rw [if_pos c15] at H
                          have c15b0 : decide (0 ≤ x25_3) = true := decide_eq_true c15
                          clear c15
                          by_cases c16 : x25_3 < (((rd_T47 l0_2 x18_2).f1).length : Int)
                          · rw [if_pos c16] at H
                            have c16b0 : decide (x25_3 < (((rd_T47 l0_2 x18_2).f1).length : Int)) = true := decide_eq_true c16
                            clear c16
                            by_cases c17 : x8_3 = true
                            · subst c17
                              have H1 : (if (rd ((rd_T47 l0_2 x18_2).f1) x25_3) < 0 then (if x9_3 = true then (spec_l3Growing.l2 k3 t102 x4_2 x5_2 true true l0_2 (l0_2.length : Int) x18_2 ((rd_T47 l0_2 x18_2).f1) (((rd_T47 l0_2 x18_2).f1).length : Int) (wrap64 (x25_3 + 1)) a0_0 a0_1 l0_2 ((rd_T47 l0_2 x18_2).f0) ((rd_T47 l0_2 x18_2).f1)) else (spec_l3Growing.l2 k3 t102 x4_2 x5_2 true true l0_2 (l0_2.length : Int) x18_2 ((rd_T47 l0_2 x18_2).f1) (((rd_T47 l0_2 x18_2).f1).length : Int) (wrap64 (x25_3 + 1)) a0_0 a0_1 l0_2 ((rd_T47 l0_2 x18_2).f0) ((rd_T47 l0_2 x18_2).f1))) else ((spec_l1Has.f k3 t102 (rd ((rd_T47 l0_2 x18_2).f1) x25_3)).bind fun t108 => (if x9_3 = true then (spec_l3Growing.l2 k3 t102 x4_2 x5_2 t108 true l0_2 (l0_2.length : Int) x18_2 ((rd_T47 l0_2 x18_2).f1) (((rd_T47 l0_2 x18_2).f1).length : Int) (wrap64 (x25_3 + 1)) a0_0 a0_1 l0_2 ((rd_T47 l0_2 x18_2).f0) ((rd_T47 l0_2 x18_2).f1)) else ((spec_l1Has.f k3 x4_2 (rd ((rd_T47 l0_2 x18_2).f1) x25_3)).bind fun t109 => (spec_l3Growing.l2 k3 t102 x4_2 x5_2 t108 t109 l0_2 (l0_2.length : Int) x18_2 ((rd_T47 l0_2 x18_2).f1) (((rd_T47 l0_2 x18_2).f1).length : Int) (wrap64 (x25_3 + 1)) a0_0 a0_1 l0_2 ((rd_T47 l0_2 x18_2).f0) ((rd_T47 l0_2 x18_2).f1)))))) = some r := by rw [if_pos rfl] at H; exact H
                              clear H
                              have H := H1
                              clear H1
                              by_cases c18 : (rd ((rd_T47 l0_2 x18_2).f1) x25_3) < 0
                              · rw [if_pos c18] at H
                                have c18b0 : decide ((rd ((rd_T47 l0_2 x18_2).f1) x25_3) < 0) = true := decide_eq_true c18
                                clear c18
                                by_cases c19 : x9_3 = true
                                · subst c19
                                  have H1 : (spec_l3Growing.l2 k3 t102 x4_2 x5_2 true true l0_2 (l0_2.length : Int) x18_2 ((rd_T47 l0_2 x18_2).f1) (((rd_T47 l0_2 x18_2).f1).length : Int) (wrap64 (x25_3 + 1)) a0_0 a0_1 l0_2 ((rd_T47 l0_2 x18_2).f0) ((rd_T47 l0_2 x18_2).f1)) = some r := by rw [if_pos rfl] at H; exact H
                                  clear H
                                  have H := H1
                                  clear H1
                                  have H' := Aside0.mk H
                                  clear H
                                  have p107 : 0 ≤ (x25_3 : Int) := of_decide_eq_true (by first | (with_reducible assumption) | assumption)
                                  have q107 : x25_3 < (((rd_T47 l0_2 x18_2).f1).length : Int) := of_decide_eq_true (by first | (with_reducible assumption) | assumption)
                                  obtain ⟨ad107, e107, hx107_0⟩ := Kd.at_int HR105_1.out x25_3 p107 q107
                                  cases e107
                                  replace hx107_0 := (HB.out.cell (World.block_lt_of_cell? w _ hx107_0)).trans hx107_0
                                  replace p107 := eq_true p107
                                  replace q107 := eq_true q107
                                  go_wp2
                                  go_roundg k3
                                  case measure => have := HK1.out; have := HK2.out; have := HK3.out; omega
                                  case rel => exact ⟨(true), (true), (wrap64 (x25_3 + 1)), (by first | rfl | (simp; done) | (simp [*]; done)), (by first | rfl | (simp; done) | (simp [*]; done)), (by first | rfl | (simp; done) | (simp [*]; done)), H', ⟨by have := HK1.out; have := HK2.out; have := HK3.out; omega⟩, ⟨by (with_reducible repeat (first | apply Kd.R_alloc | apply Kd.R_drewN | apply Kd.R_drew)); exact HO_3.out⟩, ⟨by (with_reducible repeat (first | apply Kd.R_alloc | apply Kd.R_drewN | apply Kd.R_drew)); exact HO_4.out⟩, ⟨by (with_reducible repeat (first | refine blk_drewN ?_ _ | refine blk_drew ?_ | refine blk_alloc ?_ _)); exact BK101.out⟩, ⟨by (with_reducible repeat (first | refine blk_drewN ?_ _ | refine blk_drew ?_ | refine blk_alloc ?_ _)); exact BK106.out⟩, ⟨by repeat (first | (with_reducible first | exact HB.out | apply below_alloc | apply pw_below_drewN | apply below_drew1 | refine below_set ?_ GE101.out | refine below_set ?_ GE106.out) | exact HB.out)⟩⟩
                                · replace c19 := Bool.eq_false_iff.mpr c19
                                  subst c19
                                  have H1 : (spec_l3Growing.l2 k3 t102 x4_2 x5_2 true true l0_2 (l0_2.length : Int) x18_2 ((rd_T47 l0_2 x18_2).f1) (((rd_T47 l0_2 x18_2).f1).length : Int) (wrap64 (x25_3 + 1)) a0_0 a0_1 l0_2 ((rd_T47 l0_2 x18_2).f0) ((rd_T47 l0_2 x18_2).f1)) = some r := by rw [if_neg (show ¬ (false = true) by decide)] at H; exact H
                                  clear H
                                  have H := H1
                                  clear H1
                                  have H' := Aside0.mk H
                                  clear H
                                  have p107 : 0 ≤ (x25_3 : Int) := of_decide_eq_true (by first | (with_reducible assumption) | assumption)
                                  have q107 : x25_3 < (((rd_T47 l0_2 x18_2).f1).length : Int) := of_decide_eq_true (by first | (with_reducible assumption) | assumption)
                                  obtain ⟨ad107, e107, hx107_0⟩ := Kd.at_int HR105_1.out x25_3 p107 q107
                                  cases e107
                                  replace hx107_0 := (HB.out.cell (World.block_lt_of_cell? w _ hx107_0)).trans hx107_0
                                  replace p107 := eq_true p107
                                  replace q107 := eq_true q107
                                  go_wp2
                                  go_roundg k3
                                  case measure => have := HK1.out; have := HK2.out; have := HK3.out; omega
                                  case rel => exact ⟨(true), (true), (wrap64 (x25_3 + 1)), (by first | rfl | (simp; done) | (simp [*]; done)), (by first | rfl | (simp; done) | (simp [*]; done)), (by first | rfl | (simp; done) | (simp [*]; done)), H', ⟨by have := HK1.out; have := HK2.out; have := HK3.out; omega⟩, ⟨by (with_reducible repeat (first | apply Kd.R_alloc | apply Kd.R_drewN | apply Kd.R_drew)); exact HO_3.out⟩, ⟨by (with_reducible repeat (first | apply Kd.R_alloc | apply Kd.R_drewN | apply Kd.R_drew)); exact HO_4.out⟩, ⟨by (with_reducible repeat (first | refine blk_drewN ?_ _ | refine blk_drew ?_ | refine blk_alloc ?_ _)); exact BK101.out⟩, ⟨by (with_reducible repeat (first | refine blk_drewN ?_ _ | refine blk_drew ?_ | refine blk_alloc ?_ _)); exact BK106.out⟩, ⟨by repeat (first | (with_reducible first | exact HB.out | apply below_alloc | apply pw_below_drewN | apply below_drew1 | refine below_set ?_ GE101.out | refine below_set ?_ GE106.out) | exact HB.out)⟩⟩
                              · rw [if_neg c18] at H
                                have c18b0 : decide ((rd ((rd_T47 l0_2 x18_2).f1) x25_3) < 0) = false := decide_eq_false c18
                                clear c18
                                replace H := Option.bind_eq_some_iff.mp H
                                obtain ⟨t108, A200, H⟩ := H
                                replace H : (if x9_3 = true then (spec_l3Growing.l2 k3 t102 x4_2 x5_2 t108 true l0_2 (l0_2.length : Int) x18_2 ((rd_T47 l0_2 x18_2).f1) (((rd_T47 l0_2 x18_2).f1).length : Int) (wrap64 (x25_3 + 1)) a0_0 a0_1 l0_2 ((rd_T47 l0_2 x18_2).f0) ((rd_T47 l0_2 x18_2).f1)) else ((spec_l1Has.f k3 x4_2 (rd ((rd_T47 l0_2 x18_2).f1) x25_3)).bind fun t109 => (spec_l3Growing.l2 k3 t102 x4_2 x5_2 t108 t109 l0_2 (l0_2.length : Int) x18_2 ((rd_T47 l0_2 x18_2).f1) (((rd_T47 l0_2 x18_2).f1).length : Int) (wrap64 (x25_3 + 1)) a0_0 a0_1 l0_2 ((rd_T47 l0_2 x18_2).f0) ((rd_T47 l0_2 x18_2).f1)))) = some r := H
                                have A20 := Aside0.mk A200
                                clear A200
                                by_cases c21 : x9_3 = true
                                · subst c21
                                  have H1 : (spec_l3Growing.l2 k3 t102 x4_2 x5_2 t108 true l0_2 (l0_2.length : Int) x18_2 ((rd_T47 l0_2 x18_2).f1) (((rd_T47 l0_2 x18_2).f1).length : Int) (wrap64 (x25_3 + 1)) a0_0 a0_1 l0_2 ((rd_T47 l0_2 x18_2).f0) ((rd_T47 l0_2 x18_2).f1)) = some r := by rw [if_pos rfl] at H; exact H
                                  clear H
                                  have H := H1
                                  clear H1
                                  have H' := Aside0.mk H
                                  clear H
                                  have p107 : 0 ≤ (x25_3 : Int) := of_decide_eq_true (by first | (with_reducible assumption) | assumption)
                                  have q107 : x25_3 < (((rd_T47 l0_2 x18_2).f1).length : Int) := of_decide_eq_true (by first | (with_reducible assumption) | assumption)
                                  obtain ⟨ad107, e107, hx107_0⟩ := Kd.at_int HR105_1.out x25_3 p107 q107
                                  cases e107
                                  replace hx107_0 := (HB.out.cell (World.block_lt_of_cell? w _ hx107_0)).trans hx107_0
                                  replace p107 := eq_true p107
                                  replace q107 := eq_true q107
                                  obtain ⟨Ao22, co22, eo22⟩ := Kd.R_slice HO_3.out
                                  subst eo22
                                  go_wp2_with (first | (go_at_call 66; (with_reducible refine (spec_l1Has.calls k3 _ _ t102 (rd ((rd_T47 l0_2 x18_2).f1) x25_3) t108 _ ?side1 ?side2 A20.out).mono ?_); (case side1 => repeat (first | exact (Kd.R_reads' HO_3.out).2.2 | (with_reducible refine Kd.C_alloc ?_ _) | (with_reducible refine Kd.C_drewN ?_ _) | (with_reducible refine Kd.C_drew ?_))); (case side2 => exact (Kd.R_reads' HO_3.out).2.1); rintro e w' ⟨rfl, ⟨nd, rfl⟩⟩))
                                  go_roundg k3
                                  case measure => have := HK1.out; have := HK2.out; have := HK3.out; omega
                                  case rel => exact ⟨(t108), (true), (wrap64 (x25_3 + 1)), (by first | rfl | (simp; done) | (simp [*]; done)), (by first | rfl | (simp; done) | (simp [*]; done)), (by first | rfl | (simp; done) | (simp [*]; done)), H', ⟨by have := HK1.out; have := HK2.out; have := HK3.out; omega⟩, ⟨by (with_reducible repeat (first | apply Kd.R_alloc | apply Kd.R_drewN | apply Kd.R_drew)); exact HO_3.out⟩, ⟨by (with_reducible repeat (first | apply Kd.R_alloc | apply Kd.R_drewN | apply Kd.R_drew)); exact HO_4.out⟩, ⟨by (with_reducible repeat (first | refine blk_drewN ?_ _ | refine blk_drew ?_ | refine blk_alloc ?_ _)); exact BK101.out⟩, ⟨by (with_reducible repeat (first | refine blk_drewN ?_ _ | refine blk_drew ?_ | refine blk_alloc ?_ _)); exact BK106.out⟩, ⟨by repeat (first | (with_reducible first | exact HB.out | apply below_alloc | apply pw_below_drewN | apply below_drew1 | refine below_set ?_ GE101.out | refine below_set ?_ GE106.out) | exact HB.out)⟩⟩
                                · replace c21 := Bool.eq_false_iff.mpr c21
                                  subst c21
                                  have H1 : ((spec_l1Has.f k3 x4_2 (rd ((rd_T47 l0_2 x18_2).f1) x25_3)).bind fun t109 => (spec_l3Growing.l2 k3 t102 x4_2 x5_2 t108 t109 l0_2 (l0_2.length : Int) x18_2 ((rd_T47 l0_2 x18_2).f1) (((rd_T47 l0_2 x18_2).f1).length : Int) (wrap64 (x25_3 + 1)) a0_0 a0_1 l0_2 ((rd_T47 l0_2 x18_2).f0) ((rd_T47 l0_2 x18_2).f1))) = some r := by rw [if_neg (show ¬ (false = true) by decide)] at H; exact H
                                  clear H
                                  have H := H1
                                  clear H1
                                  replace H := Option.bind_eq_some_iff.mp H
                                  obtain ⟨t109, A230, H⟩ := H
                                  replace H : (spec_l3Growing.l2 k3 t102 x4_2 x5_2 t108 t109 l0_2 (l0_2.length : Int) x18_2 ((rd_T47 l0_2 x18_2).f1) (((rd_T47 l0_2 x18_2).f1).length : Int) (wrap64 (x25_3 + 1)) a0_0 a0_1 l0_2 ((rd_T47 l0_2 x18_2).f0) ((rd_T47 l0_2 x18_2).f1)) = some r := H
                                  have A23 := Aside0.mk A230
                                  clear A230
                                  have H' := Aside0.mk H
                                  clear H
                                  have p107 : 0 ≤ (x25_3 : Int) := of_decide_eq_true (by first | (with_reducible assumption) | assumption)
                                  have q107 : x25_3 < (((rd_T47 l0_2 x18_2).f1).length : Int) := of_decide_eq_true (by first | (with_reducible assumption) | assumption)
                                  obtain ⟨ad107, e107, hx107_0⟩ := Kd.at_int HR105_1.out x25_3 p107 q107
                                  cases e107
                                  replace hx107_0 := (HB.out.cell (World.block_lt_of_cell? w _ hx107_0)).trans hx107_0
                                  replace p107 := eq_true p107
                                  replace q107 := eq_true q107
                                  obtain ⟨Ao24, co24, eo24⟩ := Kd.R_slice HO_3.out
                                  subst eo24
                                  go_wp2_with (first | (go_at_call 66; (with_reducible refine (spec_l1Has.calls k3 _ _ t102 (rd ((rd_T47 l0_2 x18_2).f1) x25_3) t108 _ ?side1 ?side2 A20.out).mono ?_); (case side1 => repeat (first | exact (Kd.R_reads' HO_3.out).2.2 | (with_reducible refine Kd.C_alloc ?_ _) | (with_reducible refine Kd.C_drewN ?_ _) | (with_reducible refine Kd.C_drew ?_))); (case side2 => exact (Kd.R_reads' HO_3.out).2.1); rintro e w' ⟨rfl, ⟨nd, rfl⟩⟩; obtain ⟨Ao25, co25, eo25⟩ := Kd.R_slice HO_4.out; subst eo25) | (go_at_call 66; (with_reducible refine (spec_l1Has.calls k3 _ _ x4_2 (rd ((rd_T47 l0_2 x18_2).f1) x25_3) t109 _ ?side1 ?side2 A23.out).mono ?_); (case side1 => repeat (first | exact (Kd.R_reads' HO_4.out).2.2 | (with_reducible refine Kd.C_alloc ?_ _) | (with_reducible refine Kd.C_drewN ?_ _) | (with_reducible refine Kd.C_drew ?_))); (case side2 => exact (Kd.R_reads' HO_4.out).2.1); rintro e w' ⟨rfl, ⟨nd, rfl⟩⟩))
                                  go_roundg k3
                                  case measure => have := HK1.out; have := HK2.out; have := HK3.out; omega
                                  case rel => exact ⟨(t108), (t109), (wrap64 (x25_3 + 1)), (by first | rfl | (simp; done) | (simp [*]; done)), (by first | rfl | (simp; done) | (simp [*]; done)), (by first | rfl | (simp; done) | (simp [*]; done)), H', ⟨by have := HK1.out; have := HK2.out; have := HK3.out; omega⟩, ⟨by (with_reducible repeat (first | apply Kd.R_alloc | apply Kd.R_drewN | apply Kd.R_drew)); exact HO_3.out⟩, ⟨by (with_reducible repeat (first | apply Kd.R_alloc | apply Kd.R_drewN | apply Kd.R_drew)); exact HO_4.out⟩, ⟨by (with_reducible repeat (first | refine blk_drewN ?_ _ | refine blk_drew ?_ | refine blk_alloc ?_ _)); exact BK101.out⟩, ⟨by (with_reducible repeat (first | refine blk_drewN ?_ _ | refine blk_drew ?_ | refine blk_alloc ?_ _)); exact BK106.out⟩, ⟨by repeat (first | (with_reducible first | exact HB.out | apply below_alloc | apply pw_below_drewN | apply below_drew1 | refine below_set ?_ GE101.out | refine below_set ?_ GE106.out) | exact HB.out)⟩⟩
                            · replace c17 := Bool.eq_false_iff.mpr c17
                              subst c17
                              have H1 : (if x9_3 = true then (spec_l3Growing.l2 k3 t102 x4_2 x5_2 false true l0_2 (l0_2.length : Int) x18_2 ((rd_T47 l0_2 x18_2).f1) (((rd_T47 l0_2 x18_2).f1).length : Int) (wrap64 (x25_3 + 1)) a0_0 a0_1 l0_2 ((rd_T47 l0_2 x18_2).f0) ((rd_T47 l0_2 x18_2).f1)) else (if (rd ((rd_T47 l0_2 x18_2).f1) x25_3) < 0 then (spec_l3Growing.l2 k3 t102 x4_2 x5_2 false true l0_2 (l0_2.length : Int) x18_2 ((rd_T47 l0_2 x18_2).f1) (((rd_T47 l0_2 x18_2).f1).length : Int) (wrap64 (x25_3 + 1)) a0_0 a0_1 l0_2 ((rd_T47 l0_2 x18_2).f0) ((rd_T47 l0_2 x18_2).f1)) else ((spec_l1Has.f k3 x4_2 (rd ((rd_T47 l0_2 x18_2).f1) x25_3)).bind fun t110 => (spec_l3Growing.l2 k3 t102 x4_2 x5_2 false t110 l0_2 (l0_2.length : Int) x18_2 ((rd_T47 l0_2 x18_2).f1) (((rd_T47 l0_2 x18_2).f1).length : Int) (wrap64 (x25_3 + 1)) a0_0 a0_1 l0_2 ((rd_T47 l0_2 x18_2).f0) ((rd_T47 l0_2 x18_2).f1))))) = some r := by rw [if_neg (show ¬ (false = true) by decide)] at H; exact H
                              clear H
                              have H := H1
                              clear H1
                              by_cases c26 : x9_3 = true
                              · subst c26
                                have H1 : (spec_l3Growing.l2 k3 t102 x4_2 x5_2 false true l0_2 (l0_2.length : Int) x18_2 ((rd_T47 l0_2 x18_2).f1) (((rd_T47 l0_2 x18_2).f1).length : Int) (wrap64 (x25_3 + 1)) a0_0 a0_1 l0_2 ((rd_T47 l0_2 x18_2).f0) ((rd_T47 l0_2 x18_2).f1)) = some r := by rw [if_pos rfl] at H; exact H
                                clear H
                                have H := H1
                                clear H1
                                have H' := Aside0.mk H
                                clear H
                                have p107 : 0 ≤ (x25_3 : Int) := of_decide_eq_true (by first | (with_reducible assumption) | assumption)
                                have q107 : x25_3 < (((rd_T47 l0_2 x18_2).f1).length : Int) := of_decide_eq_true (by first | (with_reducible assumption) | assumption)
                                obtain ⟨ad107, e107, hx107_0⟩ := Kd.at_int HR105_1.out x25_3 p107 q107
                                cases e107
                                replace hx107_0 := (HB.out.cell (World.block_lt_of_cell? w _ hx107_0)).trans hx107_0
                                replace p107 := eq_true p107
                                replace q107 := eq_true q107
                                go_wp2
                                go_roundg k3
                                case measure => have := HK1.out; have := HK2.out; have := HK3.out; omega
                                case rel => exact ⟨(false), (true), (wrap64 (x25_3 + 1)), (by first | rfl | (simp; done) | (simp [*]; done)), (by first | rfl | (simp; done) | (simp [*]; done)), (by first | rfl | (simp; done) | (simp [*]; done)), H', ⟨by have := HK1.out; have := HK2.out; have := HK3.out; omega⟩, ⟨by (with_reducible repeat (first | apply Kd.R_alloc | apply Kd.R_drewN | apply Kd.R_drew)); exact HO_3.out⟩, ⟨by (with_reducible repeat (first | apply Kd.R_alloc | apply Kd.R_drewN | apply Kd.R_drew)); exact HO_4.out⟩, ⟨by (with_reducible repeat (first | refine blk_drewN ?_ _ | refine blk_drew ?_ | refine blk_alloc ?_ _)); exact BK101.out⟩, ⟨by (with_reducible repeat (first | refine blk_drewN ?_ _ | refine blk_drew ?_ | refine blk_alloc ?_ _)); exact BK106.out⟩, ⟨by repeat (first | (with_reducible first | exact HB.out | apply below_alloc | apply pw_below_drewN | apply below_drew1 | refine below_set ?_ GE101.out | refine below_set ?_ GE106.out) | exact HB.out)⟩⟩
                              · replace c26 := Bool.eq_false_iff.mpr c26
                                subst c26
                                have H1 : (if (rd ((rd_T47 l0_2 x18_2).f1) x25_3) < 0 then (spec_l3Growing.l2 k3 t102 x4_2 x5_2 false true l0_2 (l0_2.length : Int) x18_2 ((rd_T47 l0_2 x18_2).f1) (((rd_T47 l0_2 x18_2).f1).length : Int) (wrap64 (x25_3 + 1)) a0_0 a0_1 l0_2 ((rd_T47 l0_2 x18_2).f0) ((rd_T47 l0_2 x18_2).f1)) else ((spec_l1Has.f k3 x4_2 (rd ((rd_T47 l0_2 x18_2).f1) x25_3)).bind fun t110 => (spec_l3Growing.l2 k3 t102 x4_2 x5_2 false t110 l0_2 (l0_2.length : Int) x18_2 ((rd_T47 l0_2 x18_2).f1) (((rd_T47 l0_2 x18_2).f1).length : Int) (wrap64 (x25_3 + 1)) a0_0 a0_1 l0_2 ((rd_T47 l0_2 x18_2).f0) ((rd_T47 l0_2 x18_2).f1)))) = some r := by rw [if_neg (show ¬ (false = true) by decide)] at H; exact H
                                clear H
                                have H := H1
                                clear H1
                                by_cases c27 : (rd ((rd_T47 l0_2 x18_2).f1) x25_3) < 0
                                · rw [if_pos c27] at H
                                  have c27b0 : decide ((rd ((rd_T47 l0_2 x18_2).f1) x25_3) < 0) = true := decide_eq_true c27
                                  clear c27
                                  have H' := Aside0.mk H
                                  clear H
                                  have p107 : 0 ≤ (x25_3 : Int) := of_decide_eq_true (by first | (with_reducible assumption) | assumption)
                                  have q107 : x25_3 < (((rd_T47 l0_2 x18_2).f1).length : Int) := of_decide_eq_true (by first | (with_reducible assumption) | assumption)
                                  obtain ⟨ad107, e107, hx107_0⟩ := Kd.at_int HR105_1.out x25_3 p107 q107
                                  cases e107
                                  replace hx107_0 := (HB.out.cell (World.block_lt_of_cell? w _ hx107_0)).trans hx107_0
                                  replace p107 := eq_true p107
                                  replace q107 := eq_true q107
                                  go_wp2
                                  go_roundg k3
                                  case measure => have := HK1.out; have := HK2.out; have := HK3.out; omega
                                  case rel => exact ⟨(false), (true), (wrap64 (x25_3 + 1)), (by first | rfl | (simp; done) | (simp [*]; done)), (by first | rfl | (simp; done) | (simp [*]; done)), (by first | rfl | (simp; done) | (simp [*]; done)), H', ⟨by have := HK1.out; have := HK2.out; have := HK3.out; omega⟩, ⟨by (with_reducible repeat (first | apply Kd.R_alloc | apply Kd.R_drewN | apply Kd.R_drew)); exact HO_3.out⟩, ⟨by (with_reducible repeat (first | apply Kd.R_alloc | apply Kd.R_drewN | apply Kd.R_drew)); exact HO_4.out⟩, ⟨by (with_reducible repeat (first | refine blk_drewN ?_ _ | refine blk_drew ?_ | refine blk_alloc ?_ _)); exact BK101.out⟩, ⟨by (with_reducible repeat (first | refine blk_drewN ?_ _ | refine blk_drew ?_ | refine blk_alloc ?_ _)); exact BK106.out⟩, ⟨by repeat (first | (with_reducible first | exact HB.out | apply below_alloc | apply pw_below_drewN | apply below_drew1 | refine below_set ?_ GE101.out | refine below_set ?_ GE106.out) | exact HB.out)⟩⟩
                                · rw [if_neg c27] at H
                                  have c27b0 : decide ((rd ((rd_T47 l0_2 x18_2).f1) x25_3) < 0) = false := decide_eq_false c27
                                  clear c27
                                  replace H := Option.bind_eq_some_iff.mp H
                                  obtain ⟨t110, A280, H⟩ := H
                                  replace H : (spec_l3Growing.l2 k3 t102 x4_2 x5_2 false t110 l0_2 (l0_2.length : Int) x18_2 ((rd_T47 l0_2 x18_2).f1) (((rd_T47 l0_2 x18_2).f1).length : Int) (wrap64 (x25_3 + 1)) a0_0 a0_1 l0_2 ((rd_T47 l0_2 x18_2).f0) ((rd_T47 l0_2 x18_2).f1)) = some r := H
                                  have A28 := Aside0.mk A280
                                  clear A280
                                  have H' := Aside0.mk H
                                  clear H
                                  have p107 : 0 ≤ (x25_3 : Int) := of_decide_eq_true (by first | (with_reducible assumption) | assumption)
                                  have q107 : x25_3 < (((rd_T47 l0_2 x18_2).f1).length : Int) := of_decide_eq_true (by first | (with_reducible assumption) | assumption)
                                  obtain ⟨ad107, e107, hx107_0⟩ := Kd.at_int HR105_1.out x25_3 p107 q107
                                  cases e107
                                  replace hx107_0 := (HB.out.cell (World.block_lt_of_cell? w _ hx107_0)).trans hx107_0
                                  replace p107 := eq_true p107
                                  replace q107 := eq_true q107
                                  obtain ⟨Ao29, co29, eo29⟩ := Kd.R_slice HO_4.out
                                  subst eo29
                                  go_wp2_with (first | (go_at_call 66; (with_reducible refine (spec_l1Has.calls k3 _ _ x4_2 (rd ((rd_T47 l0_2 x18_2).f1) x25_3) t110 _ ?side1 ?side2 A28.out).mono ?_); (case side1 => repeat (first | exact (Kd.R_reads' HO_4.out).2.2 | (with_reducible refine Kd.C_alloc ?_ _) | (with_reducible refine Kd.C_drewN ?_ _) | (with_reducible refine Kd.C_drew ?_))); (case side2 => exact (Kd.R_reads' HO_4.out).2.1); rintro e w' ⟨rfl, ⟨nd, rfl⟩⟩))
                                  go_roundg k3
                                  case measure => have := HK1.out; have := HK2.out; have := HK3.out; omega
                                  case rel => exact ⟨(false), (t110), (wrap64 (x25_3 + 1)), (by first | rfl | (simp; done) | (simp [*]; done)), (by first | rfl | (simp; done) | (simp [*]; done)), (by first | rfl | (simp; done) | (simp [*]; done)), H', ⟨by have := HK1.out; have := HK2.out; have := HK3.out; omega⟩, ⟨by (with_reducible repeat (first | apply Kd.R_alloc | apply Kd.R_drewN | apply Kd.R_drew)); exact HO_3.out⟩, ⟨by (with_reducible repeat (first | apply Kd.R_alloc | apply Kd.R_drewN | apply Kd.R_drew)); exact HO_4.out⟩, ⟨by (with_reducible repeat (first | refine blk_drewN ?_ _ | refine blk_drew ?_ | refine blk_alloc ?_ _)); exact BK101.out⟩, ⟨by (with_reducible repeat (first | refine blk_drewN ?_ _ | refine blk_drew ?_ | refine blk_alloc ?_ _)); exact BK106.out⟩, ⟨by repeat (first | (with_reducible first | exact HB.out | apply below_alloc | apply pw_below_drewN | apply below_drew1 | refine below_set ?_ GE101.out | refine below_set ?_ GE106.out) | exact HB.out)⟩⟩
                          · rw [if_neg c16] at H
                            exact absurd H (by simp)
                        · rw [if_neg c15] at H
                          exact absurd H (by simp)
                      · rw [if_neg c14] at H
                        have c14b0 : decide (x25_3 < (((rd_T47 l0_2 x18_2).f1).length : Int)) = false := decide_eq_false c14
                        clear c14
                        by_cases c30 : x8_3 = true
                        · subst c30
                          have H1 : (if x9_3 = true then ((spec_l1Has.f k3 x4_2 ((rd_T47 l0_2 x18_2).f0)).bind fun t111 => (if t111 = true then (spec_l3Growing.l1 k3 t102 x4_2 x5_2 l0_2 (l0_2.length : Int) (wrap64 (x18_2 + 1)) a0_0 a0_1 l0_2) else ((spec_l1Put.f k3 x4_2 ((rd_T47 l0_2 x18_2).f0)).bind fun t112 => (spec_l3Growing.l1 k3 t102 t112 true l0_2 (l0_2.length : Int) (wrap64 (x18_2 + 1)) a0_0 a0_1 l0_2)))) else (spec_l3Growing.l1 k3 t102 x4_2 x5_2 l0_2 (l0_2.length : Int) (wrap64 (x18_2 + 1)) a0_0 a0_1 l0_2)) = some r := by rw [if_pos rfl] at H; exact H
                          clear H
                          have H := H1
                          clear H1
                          by_cases c31 : x9_3 = true
                          · subst c31
                            have H1 : ((spec_l1Has.f k3 x4_2 ((rd_T47 l0_2 x18_2).f0)).bind fun t111 => (if t111 = true then (spec_l3Growing.l1 k3 t102 x4_2 x5_2 l0_2 (l0_2.length : Int) (wrap64 (x18_2 + 1)) a0_0 a0_1 l0_2) else ((spec_l1Put.f k3 x4_2 ((rd_T47 l0_2 x18_2).f0)).bind fun t112 => (spec_l3Growing.l1 k3 t102 t112 true l0_2 (l0_2.length : Int) (wrap64 (x18_2 + 1)) a0_0 a0_1 l0_2)))) = some r := by rw [if_pos rfl] at H; exact H
                            clear H
                            have H := H1
                            clear H1
                            replace H := Option.bind_eq_some_iff.mp H
                            obtain ⟨t111, A320, H⟩ := H
                            replace H : (if t111 = true then (spec_l3Growing.l1 k3 t102 x4_2 x5_2 l0_2 (l0_2.length : Int) (wrap64 (x18_2 + 1)) a0_0 a0_1 l0_2) else ((spec_l1Put.f k3 x4_2 ((rd_T47 l0_2 x18_2).f0)).bind fun t112 => (spec_l3Growing.l1 k3 t102 t112 true l0_2 (l0_2.length : Int) (wrap64 (x18_2 + 1)) a0_0 a0_1 l0_2))) = some r := H
                            have A32 := Aside0.mk A320
                            clear A320
                            by_cases c33 : t111 = true
                            · subst c33
                              have H1 : (spec_l3Growing.l1 k3 t102 x4_2 x5_2 l0_2 (l0_2.length : Int) (wrap64 (x18_2 + 1)) a0_0 a0_1 l0_2) = some r := by rw [if_pos rfl] at H; exact H
                              clear H
                              have H := H1
                              clear H1
                              have H' := Aside0.mk H
                              clear H
                              have hnb34 := NB106_101.out
                              have hnc34 := NB101_106.out
                              have hcz35_0 : wr.cell? ⟨gb106, 0, none⟩ = some (.int .i64 ((rd_T47 l0_2 x18_2).f0)) := (blk_cell BK106.out 0).trans rfl
                              have hcz35_1 : wr.cell? ⟨gb106, 1, none⟩ = some (.slice A105_1 ((rd_T47 l0_2 x18_2).f1).length c105_1) := (blk_cell BK106.out 1).trans rfl
                              have hfz35_0 := blk_frozen BK106.out 0
                              have hfz35_1 := blk_frozen BK106.out 1
                              obtain ⟨Ao36, co36, eo36⟩ := Kd.R_slice HO_4.out
                              subst eo36
                              go_wp2_with (first | (go_at_call 66; (with_reducible refine (spec_l1Has.calls k3 _ _ x4_2 ((rd_T47 l0_2 x18_2).f0) true _ ?side1 ?side2 A32.out).mono ?_); (case side1 => repeat (first | exact (Kd.R_reads' HO_4.out).2.2 | (with_reducible refine Kd.C_alloc ?_ _) | (with_reducible refine Kd.C_drewN ?_ _) | (with_reducible refine Kd.C_drew ?_))); (case side2 => exact (Kd.R_reads' HO_4.out).2.1); rintro e w' ⟨rfl, ⟨nd, rfl⟩⟩))
                              go_roundg k3
                              case measure => have := HK1.out; have := HK2.out; have := HK3.out; omega
                              case rel => exact ⟨(x4_2), (x5_2), (wrap64 (x18_2 + 1)), (by first | rfl | (simp; done) | (simp [*]; done)), (by first | rfl | (simp; done) | (simp [*]; done)), H', ⟨by have := HK1.out; have := HK2.out; have := HK3.out; omega⟩, ⟨by (with_reducible repeat (first | apply Kd.R_alloc | apply Kd.R_drewN | apply Kd.R_drew)); exact HO_3.out⟩, ⟨by (with_reducible repeat (first | apply Kd.R_alloc | apply Kd.R_drewN | apply Kd.R_drew)); exact HO_4.out⟩, ⟨by (with_reducible repeat (first | refine blk_drewN ?_ _ | refine blk_drew ?_ | refine blk_alloc ?_ _)); exact BK101.out⟩, ⟨by repeat (first | (with_reducible first | exact HB.out | apply below_alloc | apply pw_below_drewN | apply below_drew1 | refine below_set ?_ GE101.out | refine below_set ?_ GE106.out) | exact HB.out)⟩⟩
                            · replace c33 := Bool.eq_false_iff.mpr c33
                              subst c33
                              have H1 : ((spec_l1Put.f k3 x4_2 ((rd_T47 l0_2 x18_2).f0)).bind fun t112 => (spec_l3Growing.l1 k3 t102 t112 true l0_2 (l0_2.length : Int) (wrap64 (x18_2 + 1)) a0_0 a0_1 l0_2)) = some r := by rw [if_neg (show ¬ (false = true) by decide)] at H; exact H
                              clear H
                              have H := H1
                              clear H1
                              replace H := Option.bind_eq_some_iff.mp H
                              obtain ⟨t112, A370, H⟩ := H
                              replace H : (spec_l3Growing.l1 k3 t102 t112 true l0_2 (l0_2.length : Int) (wrap64 (x18_2 + 1)) a0_0 a0_1 l0_2) = some r := H
                              have A37 := Aside0.mk A370
                              clear A370
                              have H' := Aside0.mk H
                              clear H
                              have hnb38 := NB106_101.out
                              have hnc38 := NB101_106.out
                              have hcz39_0 : wr.cell? ⟨gb106, 0, none⟩ = some (.int .i64 ((rd_T47 l0_2 x18_2).f0)) := (blk_cell BK106.out 0).trans rfl
                              have hcz39_1 : wr.cell? ⟨gb106, 1, none⟩ = some (.slice A105_1 ((rd_T47 l0_2 x18_2).f1).length c105_1) := (blk_cell BK106.out 1).trans rfl
                              have hfz39_0 := blk_frozen BK106.out 0
                              have hfz39_1 := blk_frozen BK106.out 1
                              obtain ⟨Ao40, co40, eo40⟩ := Kd.R_slice HO_4.out
                              subst eo40
                              go_wp2_with (first | (go_at_call 66; (with_reducible refine (spec_l1Has.calls k3 _ _ x4_2 ((rd_T47 l0_2 x18_2).f0) false _ ?side1 ?side2 A32.out).mono ?_); (case side1 => repeat (first | exact (Kd.R_reads' HO_4.out).2.2 | (with_reducible refine Kd.C_alloc ?_ _) | (with_reducible refine Kd.C_drewN ?_ _) | (with_reducible refine Kd.C_drew ?_))); (case side2 => exact (Kd.R_reads' HO_4.out).2.1); rintro e w' ⟨rfl, ⟨nd, rfl⟩⟩) | ((with_reducible refine gate_callee (f := 67) rfl ?_); refine goesL_ (some 64) rfl rfl Try.func67 (by kernel_rfl) rfl #[.slice Ao40 x4_2.length co40, .int .i64 ((rd_T47 l0_2 x18_2).f0)] rfl (by (try simp only [List.map_toArray, List.map_cons, List.map_nil]); first | done | rfl | (simp only [List.length_drop, List.length_take]; rfl)) ?_; (with_reducible refine (spec_l1Put.calls k3 (fun k_ => some k_ = (.slice Ao40 x4_2.length co40 : Value).ownBlock) (.slice Ao40 x4_2.length co40) x4_2 ((rd_T47 l0_2 x18_2).f0) t112 w _ ?side1 ?side2 A37.out).mono ?_); (case side1 => repeat (first | (with_reducible first | exact HB.out | apply below_alloc | apply pw_below_drewN | apply below_drew1 | refine below_set ?_ GE101.out | refine below_set ?_ GE106.out) | exact HB.out)); (case side2 => exact Kd.R_tight rfl HO_4.out); rintro e w41 ⟨v113, rfl, ho0, hb, hkp⟩; refine ⟨_, rfl, ?_⟩; have n0_ := Aside0.mk (Kd.R_mono (ok' := fun k_ => some k_ ≠ (v113 : Value).ownBlock) (Kd.R_keptB (HO_3.out) hkp (fun k_ hk_ hs_ => (hk_) hs_)) (fun k_ hk_ => fun e_ => Or.elim (ho0.1 k_ e_.symm) (fun hs_ => hk_.2.1 hs_) (fun hn_ => Nat.not_le.2 hk_.2.2 hn_))); have n1_ := Aside0.mk (blk_kept (by (with_reducible repeat (first | refine blk_drewN ?_ _ | refine blk_drew ?_ | refine blk_alloc ?_ _)); exact BK101.out) hkp (fun hs_ => (fun e_ => (Kd.R_ne HO_4.out BK101.out (by decide)) e_) hs_)); have n2_ := Aside0.mk (blk_kept (by (with_reducible repeat (first | refine blk_drewN ?_ _ | refine blk_drew ?_ | refine blk_alloc ?_ _)); exact BK106.out) hkp (fun hs_ => (fun e_ => (Kd.R_ne HO_4.out BK106.out (by decide)) e_) hs_)); have n3_ := Aside0.mk (Kd.R_mono (ok' := fun k_ => some k_ ≠ (v103 : Value).ownBlock) ho0 (fun k_ hk_ => Or.elim hk_ (fun hs_ => fun e_ => (((HO_3.out).1 k_ e_.symm)) hs_) (fun hn_ => (Kd.fresh' (Kd.R_lt (by (with_reducible repeat (first | apply Kd.R_alloc | apply Kd.R_drewN | apply Kd.R_drew)); exact HO_3.out)) k_ hn_)))); have n4_ := Aside0.mk (hb); clear HO_3; clear BK101; clear BK106; clear HB; clear HO_4; have HO_3 := n0_; have BK101 := n1_; have BK106 := n2_; have HO114 := n3_; have HB := n4_; clear n0_ n1_ n2_ n3_ n4_; (try clear hb); (try clear hkp); (try clear ho0)))
                              go_roundg k3
                              case measure => have := HK1.out; have := HK2.out; have := HK3.out; omega
                              case rel => exact ⟨(t112), (true), (wrap64 (x18_2 + 1)), (by first | rfl | (simp; done) | (simp [*]; done)), (by first | rfl | (simp; done) | (simp [*]; done)), H', ⟨by have := HK1.out; have := HK2.out; have := HK3.out; omega⟩, ⟨by (with_reducible repeat (first | apply Kd.R_alloc | apply Kd.R_drewN | apply Kd.R_drew)); exact HO_3.out⟩, ⟨by (with_reducible repeat (first | apply Kd.R_alloc | apply Kd.R_drewN | apply Kd.R_drew)); exact HO114.out⟩, ⟨by (with_reducible repeat (first | refine blk_drewN ?_ _ | refine blk_drew ?_ | refine blk_alloc ?_ _)); exact BK101.out⟩, ⟨by repeat (first | (with_reducible first | exact HB.out | apply below_alloc | apply pw_below_drewN | apply below_drew1 | refine below_set ?_ GE101.out | refine below_set ?_ GE106.out) | exact HB.out)⟩⟩
                          · replace c31 := Bool.eq_false_iff.mpr c31
                            subst c31
                            have H1 : (spec_l3Growing.l1 k3 t102 x4_2 x5_2 l0_2 (l0_2.length : Int) (wrap64 (x18_2 + 1)) a0_0 a0_1 l0_2) = some r := by rw [if_neg (show ¬ (false = true) by decide)] at H; exact H
                            clear H
                            have H := H1
                            clear H1
                            have H' := Aside0.mk H
                            clear H
                            go_wp2
                            go_roundg k3
                            case measure => have := HK1.out; have := HK2.out; have := HK3.out; omega
                            case rel => exact ⟨(x4_2), (x5_2), (wrap64 (x18_2 + 1)), (by first | rfl | (simp; done) | (simp [*]; done)), (by first | rfl | (simp; done) | (simp [*]; done)), H', ⟨by have := HK1.out; have := HK2.out; have := HK3.out; omega⟩, ⟨by (with_reducible repeat (first | apply Kd.R_alloc | apply Kd.R_drewN | apply Kd.R_drew)); exact HO_3.out⟩, ⟨by (with_reducible repeat (first | apply Kd.R_alloc | apply Kd.R_drewN | apply Kd.R_drew)); exact HO_4.out⟩, ⟨by (with_reducible repeat (first | refine blk_drewN ?_ _ | refine blk_drew ?_ | refine blk_alloc ?_ _)); exact BK101.out⟩, ⟨by repeat (first | (with_reducible first | exact HB.out | apply below_alloc | apply pw_below_drewN | apply below_drew1 | refine below_set ?_ GE101.out | refine below_set ?_ GE106.out) | exact HB.out)⟩⟩
                        · replace c30 := Bool.eq_false_iff.mpr c30
                          subst c30
                          have H1 : (spec_l3Growing.l1 k3 t102 x4_2 x5_2 l0_2 (l0_2.length : Int) (wrap64 (x18_2 + 1)) a0_0 a0_1 l0_2) = some r := by rw [if_neg (show ¬ (false = true) by decide)] at H; exact H
                          clear H
                          have H := H1
                          clear H1
                          have H' := Aside0.mk H
                          clear H
                          go_wp2
                          go_roundg k3
                          case measure => have := HK1.out; have := HK2.out; have := HK3.out; omega
                          case rel => exact ⟨(x4_2), (x5_2), (wrap64 (x18_2 + 1)), (by first | rfl | (simp; done) | (simp [*]; done)), (by first | rfl | (simp; done) | (simp [*]; done)), H', ⟨by have := HK1.out; have := HK2.out; have := HK3.out; omega⟩, ⟨by (with_reducible repeat (first | apply Kd.R_alloc | apply Kd.R_drewN | apply Kd.R_drew)); exact HO_3.out⟩, ⟨by (with_reducible repeat (first | apply Kd.R_alloc | apply Kd.R_drewN | apply Kd.R_drew)); exact HO_4.out⟩, ⟨by (with_reducible repeat (first | refine blk_drewN ?_ _ | refine blk_drew ?_ | refine blk_alloc ?_ _)); exact BK101.out⟩, ⟨by repeat (first | (with_reducible first | exact HB.out | apply below_alloc | apply pw_below_drewN | apply below_drew1 | refine below_set ?_ GE101.out | refine below_set ?_ GE106.out) | exact HB.out)⟩⟩
                · rw [if_neg c10] at H
                  exact absurd H (by simp)
              · rw [if_neg c9] at H
                exact absurd H (by simp)
            · rw [if_neg c8] at H
              have c8b0 : decide (x18_2 < (l0_2.length : Int)) = false := decide_eq_false c8
              clear c8
              have H' := Aside0.mk H
              clear H
              go_wp2
              go_roundg k2
              case measure => have := HK1.out; have := HK2.out; omega
              case rel => exact ⟨(x4_2), (x5_2), (by first | rfl | (simp; done) | (simp [*]; done)), H', ⟨by have := HK1.out; have := HK2.out; omega⟩, ⟨by (with_reducible repeat (first | apply Kd.R_alloc | apply Kd.R_drewN | apply Kd.R_drew)); exact HO_3.out⟩, ⟨by (with_reducible repeat (first | apply Kd.R_alloc | apply Kd.R_drewN | apply Kd.R_drew)); exact HO_4.out⟩, ⟨by (with_reducible repeat (first | refine blk_drewN ?_ _ | refine blk_drew ?_ | refine blk_alloc ?_ _)); exact BK101.out⟩, ⟨by repeat (first | (with_reducible first | exact HB.out | apply below_alloc | apply pw_below_drewN | apply below_drew1 | refine below_set ?_ GE101.out) | exact HB.out)⟩⟩
      · replace c6 := Bool.eq_false_iff.mpr c6
        subst c6
        have H1 : (some x4_1) = some r := by rw [if_neg (show ¬ (false = true) by decide)] at H; exact H
        clear H
        have H := H1
        clear H1
        obtain rfl := Option.some.inj H
        go_wp2
        go_ret
        exact ⟨_, by first | rfl | (simp [errW_none, errW_some] <;> rfl) | (simp [*, errW_none, errW_some] <;> rfl), by (with_reducible repeat (first | apply Kd.R_alloc | apply Kd.R_drewN | apply Kd.R_drew)); exact Kd.R_mono HO_4.out (fun _ hk => trivial), by repeat (first | (with_reducible first | exact HB.out | apply below_alloc | apply pw_below_drewN | apply below_drew1 | refine below_set ?_ GE101.out) | exact HB.out)⟩

end Go.Proofs.Ytohbdjdjjbieeaa.P

/-! Pcl -/
/- Plain lists: the reference's closings come to what the program's come to. -/
namespace Go.Proofs.Ytohbdjdjjbieeaa.P
open Go.RowKit Go.Proofs.YtohbdjdjjbieeaaW.PrintWords
set_option linter.unusedVariables false
set_option linter.unusedSimpArgs false

theorem has_all : ∀ (b0 b1 b2 b3 b4 b5 : Bool) (n : Fin 6), spec_l1Has.f 10 (placesF 0 [b0, b1, b2, b3, b4, b5]) (n.val : Int) = some ([b0, b1, b2, b3, b4, b5].getD n.val false) := by decide +kernel
theorem put_all : ∀ (b0 b1 b2 b3 b4 b5 : Bool) (n : Fin 6), spec_l1Put.f 10 (placesF 0 [b0, b1, b2, b3, b4, b5]) (n.val : Int) = some (placesF 0 ([b0, b1, b2, b3, b4, b5].set n.val true)) := by decide +kernel
theorem has6 (s : List Bool) (hs : s.length = 6) (x : Int) (h0 : 0 ≤ x) (h6 : x < 6) (k : Nat) (hk : 10 ≤ k) : spec_l1Has.f k (placesF 0 s) x = some (s.getD x.toNat false) := by
  obtain ⟨b0, b1, b2, b3, b4, b5, rfl⟩ := six s hs
  have h := has_all b0 b1 b2 b3 b4 b5 ⟨x.toNat, by omega⟩
  rw [show ((⟨x.toNat, by omega⟩ : Fin 6).val : Int) = x by show (x.toNat : Int) = x; omega] at h
  exact at_rounds (g := fun k => spec_l1Has.f k (placesF 0 [b0, b1, b2, b3, b4, b5]) x) (fun k => spec_l1Has.mono _ _ k) hk h
theorem put6 (s : List Bool) (hs : s.length = 6) (x : Int) (h0 : 0 ≤ x) (h6 : x < 6) (k : Nat) (hk : 10 ≤ k) : spec_l1Put.f k (placesF 0 s) x = some (placesF 0 (s.set x.toNat true)) := by
  obtain ⟨b0, b1, b2, b3, b4, b5, rfl⟩ := six s hs
  have h := put_all b0 b1 b2 b3 b4 b5 ⟨x.toNat, by omega⟩
  rw [show ((⟨x.toNat, by omega⟩ : Fin 6).val : Int) = x by show (x.toNat : Int) = x; omega] at h
  exact at_rounds (g := fun k => spec_l1Put.f k (placesF 0 [b0, b1, b2, b3, b4, b5]) x) (fun k => spec_l1Put.mono _ _ k) hk h

theorem stepC_cnt (mk : S47 → List Bool → Bool) (x : S47) (hx : 0 ≤ x.f0 ∧ x.f0 < 6) (q : List Bool × Bool) (h : q.1.length = 6) :
    cntF (stepC mk x q).1 ≤ cntF q.1 ∧ ((stepC mk x q).2 = true → q.2 = true ∨ cntF (stepC mk x q).1 < cntF q.1) := by
  unfold stepC
  split
  · rename_i hc
    simp only [Bool.and_eq_true, Bool.not_eq_true'] at hc
    have := cntF_set q.1 x.f0.toNat (by omega) hc.1
    exact ⟨by dsimp only; omega, fun _ => .inr (by dsimp only; omega)⟩
  · exact ⟨Nat.le_refl _, fun h => .inl h⟩
theorem passC_cnt (mk : S47 → List Bool → Bool) (l : List S47) (hl : ∀ x, x ∈ l → 0 ≤ x.f0 ∧ x.f0 < 6) : ∀ q : List Bool × Bool, q.1.length = 6 →
    (passC mk l q).1.length = 6 ∧ cntF (passC mk l q).1 ≤ cntF q.1 ∧ ((passC mk l q).2 = true → q.2 = true ∨ cntF (passC mk l q).1 < cntF q.1) := by
  induction l with
  | nil => intro q h; exact ⟨h, Nat.le_refl _, fun h => .inl h⟩
  | cons x l ih =>
    intro q h
    obtain ⟨h1, h2, h3⟩ := ih (fun y hy => hl y (List.mem_cons_of_mem _ hy)) (stepC mk x q) (stepC_len mk x q h)
    obtain ⟨h4, h5⟩ := stepC_cnt mk x (hl x List.mem_cons_self) q h
    refine ⟨h1, Nat.le_trans h2 h4, fun h6 => ?_⟩
    rcases h3 h6 with h7 | h7
    · rcases h5 h7 with h8 | h8
      · exact .inl h8
      · exact .inr (Nat.lt_of_le_of_lt h2 h8)
    · exact .inr (Nat.lt_of_lt_of_le h7 h4)
theorem rd_mem {l : List S47} {x : S47} (h : x ∈ l) : ∃ j : Nat, j < l.length ∧ rd_T47 l j = x := by
  obtain ⟨j, hj, rfl⟩ := List.getElem_of_mem h
  refine ⟨j, hj, ?_⟩
  unfold rd_T47
  rw [List.getD_eq_getElem?_getD, Int.toNat_natCast, List.getElem?_eq_getElem hj]; rfl

/-- Rules that fit: every place within six, and lengths that fit. -/
def okL (l : List S47) : Prop := l.length ≤ 16 ∧ ∀ j : Nat, j < l.length → okR6 (rd_T47 l j) ∧ (rd_T47 l j).f1.length ≤ 4
theorem goodG_okL {nons toks : Int} {l : List S47} (h : goodG nons toks l = true) : okL l := by
  have hn := goodG_nons h
  exact ⟨hn.2.2, fun j hj => ⟨goodG_okR6 h j hj, (okR_parts hn.1.1 hn.1.2 (goodG_ok h j hj)).2.1⟩⟩
theorem okL_f0 {l : List S47} (h : okL l) : ∀ x, x ∈ l → 0 ≤ x.f0 ∧ x.f0 < 6 := fun x hx => by
  obtain ⟨j, hj, rfl⟩ := rd_mem hx
  exact (h.2 j hj).1.1

/-- All of a rule's symbols are so; a token where tokens count. -/
def allT (tok : Bool) (s : List Bool) (l : List Int) : Bool := l.all fun x => if x < 0 then tok else s.getD x.toNat false
def mkT (tok : Bool) (r : S47) (s : List Bool) : Bool := allT tok s r.f1
theorem mkT_nul : mkT false = mkNul := by
  funext r s
  unfold mkT mkNul allT
  induction r.f1 with
  | nil => rfl
  | cons x l ih =>
    rw [List.all_cons, ih, List.any_cons, Bool.not_or]
    congr 1
    unfold nulP
    by_cases h : x < 0
    · rw [if_pos h, decide_eq_true h]; rfl
    · rw [if_neg h, decide_eq_false h]; simp
theorem mkT_pro : mkT true = mkPro := by
  funext r s
  unfold mkT mkPro allT
  induction r.f1 with
  | nil => rfl
  | cons x l ih =>
    rw [List.all_cons, ih, List.any_cons, Bool.not_or]
    congr 1
    unfold proP
    by_cases h : x < 0
    · rw [if_pos h, decide_eq_false (by omega)]; rfl
    · rw [if_neg h, decide_eq_true (by omega)]; simp

theorem close_l2 (tok : Bool) (a0 a1 : Int) (l : List S47) (s : List Bool) (hs : s.length = 6) (ag : Bool) (i : Int) (y : S47) (hy : okR6 y) (hyl : y.f1.length ≤ 4) (X : List Int) (d : Nat) : ∀ (j : Nat) (x9 : Bool), j ≤ y.f1.length → y.f1.length - j = d →
    ((x9 && allT tok s (y.f1.drop j)) = true → Ev (fun k => spec_l3Close.l1 k tok (placesF 0 (s.set y.f0.toNat true)) true l l.length (wrap64 (i + 1)) a0 a1 l) X) →
    ((x9 && allT tok s (y.f1.drop j)) = false → Ev (fun k => spec_l3Close.l1 k tok (placesF 0 s) ag l l.length (wrap64 (i + 1)) a0 a1 l) X) →
    Ev (fun k => spec_l3Close.l2 k tok (placesF 0 s) ag x9 l l.length i y.f1 y.f1.length j a0 a1 l y.f0 y.f1) X := by
  induction d with
  | zero =>
    intro j x9 h1 hd hT hF
    rw [List.drop_of_length_le (by omega)] at hT hF
    cases x9 with
    | true =>
      obtain ⟨K, h⟩ := hT rfl
      dsimp only at h
      refine ⟨K + 11, fun k hk => ?_⟩
      dsimp only
      obtain ⟨k, rfl⟩ : ∃ m, k = m + 1 := ⟨k - 1, by omega⟩
      simp only [spec_l3Close.l2]
      rw [if_neg (by omega), if_pos trivial, put6 s hs y.f0 hy.1.1 hy.1.2 k (by omega)]
      exact h k (by omega)
    | false =>
      obtain ⟨K, h⟩ := hF rfl
      dsimp only at h
      refine ⟨K + 1, fun k hk => ?_⟩
      dsimp only
      obtain ⟨k, rfl⟩ : ∃ m, k = m + 1 := ⟨k - 1, by omega⟩
      simp only [spec_l3Close.l2]
      rw [if_neg (by omega), if_neg (by decide)]
      exact h k (by omega)
  | succ d ih =>
    intro j x9 h1 hd hT hF
    have hj : j < y.f1.length := by omega
    have hx6 := hy.2 j hj
    have hdj : y.f1.drop j = rd y.f1 j :: y.f1.drop (j + 1) := getD_drop y.f1 j 0 hj
    have ew : wrap64 ((j : Int) + 1) = ((j + 1 : Nat) : Int) := by unfold wrap64; omega
    have eall : allT tok s (y.f1.drop j) = ((if rd y.f1 j < 0 then tok else s.getD (rd y.f1 j).toNat false) && allT tok s (y.f1.drop (j + 1))) := by rw [hdj]; rfl
    rw [eall, ← Bool.and_assoc] at hT hF
    obtain ⟨K, h⟩ := ih (j + 1) (x9 && (if rd y.f1 j < 0 then tok else s.getD (rd y.f1 j).toNat false)) (by omega) (by omega) hT hF
    dsimp only at h
    refine ⟨K + 11, fun k hk => ?_⟩
    dsimp only
    obtain ⟨k, rfl⟩ : ∃ m, k = m + 1 := ⟨k - 1, by omega⟩
    have hk2 := h k (by omega)
    simp only [spec_l3Close.l2]
    rw [if_pos (by omega), if_pos (by omega), if_pos (by omega), ew]
    cases x9 with
    | false => rw [if_neg (by decide)]; simpa using hk2
    | true =>
      rw [if_pos rfl]
      by_cases hn : rd y.f1 j < 0
      · rw [if_pos hn] at hk2 ⊢
        cases tok with
        | true => rw [if_pos rfl]; simpa using hk2
        | false => rw [if_neg (by decide), if_neg (by omega)]; simpa using hk2
      · rw [if_neg hn] at hk2 ⊢
        rw [if_pos (by omega), has6 s hs (rd y.f1 j) (by omega) hx6 k (by omega)]
        simpa using hk2
theorem close_l1 (tok : Bool) (a0 a1 : Int) (l : List S47) (hl : okL l) (X : List Int) (d : Nat) : ∀ (i : Nat) (s : List Bool) (ag : Bool), s.length = 6 → i ≤ l.length → l.length - i = d →
    Ev (fun k => spec_l3Close.l0 k tok (placesF 0 (passC (mkT tok) (l.drop i) (s, ag)).1) (passC (mkT tok) (l.drop i) (s, ag)).2 a0 a1 l) X →
    Ev (fun k => spec_l3Close.l1 k tok (placesF 0 s) ag l l.length i a0 a1 l) X := by
  have hb := hl.1
  induction d with
  | zero =>
    intro i s ag hs h1 hd h0
    rw [List.drop_of_length_le (by omega)] at h0
    obtain ⟨K, h⟩ := h0
    dsimp only at h
    refine ⟨K + 1, fun k hk => ?_⟩
    dsimp only
    obtain ⟨k, rfl⟩ : ∃ m, k = m + 1 := ⟨k - 1, by omega⟩
    simp only [spec_l3Close.l1]
    rw [if_neg (by omega)]
    exact h k (by omega)
  | succ d ih =>
    intro i s ag hs h1 hd h0
    have hi : i < l.length := by omega
    obtain ⟨hy, hyl⟩ := hl.2 i hi
    have hdi : l.drop i = rd_T47 l i :: l.drop (i + 1) := getD_drop l i z47 hi
    rw [hdi] at h0
    have ew : wrap64 ((i : Int) + 1) = ((i + 1 : Nat) : Int) := by unfold wrap64; omega
    have hstep : ∀ q, passC (mkT tok) (rd_T47 l i :: l.drop (i + 1)) q = passC (mkT tok) (l.drop (i + 1)) (stepC (mkT tok) (rd_T47 l i) q) := fun _ => rfl
    rw [hstep] at h0
    obtain ⟨K, h⟩ := close_l2 tok a0 a1 l s hs ag i (rd_T47 l i) hy hyl X (rd_T47 l i).f1.length 0 (!s.getD (rd_T47 l i).f0.toNat false) (by omega) (by omega)
      (fun hc => by
        rw [List.drop_zero] at hc
        have e : stepC (mkT tok) (rd_T47 l i) (s, ag) = (s.set (rd_T47 l i).f0.toNat true, true) := by unfold stepC; exact if_pos hc
        rw [e] at h0
        rw [ew]
        exact ih (i + 1) _ _ (by rw [List.length_set]; exact hs) (by omega) (by omega) h0)
      (fun hc => by
        rw [List.drop_zero] at hc
        have e : stepC (mkT tok) (rd_T47 l i) (s, ag) = (s, ag) := by
          unfold stepC
          exact if_neg (by rw [Bool.eq_false_iff] at hc; exact hc)
        rw [e] at h0
        rw [ew]
        exact ih (i + 1) _ _ hs (by omega) (by omega) h0)
    dsimp only at h
    refine ⟨K + 11, fun k hk => ?_⟩
    dsimp only
    obtain ⟨k, rfl⟩ : ∃ m, k = m + 1 := ⟨k - 1, by omega⟩
    simp only [spec_l3Close.l1]
    rw [if_pos (by omega), if_pos (by omega), if_pos (by omega), has6 s hs _ hy.1.1 hy.1.2 k (by omega)]
    simp only [Option.bind_some]
    exact h k (by omega)
theorem close_l0 (tok : Bool) (a0 a1 : Int) (l : List S47) (hl : okL l) (n : Nat) : ∀ s : List Bool, s.length = 6 → cntF s < n →
    Ev (fun k => spec_l3Close.l0 k tok (placesF 0 s) true a0 a1 l) (placesF 0 (closeN (mkT tok) l n s)) := by
  induction n with
  | zero => intro s _ h; omega
  | succ n ih =>
    intro s hs hc
    obtain ⟨h1, h2, h3⟩ := passC_cnt (mkT tok) l (okL_f0 hl) (s, false) hs
    have key : Ev (fun k => spec_l3Close.l0 k tok (placesF 0 (passC (mkT tok) l (s, false)).1) (passC (mkT tok) l (s, false)).2 a0 a1 l) (placesF 0 (closeN (mkT tok) l (n + 1) s)) := by
      have e : closeN (mkT tok) l (n + 1) s = if (passC (mkT tok) l (s, false)).2 = true then closeN (mkT tok) l n (passC (mkT tok) l (s, false)).1 else (passC (mkT tok) l (s, false)).1 := rfl
      rw [e]
      cases hq : (passC (mkT tok) l (s, false)).2 with
      | true =>
        rw [if_pos rfl]
        refine ih _ h1 ?_
        rcases h3 hq with h4 | h4
        · cases h4
        · have h5 : cntF (passC (mkT tok) l (s, false)).1 < cntF s := h4
          omega
      | false =>
        rw [if_neg (by decide)]
        refine ⟨1, fun k hk => ?_⟩
        dsimp only
        obtain ⟨k, rfl⟩ : ∃ m, k = m + 1 := ⟨k - 1, by omega⟩
        simp only [spec_l3Close.l0]
        rw [if_neg (by decide)]
    obtain ⟨K, h⟩ := close_l1 tok a0 a1 l hl _ l.length 0 s false hs (by omega) (by omega) (by rw [List.drop_zero]; exact key)
    dsimp only at h
    refine ⟨K + 1, fun k hk => ?_⟩
    dsimp only
    obtain ⟨k, rfl⟩ : ∃ m, k = m + 1 := ⟨k - 1, by omega⟩
    simp only [spec_l3Close.l0]
    rw [if_pos trivial]
    exact h k (by omega)
theorem l3Close_ev (tok : Bool) (a0 a1 : Int) (l : List S47) (hl : okL l) : Ev (fun k => spec_l3Close.f k a0 a1 l tok) (placesF 0 (closedF (mkT tok) l)) :=
  close_l0 tok a0 a1 l hl 7 [false, false, false, false, false, false] rfl (by decide)
theorem passC_len (mk : S47 → List Bool → Bool) (l : List S47) (q : List Bool × Bool) (h : q.1.length = 6) : (passC mk l q).1.length = 6 := by
  induction l generalizing q with
  | nil => exact h
  | cons x l ih => exact ih _ (stepC_len mk x q h)
theorem closeN_len (mk : S47 → List Bool → Bool) (l : List S47) (n : Nat) : ∀ s : List Bool, s.length = 6 → (closeN mk l n s).length = 6 := by
  induction n with
  | zero => intro s h; exact h
  | succ n ih =>
    intro s h
    unfold closeN
    split
    · exact ih _ (passC_len mk l (s, false) h)
    · exact passC_len mk l (s, false) h
theorem closedF_len (mk : S47 → List Bool → Bool) (l : List S47) : (closedF mk l).length = 6 := closeN_len mk l 7 _ rfl
end Go.Proofs.Ytohbdjdjjbieeaa.P

/-! Pcg -/
/- Plain lists: the reference's growing comes to what the program's comes to. -/
namespace Go.Proofs.Ytohbdjdjjbieeaa.P
open Go.RowKit Go.Proofs.YtohbdjdjjbieeaaW.PrintWords
set_option linter.unusedVariables false
set_option linter.unusedSimpArgs false

theorem grow_l2 (pr : List Bool) (hp : pr.length = 6) (a0 a1 : Int) (l : List S47) (s : List Bool) (hs : s.length = 6) (ag : Bool) (i : Int) (y : S47) (hy : okR6 y) (hyl : y.f1.length ≤ 4) (X : List Int) (d : Nat) : ∀ (j : Nat) (x8 x9 : Bool), j ≤ y.f1.length → y.f1.length - j = d →
    ((!s.getD y.f0.toNat false && ((x8 && allT true pr (y.f1.drop j)) && (x9 || (y.f1.drop j).any (groP s)))) = true → Ev (fun k => spec_l3Growing.l1 k (placesF 0 pr) (placesF 0 (s.set y.f0.toNat true)) true l l.length (wrap64 (i + 1)) a0 a1 l) X) →
    ((!s.getD y.f0.toNat false && ((x8 && allT true pr (y.f1.drop j)) && (x9 || (y.f1.drop j).any (groP s)))) = false → Ev (fun k => spec_l3Growing.l1 k (placesF 0 pr) (placesF 0 s) ag l l.length (wrap64 (i + 1)) a0 a1 l) X) →
    Ev (fun k => spec_l3Growing.l2 k (placesF 0 pr) (placesF 0 s) ag x8 x9 l l.length i y.f1 y.f1.length j a0 a1 l y.f0 y.f1) X := by
  induction d with
  | zero =>
    intro j x8 x9 h1 hd hT hF
    rw [List.drop_of_length_le (by omega)] at hT hF
    have hv : s.getD y.f0.toNat false = true ∨ s.getD y.f0.toNat false = false := by cases s.getD y.f0.toNat false <;> simp
    have done : (x8 = true ∧ x9 = true ∧ s.getD y.f0.toNat false = false) ∨ Ev (fun k => spec_l3Growing.l1 k (placesF 0 pr) (placesF 0 s) ag l l.length (wrap64 (i + 1)) a0 a1 l) X := by
      cases x8 with
      | false => exact .inr (hF (by cases s.getD y.f0.toNat false <;> rfl))
      | true =>
        cases x9 with
        | false => exact .inr (hF (by cases s.getD y.f0.toNat false <;> rfl))
        | true =>
          rcases hv with hv | hv
          · exact .inr (hF (by rw [hv]; rfl))
          · exact .inl ⟨rfl, rfl, hv⟩
    rcases done with ⟨rfl, rfl, hv⟩ | ⟨K, h⟩
    · obtain ⟨K, h⟩ := hT (by rw [hv]; rfl)
      dsimp only at h
      refine ⟨K + 11, fun k hk => ?_⟩
      dsimp only
      obtain ⟨k, rfl⟩ : ∃ m, k = m + 1 := ⟨k - 1, by omega⟩
      simp only [spec_l3Growing.l2]
      rw [if_neg (by omega), if_pos trivial, if_pos trivial, has6 s hs y.f0 hy.1.1 hy.1.2 k (by omega), hv]
      simp only [Option.bind_some]
      rw [if_neg (by decide), put6 s hs y.f0 hy.1.1 hy.1.2 k (by omega)]
      exact h k (by omega)
    · dsimp only at h
      by_cases hx : x8 = true ∧ x9 = true
      · obtain ⟨rfl, rfl⟩ := hx
        rcases hv with hv | hv
        · refine ⟨K + 11, fun k hk => ?_⟩
          dsimp only
          obtain ⟨k, rfl⟩ : ∃ m, k = m + 1 := ⟨k - 1, by omega⟩
          simp only [spec_l3Growing.l2]
          rw [if_neg (by omega), if_pos trivial, if_pos trivial, has6 s hs y.f0 hy.1.1 hy.1.2 k (by omega), hv]
          simp only [Option.bind_some]
          rw [if_pos trivial]
          exact h k (by omega)
        · obtain ⟨K2, h2⟩ := hT (by rw [hv]; rfl)
          dsimp only at h2
          refine ⟨K2 + 11, fun k hk => ?_⟩
          dsimp only
          obtain ⟨k, rfl⟩ : ∃ m, k = m + 1 := ⟨k - 1, by omega⟩
          simp only [spec_l3Growing.l2]
          rw [if_neg (by omega), if_pos trivial, if_pos trivial, has6 s hs y.f0 hy.1.1 hy.1.2 k (by omega), hv]
          simp only [Option.bind_some]
          rw [if_neg (by decide), put6 s hs y.f0 hy.1.1 hy.1.2 k (by omega)]
          exact h2 k (by omega)
      · refine ⟨K + 1, fun k hk => ?_⟩
        dsimp only
        obtain ⟨k, rfl⟩ : ∃ m, k = m + 1 := ⟨k - 1, by omega⟩
        simp only [spec_l3Growing.l2]
        rw [if_neg (by omega)]
        cases x8 with
        | false => rw [if_neg (by decide)]; exact h k (by omega)
        | true =>
          rw [if_pos rfl]
          cases x9 with
          | false => rw [if_neg (by decide)]; exact h k (by omega)
          | true => exact absurd ⟨rfl, rfl⟩ hx
  | succ d ih =>
    intro j x8 x9 h1 hd hT hF
    have hj : j < y.f1.length := by omega
    have hx6 := hy.2 j hj
    have hdj : y.f1.drop j = rd y.f1 j :: y.f1.drop (j + 1) := getD_drop y.f1 j 0 hj
    have ew : wrap64 ((j : Int) + 1) = ((j + 1 : Nat) : Int) := by unfold wrap64; omega
    have eall : allT true pr (y.f1.drop j) = ((if rd y.f1 j < 0 then true else pr.getD (rd y.f1 j).toNat false) && allT true pr (y.f1.drop (j + 1))) := by rw [hdj]; rfl
    have eany : (y.f1.drop j).any (groP s) = (groP s (rd y.f1 j) || (y.f1.drop (j + 1)).any (groP s)) := by rw [hdj]; rfl
    rw [eall, eany, ← Bool.and_assoc x8, ← Bool.or_assoc x9] at hT hF
    obtain ⟨K, h⟩ := ih (j + 1) (x8 && (if rd y.f1 j < 0 then true else pr.getD (rd y.f1 j).toNat false)) (x9 || groP s (rd y.f1 j)) (by omega) (by omega) hT hF
    dsimp only at h
    refine ⟨K + 11, fun k hk => ?_⟩
    dsimp only
    obtain ⟨k, rfl⟩ : ∃ m, k = m + 1 := ⟨k - 1, by omega⟩
    have hk2 := h k (by omega)
    simp only [spec_l3Growing.l2]
    rw [if_pos (by omega), if_pos (by omega), if_pos (by omega), ew]
    by_cases hn : rd y.f1 j < 0
    · have hg : groP s (rd y.f1 j) = true := by unfold groP; rw [decide_eq_true hn]; rfl
      rw [if_pos hn, hg] at hk2
      cases x8 <;> cases x9 <;> simpa [hn] using hk2
    · have hg : groP s (rd y.f1 j) = s.getD (rd y.f1 j).toNat false := by unfold groP; rw [decide_eq_false hn]; rfl
      rw [if_neg hn, hg] at hk2
      have e1 := has6 s hs (rd y.f1 j) (by omega) hx6 k (by omega)
      have e2 := has6 pr hp (rd y.f1 j) (by omega) hx6 k (by omega)
      cases x8 <;> cases x9 <;> simpa [hn, e1, e2] using hk2
theorem grow_l1 (pr : List Bool) (hp : pr.length = 6) (a0 a1 : Int) (l : List S47) (hl : okL l) (X : List Int) (d : Nat) : ∀ (i : Nat) (s : List Bool) (ag : Bool), s.length = 6 → i ≤ l.length → l.length - i = d →
    Ev (fun k => spec_l3Growing.l0 k (placesF 0 pr) (placesF 0 (passC (mkGro pr) (l.drop i) (s, ag)).1) (passC (mkGro pr) (l.drop i) (s, ag)).2 a0 a1 l) X →
    Ev (fun k => spec_l3Growing.l1 k (placesF 0 pr) (placesF 0 s) ag l l.length i a0 a1 l) X := by
  have hb := hl.1
  induction d with
  | zero =>
    intro i s ag hs h1 hd h0
    rw [List.drop_of_length_le (by omega)] at h0
    obtain ⟨K, h⟩ := h0
    dsimp only at h
    refine ⟨K + 1, fun k hk => ?_⟩
    dsimp only
    obtain ⟨k, rfl⟩ : ∃ m, k = m + 1 := ⟨k - 1, by omega⟩
    simp only [spec_l3Growing.l1]
    rw [if_neg (by omega)]
    exact h k (by omega)
  | succ d ih =>
    intro i s ag hs h1 hd h0
    have hi : i < l.length := by omega
    obtain ⟨hy, hyl⟩ := hl.2 i hi
    have hdi : l.drop i = rd_T47 l i :: l.drop (i + 1) := getD_drop l i z47 hi
    rw [hdi] at h0
    have ew : wrap64 ((i : Int) + 1) = ((i + 1 : Nat) : Int) := by unfold wrap64; omega
    have hstep : ∀ q, passC (mkGro pr) (rd_T47 l i :: l.drop (i + 1)) q = passC (mkGro pr) (l.drop (i + 1)) (stepC (mkGro pr) (rd_T47 l i) q) := fun _ => rfl
    rw [hstep] at h0
    have hmk : ((true && allT true pr (rd_T47 l i).f1) && (false || (rd_T47 l i).f1.any (groP s))) = mkGro pr (rd_T47 l i) s := by
      have e1 : allT true pr (rd_T47 l i).f1 = mkPro (rd_T47 l i) pr := congrFun (congrFun mkT_pro (rd_T47 l i)) pr
      rw [Bool.true_and, Bool.false_or, e1]; rfl
    obtain ⟨K, h⟩ := grow_l2 pr hp a0 a1 l s hs ag i (rd_T47 l i) hy hyl X (rd_T47 l i).f1.length 0 true false (by omega) (by omega)
      (fun hc => by
        rw [List.drop_zero, hmk] at hc
        have e : stepC (mkGro pr) (rd_T47 l i) (s, ag) = (s.set (rd_T47 l i).f0.toNat true, true) := by unfold stepC; exact if_pos hc
        rw [e] at h0
        rw [ew]
        exact ih (i + 1) _ _ (by rw [List.length_set]; exact hs) (by omega) (by omega) h0)
      (fun hc => by
        rw [List.drop_zero, hmk] at hc
        have e : stepC (mkGro pr) (rd_T47 l i) (s, ag) = (s, ag) := by
          unfold stepC
          exact if_neg (by rw [Bool.eq_false_iff] at hc; exact hc)
        rw [e] at h0
        rw [ew]
        exact ih (i + 1) _ _ hs (by omega) (by omega) h0)
    dsimp only at h
    refine ⟨K + 11, fun k hk => ?_⟩
    dsimp only
    obtain ⟨k, rfl⟩ : ∃ m, k = m + 1 := ⟨k - 1, by omega⟩
    simp only [spec_l3Growing.l1]
    rw [if_pos (by omega), if_pos (by omega), if_pos (by omega)]
    exact h k (by omega)
theorem grow_l0 (pr : List Bool) (hp : pr.length = 6) (a0 a1 : Int) (l : List S47) (hl : okL l) (n : Nat) : ∀ s : List Bool, s.length = 6 → cntF s < n →
    Ev (fun k => spec_l3Growing.l0 k (placesF 0 pr) (placesF 0 s) true a0 a1 l) (placesF 0 (closeN (mkGro pr) l n s)) := by
  induction n with
  | zero => intro s _ h; omega
  | succ n ih =>
    intro s hs hc
    obtain ⟨h1, h2, h3⟩ := passC_cnt (mkGro pr) l (okL_f0 hl) (s, false) hs
    have key : Ev (fun k => spec_l3Growing.l0 k (placesF 0 pr) (placesF 0 (passC (mkGro pr) l (s, false)).1) (passC (mkGro pr) l (s, false)).2 a0 a1 l) (placesF 0 (closeN (mkGro pr) l (n + 1) s)) := by
      have e : closeN (mkGro pr) l (n + 1) s = if (passC (mkGro pr) l (s, false)).2 = true then closeN (mkGro pr) l n (passC (mkGro pr) l (s, false)).1 else (passC (mkGro pr) l (s, false)).1 := rfl
      rw [e]
      cases hq : (passC (mkGro pr) l (s, false)).2 with
      | true =>
        rw [if_pos rfl]
        refine ih _ h1 ?_
        rcases h3 hq with h4 | h4
        · cases h4
        · have h5 : cntF (passC (mkGro pr) l (s, false)).1 < cntF s := h4
          omega
      | false =>
        rw [if_neg (by decide)]
        refine ⟨1, fun k hk => ?_⟩
        dsimp only
        obtain ⟨k, rfl⟩ : ∃ m, k = m + 1 := ⟨k - 1, by omega⟩
        simp only [spec_l3Growing.l0]
        rw [if_neg (by decide)]
    obtain ⟨K, h⟩ := grow_l1 pr hp a0 a1 l hl _ l.length 0 s false hs (by omega) (by omega) (by rw [List.drop_zero]; exact key)
    dsimp only at h
    refine ⟨K + 1, fun k hk => ?_⟩
    dsimp only
    obtain ⟨k, rfl⟩ : ∃ m, k = m + 1 := ⟨k - 1, by omega⟩
    simp only [spec_l3Growing.l0]
    rw [if_pos trivial]
    exact h k (by omega)
theorem l3Growing_ev (a0 a1 : Int) (l : List S47) (hl : okL l) : Ev (fun k => spec_l3Growing.f k a0 a1 l) (placesF 0 (closedF (mkGro (closedF mkPro l)) l)) := by
  obtain ⟨K1, h1⟩ := l3Close_ev true a0 a1 l hl
  obtain ⟨K2, h2⟩ := grow_l0 (closedF mkPro l) (closedF_len mkPro l) a0 a1 l hl 7 [false, false, false, false, false, false] rfl (by decide)
  dsimp only at h1 h2
  rw [mkT_pro] at h1
  refine ⟨K1 + K2, fun k hk => ?_⟩
  dsimp only
  unfold spec_l3Growing.f
  rw [h1 k (by omega)]
  exact h2 k (by omega)
end Go.Proofs.Ytohbdjdjjbieeaa.P

/-! F26 -/
namespace Go.Proofs.Ytohbdjdjjbieeaa.P
open Go.RowKit Go.Proofs.YtohbdjdjjbieeaaW.PrintWords Go.Proofs.YtohbdjdjjbieeaaW.PrintLast Go.Proofs.YtohbdjdjjbieeaaW.PrintMore
attribute [local go_sem] max2_int min2_int max_two min_two max_three min_three max_four min_four   -- for this text's walks alone
set_option linter.unusedVariables false
set_option linter.unusedSimpArgs false

/-! ### spec_GrowingOf: function 26 -/
def spec_GrowingOf.f (k : Nat) (a0_0 : Int) (a0_1 : Int) (l0_2 : List (S47)) : Option (List Int × Bool) := (spec_GoodGrammar.f k a0_0 a0_1 l0_2).bind fun t102 => (if t102 = true then ((spec_l3Growing.f k a0_0 a0_1 l0_2).bind fun t103 => (some (t103, true))) else (some (([] : List Int), false)))
theorem spec_GrowingOf.mono : ∀ a0 a1 a2 k, LeO (spec_GrowingOf.f k a0 a1 a2) (spec_GrowingOf.f (k + 1) a0 a1 a2) := by
  intro a0 a1 a2 k
  unfold spec_GrowingOf.f
  repeat' first
      | (with_reducible exact spec_GoodGrammar.mono _ _ _ _)
      | (with_reducible exact spec_l3Growing.mono _ _ _ _)
      | (with_reducible exact LeO.refl _)
      | (with_reducible exact LeO.none _)
      | (with_reducible refine LeO.ite ?_ ?_)
      | (with_reducible refine LeO.bind ?_ (fun _ => ?_))
      | exact spec_GoodGrammar.mono _ _ _ _
      | exact spec_l3Growing.mono _ _ _ _
      | exact LeO.none _
      | refine LeO.ite ?_ ?_
      | refine LeO.bind ?_ (fun _ => ?_)
set_option maxHeartbeats 8000000 in
set_option maxRecDepth 100000 in
theorem spec_GrowingOf.calls (k : Nat) (a0_0 : Int) (a0_1 : Int) (A0_2 : Option Addr) (c0_2 : Nat) (l0_2 : List (S47)) (r1 : List Int) (r2 : Bool) (w : World) (hr0_2 : Kd.C k47 w A0_2 l0_2.length l0_2) (hc0_2 : l0_2.length ≤ c0_2) (h : spec_GrowingOf.f k a0_0 a0_1 l0_2 = some (r1, r2)) :
    Calls Try.prog 26 #[.agg #[.int .i64 a0_0, .int .i64 a0_1, .slice A0_2 l0_2.length c0_2]] w fun e w' => ∃ v0_ : Value, e = .returned (.tuple #[v0_, .bool r2]) ∧ Kd.R (Kd.int .i64) 3 w' w.heap.size (fun _ => True) v0_ r1 ∧ Below w.heap.size w w' := by
  have hu30 := Try.underlying30
  have HR0_2 := Aside0.mk hr0_2
  have HC0_2 := Aside0.mk hc0_2
  clear hr0_2 hc0_2
  have HB := Aside0.mk (Below.refl w.heap.size w)
  have H : ((spec_GoodGrammar.f k a0_0 a0_1 l0_2).bind fun t102 => (if t102 = true then ((spec_l3Growing.f k a0_0 a0_1 l0_2).bind fun t103 => (some (t103, true))) else (some (([] : List Int), false)))) = some (r1, r2) := h
  clear h
  replace H := Option.bind_eq_some_iff.mp H
  obtain ⟨t102, A20, H⟩ := H
  replace H : (if t102 = true then ((spec_l3Growing.f k a0_0 a0_1 l0_2).bind fun t103 => (some (t103, true))) else (some (([] : List Int), false))) = some (r1, r2) := H
  have A2 := Aside0.mk A20
  clear A20
  by_cases c3 : t102 = true
  · subst c3
    have H1 : ((spec_l3Growing.f k a0_0 a0_1 l0_2).bind fun t103 => (some (t103, true))) = some (r1, r2) := by rw [if_pos rfl] at H; exact H
    clear H
    have H := H1
    clear H1
    replace H := Option.bind_eq_some_iff.mp H
    obtain ⟨t103, A40, H⟩ := H
    replace H : (some (t103, true)) = some (r1, r2) := H
    have A4 := Aside0.mk A40
    clear A40
    simp only [Option.some.injEq, Prod.mk.injEq] at H
    obtain ⟨rfl, rfl⟩ := H
    go_enter Try.func26, Try.ntmps26
    go_wp2_with (first | ((with_reducible refine gate_dst (N := 1) rfl ?_); refine box_event ?hg (N := 1) ?hd (cs := #[.int .i64 a0_0, .int .i64 a0_1, .slice A0_2 l0_2.length c0_2]) (t := 30) ?hr ?_; (case hd => rfl); (case hg => rfl); (case hr => first | (go_simp; done) | (go_simp; rfl)); intro gb101 hg w5 hbox hb; have n0_ := Aside0.mk (below_step (by repeat (first | (with_reducible first | exact HB.out | apply below_alloc | apply pw_below_drewN | apply below_drew1) | exact HB.out)) hb); have n1_ := Aside0.mk (hbox); have n2_ := Aside0.mk ((by rw [hg]; exact (below_size (by repeat (first | (with_reducible first | exact HB.out | apply below_alloc | apply pw_below_drewN | apply below_drew1) | exact HB.out))) : w.heap.size ≤ gb101)); have n3_ := Aside0.mk ((by rw [hg]; exact (below_size (by repeat (first | (with_reducible first | exact HB.out | apply below_alloc | apply pw_below_drewN | apply below_drew1) | exact HB.out))) : w.heap.size ≤ gb101)); clear HB; have HB := n0_; have BK101 := n1_; have GW101 := n2_; have GE101 := n3_; clear n0_ n1_ n2_ n3_; clear hb hbox hg; have hcz6_0 : w5.cell? ⟨gb101, 0, none⟩ = some (.int .i64 a0_0) := (blk_cell BK101.out 0).trans rfl; have hcz6_1 : w5.cell? ⟨gb101, 1, none⟩ = some (.int .i64 a0_1) := (blk_cell BK101.out 1).trans rfl; have hcz6_2 : w5.cell? ⟨gb101, 2, none⟩ = some (.slice A0_2 l0_2.length c0_2) := (blk_cell BK101.out 2).trans rfl; have hfz6_0 := blk_frozen BK101.out 0; have hfz6_1 := blk_frozen BK101.out 1; have hfz6_2 := blk_frozen BK101.out 2) | ((with_reducible refine gate_callee (f := 36) rfl ?_); refine goesL_ (some 5) rfl rfl Try.func36 (by kernel_rfl) rfl #[.agg #[.int .i64 a0_0, .int .i64 a0_1, .slice A0_2 l0_2.length c0_2]] rfl (by (try simp only [List.map_toArray, List.map_cons, List.map_nil]); first | done | rfl | (simp only [List.length_drop, List.length_take]; rfl)) ?_; (with_reducible refine (spec_GoodGrammar.calls k a0_0 a0_1 _ _ l0_2 true _ ?side1 ?side2 A2.out).mono ?_); (case side1 => repeat (first | exact (Kd.C_below HR0_2.out HB.out) | (with_reducible refine Kd.C_alloc ?_ _) | (with_reducible refine Kd.C_drewN ?_ _) | (with_reducible refine Kd.C_drew ?_))); (case side2 => exact HC0_2.out); rintro e w7 ⟨rfl, hb⟩; refine ⟨_, rfl, ?_⟩; have n0_ := Aside0.mk (blk_below (g := gb101) (o := .cells #[.int .i64 a0_0, .int .i64 a0_1, .slice A0_2 l0_2.length c0_2] 30 (0, 0)) (by (with_reducible repeat (first | refine blk_drewN ?_ _ | refine blk_drew ?_ | refine blk_alloc ?_ _)); exact BK101.out) hb); have n1_ := Aside0.mk (below_step (by repeat (first | (with_reducible first | exact HB.out | apply below_alloc | apply pw_below_drewN | apply below_drew1 | refine below_set ?_ GE101.out) | exact HB.out)) hb); clear BK101; clear HB; have BK101 := n0_; have HB := n1_; clear n0_ n1_; (try clear hb); (try clear hb2); (try clear hk); (try clear hi); have hcz8_0 : w7.cell? ⟨gb101, 0, none⟩ = some (.int .i64 a0_0) := (blk_cell BK101.out 0).trans rfl; have hcz8_1 : w7.cell? ⟨gb101, 1, none⟩ = some (.int .i64 a0_1) := (blk_cell BK101.out 1).trans rfl; have hcz8_2 : w7.cell? ⟨gb101, 2, none⟩ = some (.slice A0_2 l0_2.length c0_2) := (blk_cell BK101.out 2).trans rfl; have hfz8_0 := blk_frozen BK101.out 0; have hfz8_1 := blk_frozen BK101.out 1; have hfz8_2 := blk_frozen BK101.out 2) | ((with_reducible refine gate_callee (f := 48) rfl ?_); refine goesL_ (some 8) rfl rfl Try.func48 (by kernel_rfl) rfl #[.agg #[.int .i64 a0_0, .int .i64 a0_1, .slice A0_2 l0_2.length c0_2]] rfl (by (try simp only [List.map_toArray, List.map_cons, List.map_nil]); first | done | rfl | (simp only [List.length_drop, List.length_take]; rfl)) ?_; (with_reducible refine (spec_l3Growing.calls k a0_0 a0_1 _ _ l0_2 t103 _ ?side1 ?side2 A4.out).mono ?_); (case side1 => repeat (first | exact (Kd.C_below HR0_2.out HB.out) | (with_reducible refine Kd.C_alloc ?_ _) | (with_reducible refine Kd.C_drewN ?_ _) | (with_reducible refine Kd.C_drew ?_))); (case side2 => exact HC0_2.out); rintro e w9 ⟨v104, rfl, ho0, hb⟩; refine ⟨_, rfl, ?_⟩; have n0_ := Aside0.mk (Kd.R_lower ho0 (below_size (by repeat (first | (with_reducible first | exact HB.out | apply below_alloc | apply pw_below_drewN | apply below_drew1 | refine below_set ?_ GE101.out) | exact HB.out)))); have n1_ := Aside0.mk (blk_below (g := gb101) (o := .cells #[.int .i64 a0_0, .int .i64 a0_1, .slice A0_2 l0_2.length c0_2] 30 (0, 0)) (by (with_reducible repeat (first | refine blk_drewN ?_ _ | refine blk_drew ?_ | refine blk_alloc ?_ _)); exact BK101.out) hb); have n2_ := Aside0.mk (below_step (by repeat (first | (with_reducible first | exact HB.out | apply below_alloc | apply pw_below_drewN | apply below_drew1 | refine below_set ?_ GE101.out) | exact HB.out)) hb); clear BK101; clear HB; have HO105 := n0_; have BK101 := n1_; have HB := n2_; clear n0_ n1_ n2_; (try clear hb); (try clear hb2); (try clear hk); (try clear hi); (try clear ho0)))
    go_ret2
    exact ⟨_, by first | rfl | (simp [errW_none, errW_some] <;> rfl) | (simp [*, errW_none, errW_some] <;> rfl), by (with_reducible repeat (first | apply Kd.R_alloc | apply Kd.R_drewN | apply Kd.R_drew)); exact HO105.out, by repeat (first | (with_reducible first | exact HB.out | apply below_alloc | apply pw_below_drewN | apply below_drew1 | refine below_set ?_ GE101.out) | exact HB.out)⟩
  · replace c3 := Bool.eq_false_iff.mpr c3
    subst c3
    have H1 : (some (([] : List Int), false)) = some (r1, r2) := by rw [if_neg (show ¬ (false = true) by decide)] at H; exact H
    clear H
    have H := H1
    clear H1
    simp only [Option.some.injEq, Prod.mk.injEq] at H
    obtain ⟨rfl, rfl⟩ := H
    go_enter Try.func26, Try.ntmps26
    go_wp2_with (first | ((with_reducible refine gate_dst (N := 1) rfl ?_); refine box_event ?hg (N := 1) ?hd (cs := #[.int .i64 a0_0, .int .i64 a0_1, .slice A0_2 l0_2.length c0_2]) (t := 30) ?hr ?_; (case hd => rfl); (case hg => rfl); (case hr => first | (go_simp; done) | (go_simp; rfl)); intro gb101 hg w10 hbox hb; have n0_ := Aside0.mk (below_step (by repeat (first | (with_reducible first | exact HB.out | apply below_alloc | apply pw_below_drewN | apply below_drew1) | exact HB.out)) hb); have n1_ := Aside0.mk (hbox); have n2_ := Aside0.mk ((by rw [hg]; exact (below_size (by repeat (first | (with_reducible first | exact HB.out | apply below_alloc | apply pw_below_drewN | apply below_drew1) | exact HB.out))) : w.heap.size ≤ gb101)); have n3_ := Aside0.mk ((by rw [hg]; exact (below_size (by repeat (first | (with_reducible first | exact HB.out | apply below_alloc | apply pw_below_drewN | apply below_drew1) | exact HB.out))) : w.heap.size ≤ gb101)); clear HB; have HB := n0_; have BK101 := n1_; have GW101 := n2_; have GE101 := n3_; clear n0_ n1_ n2_ n3_; clear hb hbox hg; have hcz11_0 : w10.cell? ⟨gb101, 0, none⟩ = some (.int .i64 a0_0) := (blk_cell BK101.out 0).trans rfl; have hcz11_1 : w10.cell? ⟨gb101, 1, none⟩ = some (.int .i64 a0_1) := (blk_cell BK101.out 1).trans rfl; have hcz11_2 : w10.cell? ⟨gb101, 2, none⟩ = some (.slice A0_2 l0_2.length c0_2) := (blk_cell BK101.out 2).trans rfl; have hfz11_0 := blk_frozen BK101.out 0; have hfz11_1 := blk_frozen BK101.out 1; have hfz11_2 := blk_frozen BK101.out 2) | ((with_reducible refine gate_callee (f := 36) rfl ?_); refine goesL_ (some 5) rfl rfl Try.func36 (by kernel_rfl) rfl #[.agg #[.int .i64 a0_0, .int .i64 a0_1, .slice A0_2 l0_2.length c0_2]] rfl (by (try simp only [List.map_toArray, List.map_cons, List.map_nil]); first | done | rfl | (simp only [List.length_drop, List.length_take]; rfl)) ?_; (with_reducible refine (spec_GoodGrammar.calls k a0_0 a0_1 _ _ l0_2 false _ ?side1 ?side2 A2.out).mono ?_); (case side1 => repeat (first | exact (Kd.C_below HR0_2.out HB.out) | (with_reducible refine Kd.C_alloc ?_ _) | (with_reducible refine Kd.C_drewN ?_ _) | (with_reducible refine Kd.C_drew ?_))); (case side2 => exact HC0_2.out); rintro e w12 ⟨rfl, hb⟩; refine ⟨_, rfl, ?_⟩; have n0_ := Aside0.mk (blk_below (g := gb101) (o := .cells #[.int .i64 a0_0, .int .i64 a0_1, .slice A0_2 l0_2.length c0_2] 30 (0, 0)) (by (with_reducible repeat (first | refine blk_drewN ?_ _ | refine blk_drew ?_ | refine blk_alloc ?_ _)); exact BK101.out) hb); have n1_ := Aside0.mk (below_step (by repeat (first | (with_reducible first | exact HB.out | apply below_alloc | apply pw_below_drewN | apply below_drew1 | refine below_set ?_ GE101.out) | exact HB.out)) hb); clear BK101; clear HB; have BK101 := n0_; have HB := n1_; clear n0_ n1_; (try clear hb); (try clear hb2); (try clear hk); (try clear hi)))
    go_ret2
    exact ⟨_, by first | rfl | (simp [errW_none, errW_some] <;> rfl) | (simp [*, errW_none, errW_some] <;> rfl), by first | exact Kd.R_nil _ _ _ _ _ | exact Kd.N_nil _ _ _ _ _ | exact Kd.V_nil _ _ _ _ _ | exact Kd.Q_nil _ _ _ _ _ | exact Kd.S_nil _ _ _ _ _, by repeat (first | (with_reducible first | exact HB.out | apply below_alloc | apply pw_below_drewN | apply below_drew1 | refine below_set ?_ GE101.out) | exact HB.out)⟩

end Go.Proofs.Ytohbdjdjjbieeaa.P

/-! Z0FnExactGrowingOf -/
/- Plain lists: GrowingOf of the reference and of the program answer the same. -/
namespace Go.Proofs.Ytohbdjdjjbieeaa.P
open Go.RowKit Go.Proofs.YtohbdjdjjbieeaaW.PrintWords
set_option linter.unusedVariables false
set_option linter.unusedSimpArgs false
theorem pure_GrowingOf (a0 a1 : Int) (l : List S47) (hs : smallI l) : ∃ (r0 : List Int) (r1 : Bool), r0.length ≤ 6 ∧ Ev (fun k => spec_GrowingOf.f k a0 a1 l) (r0, r1) ∧ impl_GrowingOf.f a0 a1 l = some (r0, r1) := by
  obtain ⟨K, h⟩ := spec_GoodGrammar_ev a0 a1 l hs
  dsimp only at h
  cases hg : goodG a0 a1 l with
  | true =>
    obtain ⟨K2, h2⟩ := l3Growing_ev a0 a1 l (goodG_okL hg)
    dsimp only at h2
    refine ⟨placesF 0 (closedF (mkGro (closedF mkPro l)) l), true, by have := placesF_len (closedF (mkGro (closedF mkPro l)) l) 0; rw [closedF_len] at this; exact this, ⟨K + K2, fun k hk => ?_⟩, by unfold impl_GrowingOf.f; rw [hg]; rfl⟩
    dsimp only
    unfold spec_GrowingOf.f
    rw [h k (by omega), hg]; simp only [Option.bind_some]
    rw [if_pos trivial, h2 k (by omega)]; rfl
  | false =>
    refine ⟨[], false, by simp, ⟨K, fun k hk => ?_⟩, by unfold impl_GrowingOf.f; rw [hg]; rfl⟩
    dsimp only
    unfold spec_GrowingOf.f
    rw [h k hk, hg]; rfl
end Go.Proofs.Ytohbdjdjjbieeaa.P

