/- A part of the proof of the law FnExactLeastLong. -/
import Derived.Test.YtohbdjdjjbieeaaK0
import Derived.Test.YtohbdjdjjbieeaaQFnExactLeastLongp0
import Derived.Test.YtohbdjdjjbieeaaB1
import Derived.Test.YtohbdjdjjbieeaaB2
/-! F45 -/
namespace Go.Proofs.Ytohbdjdjjbieeaa.P
open Go.RowKit Go.Proofs.YtohbdjdjjbieeaaW.PrintWords Go.Proofs.YtohbdjdjjbieeaaW.PrintLast Go.Proofs.YtohbdjdjjbieeaaW.PrintMore
attribute [local go_sem] max2_int min2_int max_two min_two max_three min_three max_four min_four   -- for this text's walks alone
set_option linter.unusedVariables false
set_option linter.unusedSimpArgs false

/-! ### spec_l3Close: function 45 -/
mutual
def spec_l3Close.l0 : Nat → Bool → List Int → Bool → Int → Int → List (S47) → Option (List Int)
  | 0, _, _, _, _, _, _ => none
  | k + 1, x1, x5, x6, x102000, x102001, x102002 => if x6 = true then (spec_l3Close.l1 k x1 x5 false x102002 (x102002.length : Int) 0 x102000 x102001 x102002) else (some x5)
def spec_l3Close.l1 : Nat → Bool → List Int → Bool → List (S47) → Int → Int → Int → Int → List (S47) → Option (List Int)
  | 0, _, _, _, _, _, _, _, _, _ => none
  | k + 1, x1, x5, x6, x14, x15, x16, x102000, x102001, x102002 => if x16 < x15 then (if 0 ≤ x16 then (if x16 < (x14.length : Int) then ((spec_l1Has.f k x5 ((rd_T47 x14 x16).f0)).bind fun t104 => (spec_l3Close.l2 k x1 x5 x6 (!t104) x14 x15 x16 ((rd_T47 x14 x16).f1) (((rd_T47 x14 x16).f1).length : Int) 0 x102000 x102001 x102002 ((rd_T47 x14 x16).f0) ((rd_T47 x14 x16).f1))) else (none)) else (none)) else (spec_l3Close.l0 k x1 x5 x6 x102000 x102001 x102002)
def spec_l3Close.l2 : Nat → Bool → List Int → Bool → Bool → List (S47) → Int → Int → List Int → Int → Int → Int → Int → List (S47) → Int → List Int → Option (List Int)
  | 0, _, _, _, _, _, _, _, _, _, _, _, _, _, _, _ => none
  | k + 1, x1, x5, x6, x9, x14, x15, x16, x26, x27, x28, x102000, x102001, x102002, x104000, x104001 => if x28 < x27 then (if 0 ≤ x28 then (if x28 < (x26.length : Int) then (if x9 = true then (if (rd x26 x28) < 0 then (if x1 = true then (spec_l3Close.l2 k x1 x5 x6 true x14 x15 x16 x26 x27 (wrap64 (x28 + 1)) x102000 x102001 x102002 x104000 x104001) else (if (rd x26 x28) ≥ 0 then ((spec_l1Has.f k x5 (rd x26 x28)).bind fun t106 => (spec_l3Close.l2 k x1 x5 x6 t106 x14 x15 x16 x26 x27 (wrap64 (x28 + 1)) x102000 x102001 x102002 x104000 x104001)) else (spec_l3Close.l2 k x1 x5 x6 false x14 x15 x16 x26 x27 (wrap64 (x28 + 1)) x102000 x102001 x102002 x104000 x104001))) else (if (rd x26 x28) ≥ 0 then ((spec_l1Has.f k x5 (rd x26 x28)).bind fun t107 => (spec_l3Close.l2 k x1 x5 x6 t107 x14 x15 x16 x26 x27 (wrap64 (x28 + 1)) x102000 x102001 x102002 x104000 x104001)) else (spec_l3Close.l2 k x1 x5 x6 false x14 x15 x16 x26 x27 (wrap64 (x28 + 1)) x102000 x102001 x102002 x104000 x104001))) else (spec_l3Close.l2 k x1 x5 x6 false x14 x15 x16 x26 x27 (wrap64 (x28 + 1)) x102000 x102001 x102002 x104000 x104001)) else (none)) else (none)) else (if x9 = true then ((spec_l1Put.f k x5 x104000).bind fun t108 => (spec_l3Close.l1 k x1 t108 true x14 x15 (wrap64 (x16 + 1)) x102000 x102001 x102002)) else (spec_l3Close.l1 k x1 x5 x6 x14 x15 (wrap64 (x16 + 1)) x102000 x102001 x102002))
end
def spec_l3Close.f (k : Nat) (a0_0 : Int) (a0_1 : Int) (l0_2 : List (S47)) (a1 : Bool) : Option (List Int) := spec_l3Close.l0 k a1 ([] : List Int) true a0_0 a0_1 l0_2
theorem spec_l3Close.mono_l : ∀ k, (∀ y0 y1 y2 y3 y4 y5, LeO (spec_l3Close.l0 k y0 y1 y2 y3 y4 y5) (spec_l3Close.l0 (k + 1) y0 y1 y2 y3 y4 y5)) ∧ (∀ y0 y1 y2 y3 y4 y5 y6 y7 y8, LeO (spec_l3Close.l1 k y0 y1 y2 y3 y4 y5 y6 y7 y8) (spec_l3Close.l1 (k + 1) y0 y1 y2 y3 y4 y5 y6 y7 y8)) ∧ (∀ y0 y1 y2 y3 y4 y5 y6 y7 y8 y9 y10 y11 y12 y13 y14, LeO (spec_l3Close.l2 k y0 y1 y2 y3 y4 y5 y6 y7 y8 y9 y10 y11 y12 y13 y14) (spec_l3Close.l2 (k + 1) y0 y1 y2 y3 y4 y5 y6 y7 y8 y9 y10 y11 y12 y13 y14))
  | 0 => ⟨fun _ _ _ _ _ _ r h => by simp [spec_l3Close.l0] at h, fun _ _ _ _ _ _ _ _ _ r h => by simp [spec_l3Close.l1] at h, fun _ _ _ _ _ _ _ _ _ _ _ _ _ _ _ r h => by simp [spec_l3Close.l2] at h⟩
  | k + 1 => by
    obtain ⟨ih0, ih1, ih2⟩ := spec_l3Close.mono_l k
    refine ⟨?_, ?_, ?_⟩
    · intro y0 y1 y2 y3 y4 y5
      unfold spec_l3Close.l0
      repeat' first
      | (with_reducible exact ih0 _ _ _ _ _ _)
      | (with_reducible exact ih1 _ _ _ _ _ _ _ _ _)
      | (with_reducible exact ih2 _ _ _ _ _ _ _ _ _ _ _ _ _ _ _)
      | (with_reducible exact spec_l1Has.mono _ _ _)
      | (with_reducible exact spec_l1Put.mono _ _ _)
      | (with_reducible exact LeO.refl _)
      | (with_reducible exact LeO.none _)
      | (with_reducible refine LeO.ite ?_ ?_)
      | (with_reducible refine LeO.bind ?_ (fun _ => ?_))
      | exact ih0 _ _ _ _ _ _
      | exact ih1 _ _ _ _ _ _ _ _ _
      | exact ih2 _ _ _ _ _ _ _ _ _ _ _ _ _ _ _
      | exact spec_l1Has.mono _ _ _
      | exact spec_l1Put.mono _ _ _
      | exact LeO.none _
      | refine LeO.ite ?_ ?_
      | refine LeO.bind ?_ (fun _ => ?_)
    · intro y0 y1 y2 y3 y4 y5 y6 y7 y8
      unfold spec_l3Close.l1
      repeat' first
      | (with_reducible exact ih0 _ _ _ _ _ _)
      | (with_reducible exact ih1 _ _ _ _ _ _ _ _ _)
      | (with_reducible exact ih2 _ _ _ _ _ _ _ _ _ _ _ _ _ _ _)
      | (with_reducible exact spec_l1Has.mono _ _ _)
      | (with_reducible exact spec_l1Put.mono _ _ _)
      | (with_reducible exact LeO.refl _)
      | (with_reducible exact LeO.none _)
      | (with_reducible refine LeO.ite ?_ ?_)
      | (with_reducible refine LeO.bind ?_ (fun _ => ?_))
      | exact ih0 _ _ _ _ _ _
      | exact ih1 _ _ _ _ _ _ _ _ _
      | exact ih2 _ _ _ _ _ _ _ _ _ _ _ _ _ _ _
      | exact spec_l1Has.mono _ _ _
      | exact spec_l1Put.mono _ _ _
      | exact LeO.none _
      | refine LeO.ite ?_ ?_
      | refine LeO.bind ?_ (fun _ => ?_)
    · intro y0 y1 y2 y3 y4 y5 y6 y7 y8 y9 y10 y11 y12 y13 y14
      unfold spec_l3Close.l2
      repeat' first
      | (with_reducible exact ih0 _ _ _ _ _ _)
      | (with_reducible exact ih1 _ _ _ _ _ _ _ _ _)
      | (with_reducible exact ih2 _ _ _ _ _ _ _ _ _ _ _ _ _ _ _)
      | (with_reducible exact spec_l1Has.mono _ _ _)
      | (with_reducible exact spec_l1Put.mono _ _ _)
      | (with_reducible exact LeO.refl _)
      | (with_reducible exact LeO.none _)
      | (with_reducible refine LeO.ite ?_ ?_)
      | (with_reducible refine LeO.bind ?_ (fun _ => ?_))
      | exact ih0 _ _ _ _ _ _
      | exact ih1 _ _ _ _ _ _ _ _ _
      | exact ih2 _ _ _ _ _ _ _ _ _ _ _ _ _ _ _
      | exact spec_l1Has.mono _ _ _
      | exact spec_l1Put.mono _ _ _
      | exact LeO.none _
      | refine LeO.ite ?_ ?_
      | refine LeO.bind ?_ (fun _ => ?_)
theorem spec_l3Close.mono : ∀ a0 a1 a2 a3 k, LeO (spec_l3Close.f k a0 a1 a2 a3) (spec_l3Close.f (k + 1) a0 a1 a2 a3) := by
  intro a0 a1 a2 a3 k
  obtain ⟨ih0, ih1, ih2⟩ := spec_l3Close.mono_l k
  unfold spec_l3Close.f
  repeat' first
      | (with_reducible exact ih0 _ _ _ _ _ _)
      | (with_reducible exact ih1 _ _ _ _ _ _ _ _ _)
      | (with_reducible exact ih2 _ _ _ _ _ _ _ _ _ _ _ _ _ _ _)
      | (with_reducible exact spec_l1Has.mono _ _ _)
      | (with_reducible exact spec_l1Put.mono _ _ _)
      | (with_reducible exact LeO.refl _)
      | (with_reducible exact LeO.none _)
      | (with_reducible refine LeO.ite ?_ ?_)
      | (with_reducible refine LeO.bind ?_ (fun _ => ?_))
      | exact ih0 _ _ _ _ _ _
      | exact ih1 _ _ _ _ _ _ _ _ _
      | exact ih2 _ _ _ _ _ _ _ _ _ _ _ _ _ _ _
      | exact spec_l1Has.mono _ _ _
      | exact spec_l1Put.mono _ _ _
      | exact LeO.none _
      | refine LeO.ite ?_ ?_
      | refine LeO.bind ?_ (fun _ => ?_)
set_option maxHeartbeats 8000000 in
set_option maxRecDepth 100000 in
theorem spec_l3Close.calls (k : Nat) (a0_0 : Int) (a0_1 : Int) (A0_2 : Option Addr) (c0_2 : Nat) (l0_2 : List (S47)) (a1 : Bool) (r : List Int) (w : World) (hr0_2 : Kd.C k47 w A0_2 l0_2.length l0_2) (hc0_2 : l0_2.length ≤ c0_2) (h : spec_l3Close.f k a0_0 a0_1 l0_2 a1 = some r) :
    Calls Try.prog 45 #[.agg #[.int .i64 a0_0, .int .i64 a0_1, .slice A0_2 l0_2.length c0_2], .bool a1] w fun e w' => ∃ v0_ : Value, e = .returned (v0_) ∧ Kd.R (Kd.int .i64) 3 w' w.heap.size (fun _ => True) v0_ r ∧ Below w.heap.size w w' := by
  have hu30 := Try.underlying30
  have hu47 := Try.underlying47
  have HR0_2 := Aside0.mk hr0_2
  have HC0_2 := Aside0.mk hc0_2
  clear hr0_2 hc0_2
  have HB := Aside0.mk (Below.refl w.heap.size w)
  have H : (spec_l3Close.l0 k a1 ([] : List Int) true a0_0 a0_1 l0_2) = some r := h
  clear h
  have H' := Aside0.mk H
  clear H
  go_enter Try.func45, Try.ntmps45
  go_wp2_with (first | ((with_reducible refine gate_dst (N := 2) rfl ?_); refine box_event ?hg (N := 2) ?hd (cs := #[.int .i64 a0_0, .int .i64 a0_1, .slice A0_2 l0_2.length c0_2]) (t := 30) ?hr ?_; (case hd => rfl); (case hg => rfl); (case hr => first | (go_simp; done) | (go_simp; rfl)); intro gb101 hg w3 hbox hb; have n0_ := Aside0.mk (below_step (by repeat (first | (with_reducible first | exact HB.out | apply below_alloc | apply pw_below_drewN | apply below_drew1) | exact HB.out)) hb); have n1_ := Aside0.mk (hbox); have n2_ := Aside0.mk ((by rw [hg]; exact (below_size (by repeat (first | (with_reducible first | exact HB.out | apply below_alloc | apply pw_below_drewN | apply below_drew1) | exact HB.out))) : w.heap.size ≤ gb101)); have n3_ := Aside0.mk ((by rw [hg]; exact (below_size (by repeat (first | (with_reducible first | exact HB.out | apply below_alloc | apply pw_below_drewN | apply below_drew1) | exact HB.out))) : w.heap.size ≤ gb101)); clear HB; have HB := n0_; have BK101 := n1_; have GW101 := n2_; have GE101 := n3_; clear n0_ n1_ n2_ n3_; clear hb hbox hg))
  go_loopg [5, 6] k (fun kq v5 v6 w' => ∃ (x5_1 : List Int) (x6_1 : Bool), v6 = .bool x6_1 ∧ Aside0 (spec_l3Close.l0 kq a1 x5_1 x6_1 a0_0 a0_1 l0_2 = some r) ∧ Aside0 (kq ≤ k) ∧ Aside0 (Kd.R (Kd.int .i64) 3 w' w.heap.size (fun _ => True) v5 x5_1) ∧ Aside0 (w'.heap[gb101]? = some (.cells #[.int .i64 a0_0, .int .i64 a0_1, (.slice A0_2 l0_2.length c0_2)] 30 (0, 0))) ∧ Aside0 (Below w.heap.size w w'))
  case atStart => exact ⟨(([] : List Int)), (true), (by first | rfl | (simp; done) | (simp [*]; done)), H', ⟨Nat.le_refl _⟩, ⟨by first | exact Kd.R_nil _ _ _ _ _ | exact Kd.N_nil _ _ _ _ _ | exact Kd.V_nil _ _ _ _ _ | exact Kd.Q_nil _ _ _ _ _ | exact Kd.S_nil _ _ _ _ _⟩, ⟨by (with_reducible repeat (first | refine blk_drewN ?_ _ | refine blk_drew ?_ | refine blk_alloc ?_ _)); exact BK101.out⟩, ⟨by repeat (first | (with_reducible first | exact HB.out | apply below_alloc | apply pw_below_drewN | apply below_drew1 | refine below_set ?_ GE101.out) | exact HB.out)⟩⟩
  case round =>
    clear H'
    try clear p2
    obtain ⟨x5_1, x6_1, rfl, HA, HK1, HO_5, BK101, HB⟩ := hrel
    cases gk with
    | zero => exact absurd HA.out (by simp [spec_l3Close.l0])
    | succ k1 =>
      have H := HA.out
      clear HA
      simp only [spec_l3Close.l0] at H
      by_cases c4 : x6_1 = true
      · subst c4
        have H1 : (spec_l3Close.l1 k1 a1 x5_1 false l0_2 (l0_2.length : Int) 0 a0_0 a0_1 l0_2) = some r := by rw [if_pos rfl] at H; exact H
        clear H
        have H := H1
        clear H1
        have H' := Aside0.mk H
        clear H
        have hcz5_0 : wr.cell? ⟨gb101, 0, none⟩ = some (.int .i64 a0_0) := (blk_cell BK101.out 0).trans rfl
        have hcz5_1 : wr.cell? ⟨gb101, 1, none⟩ = some (.int .i64 a0_1) := (blk_cell BK101.out 1).trans rfl
        have hcz5_2 : wr.cell? ⟨gb101, 2, none⟩ = some (.slice A0_2 l0_2.length c0_2) := (blk_cell BK101.out 2).trans rfl
        have hfz5_0 := blk_frozen BK101.out 0
        have hfz5_1 := blk_frozen BK101.out 1
        have hfz5_2 := blk_frozen BK101.out 2
        go_wp2
        go_loopg [5, 6, 16] k1 (fun kq v5 v6 v16 w' => ∃ (x5_2 : List Int) (x6_2 : Bool) (x16_2 : Int), v6 = .bool x6_2 ∧ v16 = .int .i64 x16_2 ∧ Aside0 (spec_l3Close.l1 kq a1 x5_2 x6_2 l0_2 (l0_2.length : Int) x16_2 a0_0 a0_1 l0_2 = some r) ∧ Aside0 (kq ≤ k1) ∧ Aside0 (Kd.R (Kd.int .i64) 3 w' w.heap.size (fun _ => True) v5 x5_2) ∧ Aside0 (w'.heap[gb101]? = some (.cells #[.int .i64 a0_0, .int .i64 a0_1, (.slice A0_2 l0_2.length c0_2)] 30 (0, 0))) ∧ Aside0 (Below w.heap.size w w'))
        case atStart => exact ⟨(x5_1), (false), (0), (by first | rfl | (simp; done) | (simp [*]; done)), (by first | rfl | (simp; done) | (simp [*]; done)), H', ⟨Nat.le_refl _⟩, ⟨by (with_reducible repeat (first | apply Kd.R_alloc | apply Kd.R_drewN | apply Kd.R_drew)); exact HO_5.out⟩, ⟨by (with_reducible repeat (first | refine blk_drewN ?_ _ | refine blk_drew ?_ | refine blk_alloc ?_ _)); exact BK101.out⟩, ⟨by repeat (first | (with_reducible first | exact HB.out | apply below_alloc | apply pw_below_drewN | apply below_drew1 | refine below_set ?_ GE101.out) | exact HB.out)⟩⟩
        case round =>
          clear H'
          try clear p2
          try clear c4
          try clear hcz5_0
          try clear hcz5_1
          try clear hcz5_2
          try clear hfz5_0
          try clear hfz5_1
          try clear hfz5_2
          try clear p2
          obtain ⟨x5_2, x6_2, x16_2, rfl, rfl, HA, HK2, HO_5, BK101, HB⟩ := hrel
          cases gk with
          | zero => exact absurd HA.out (by simp [spec_l3Close.l1])
          | succ k2 =>
            have H := HA.out
            clear HA
            simp only [spec_l3Close.l1] at H
            by_cases c6 : x16_2 < (l0_2.length : Int)
            · rw [if_pos c6] at H
              have c6b0 : decide (x16_2 < (l0_2.length : Int)) = true := decide_eq_true c6
              clear c6
              by_cases c7 : 0 ≤ x16_2
              · rw [if_pos c7] at H
                have c7b0 : decide (0 ≤ x16_2) = true := decide_eq_true c7
                clear c7
                by_cases c8 : x16_2 < (l0_2.length : Int)
                · rw [if_pos c8] at H
                  have c8b0 : decide (x16_2 < (l0_2.length : Int)) = true := decide_eq_true c8
                  clear c8
                  replace H := Option.bind_eq_some_iff.mp H
                  obtain ⟨t104, A90, H⟩ := H
                  replace H : (spec_l3Close.l2 k2 a1 x5_2 x6_2 (!t104) l0_2 (l0_2.length : Int) x16_2 ((rd_T47 l0_2 x16_2).f1) (((rd_T47 l0_2 x16_2).f1).length : Int) 0 a0_0 a0_1 l0_2 ((rd_T47 l0_2 x16_2).f0) ((rd_T47 l0_2 x16_2).f1)) = some r := H
                  have A9 := Aside0.mk A90
                  clear A90
                  have H' := Aside0.mk H
                  clear H
                  have p102 : 0 ≤ (x16_2 : Int) := of_decide_eq_true (by first | (with_reducible assumption) | assumption)
                  have q102 : x16_2 < (l0_2.length : Int) := of_decide_eq_true (by first | (with_reducible assumption) | assumption)
                  obtain ⟨ad102, A102_1, c102_1, e102, hx102_0, hx102_1, hl102_1, hi102_1⟩ := at_T47 HR0_2.out x16_2 p102 q102
                  cases e102
                  replace hx102_0 := (HB.out.cell (World.block_lt_of_cell? w _ hx102_0)).trans hx102_0
                  replace hx102_1 := (HB.out.cell (World.block_lt_of_cell? w _ hx102_1)).trans hx102_1
                  have HR102_1 := Aside0.mk hi102_1
                  have HC102_1 := Aside0.mk hl102_1
                  clear hi102_1 hl102_1
                  replace p102 := eq_true p102
                  replace q102 := eq_true q102
                  go_wp2_with (first | ((with_reducible refine gate_dst (N := 8) rfl ?_); refine box_event ?hg (N := 8) ?hd (cs := #[.int .i64 0, .slice none 0 0]) (t := 47) ?hr ?_; (case hd => rfl); (case hg => rfl); (case hr => first | (go_simp; done) | (go_simp; rfl)); intro gb103 hg w10 hbox hb; have n0_ := Aside0.mk (Kd.R_below (by (with_reducible repeat (first | apply Kd.R_alloc | apply Kd.R_drewN | apply Kd.R_drew)); exact HO_5.out) hb); have n1_ := Aside0.mk (blk_below (g := gb101) (o := .cells #[.int .i64 a0_0, .int .i64 a0_1, .slice (some ad102) l0_2.length c0_2] 30 (0, 0)) (by (with_reducible repeat (first | refine blk_drewN ?_ _ | refine blk_drew ?_ | refine blk_alloc ?_ _)); exact BK101.out) hb); have n2_ := Aside0.mk (below_step (by repeat (first | (with_reducible first | exact HB.out | apply below_alloc | apply pw_below_drewN | apply below_drew1 | refine below_set ?_ GE101.out) | exact HB.out)) hb); have n3_ := Aside0.mk (hbox); have n4_ := Aside0.mk ((by rw [hg]; exact (below_size (by repeat (first | (with_reducible first | exact HB.out | apply below_alloc | apply pw_below_drewN | apply below_drew1 | refine below_set ?_ GE101.out) | exact HB.out))) : w.heap.size ≤ gb103)); have n5_ := Aside0.mk ((by rw [hg]; exact (below_size (by repeat (first | (with_reducible first | exact HB.out | apply below_alloc | apply pw_below_drewN | apply below_drew1 | refine below_set ?_ GE101.out) | exact HB.out))) : w.heap.size ≤ gb103)); have n6_ := Aside0.mk ((by rw [hg]; exact Nat.ne_of_lt (blk_lt (g := gb101) (o := .cells #[.int .i64 a0_0, .int .i64 a0_1, .slice (some ad102) l0_2.length c0_2] 30 (0, 0)) (by (with_reducible repeat (first | refine blk_drewN ?_ _ | refine blk_drew ?_ | refine blk_alloc ?_ _)); exact BK101.out)) : gb101 ≠ gb103)); have n7_ := Aside0.mk ((by rw [hg]; exact Nat.ne_of_gt (blk_lt (g := gb101) (o := .cells #[.int .i64 a0_0, .int .i64 a0_1, .slice (some ad102) l0_2.length c0_2] 30 (0, 0)) (by (with_reducible repeat (first | refine blk_drewN ?_ _ | refine blk_drew ?_ | refine blk_alloc ?_ _)); exact BK101.out)) : gb103 ≠ gb101)); clear HO_5; clear BK101; clear HB; have HO_5 := n0_; have BK101 := n1_; have HB := n2_; have BK103 := n3_; have GW103 := n4_; have GE103 := n5_; have NB101_103 := n6_; have NB103_101 := n7_; clear n0_ n1_ n2_ n3_ n4_ n5_ n6_ n7_; clear hb hbox hg; have hnb11 := NB103_101.out; have hnc11 := NB101_103.out; have hcz12_0 : w10.cell? ⟨gb103, 0, none⟩ = some (.int .i64 0) := (blk_cell BK103.out 0).trans rfl; have hcz12_1 : w10.cell? ⟨gb103, 1, none⟩ = some (.slice none 0 0) := (blk_cell BK103.out 1).trans rfl; have hfz12_0 := blk_frozen BK103.out 0; have hfz12_1 := blk_frozen BK103.out 1; obtain ⟨Ao13, co13, eo13⟩ := Kd.R_slice HO_5.out; subst eo13) | ((with_reducible refine gate_callee (f := 66) rfl ?_); refine goesL_ (some 23) rfl rfl Try.func66 (by kernel_rfl) rfl #[.slice Ao13 x5_2.length co13, .int .i64 ((rd_T47 l0_2 x16_2).f0)] rfl (by (try simp only [List.map_toArray, List.map_cons, List.map_nil]); first | done | rfl | (simp only [List.length_drop, List.length_take]; rfl)) ?_; (with_reducible refine (spec_l1Has.calls k2 _ _ x5_2 ((rd_T47 l0_2 x16_2).f0) t104 _ ?side1 ?side2 A9.out).mono ?_); (case side1 => refine (Kd.R_reads' (e := 3) (base := w.heap.size) (ok := fun k_ => True) (n := x5_2.length) (c := co13) ?_).2.2; exact (by (with_reducible repeat (first | apply Kd.R_alloc | apply Kd.R_drewN | apply Kd.R_drew)); exact (Kd.R_mono (Kd.R_far (p := ⟨gb103, 1, none⟩) (Kd.R_far (p := ⟨gb103, 0, none⟩) (Kd.R_types HO_5.out BK103.out (by decide)) (fun _ hk => hk.2) (.int .i64 ((rd_T47 l0_2 x16_2).f0))) (fun _ hk => hk.2) (.slice A102_1 ((rd_T47 l0_2 x16_2).f1).length c102_1)) (fun _ h_ => h_.1)))); (case side2 => exact (Kd.R_reads' HO_5.out).2.1); rintro e w' ⟨rfl, ⟨nd, rfl⟩⟩; refine ⟨_, rfl, ?_⟩))
                  go_loopg [9, 28] k2 (fun kq v9 v28 w' => ∃ (x9_3 : Bool) (x28_3 : Int), v9 = .bool x9_3 ∧ v28 = .int .i64 x28_3 ∧ Aside0 (spec_l3Close.l2 kq a1 x5_2 x6_2 x9_3 l0_2 (l0_2.length : Int) x16_2 ((rd_T47 l0_2 x16_2).f1) (((rd_T47 l0_2 x16_2).f1).length : Int) x28_3 a0_0 a0_1 l0_2 ((rd_T47 l0_2 x16_2).f0) ((rd_T47 l0_2 x16_2).f1) = some r) ∧ Aside0 (kq ≤ k2) ∧ Aside0 (Kd.R (Kd.int .i64) 3 w' w.heap.size (fun _ => True) (.slice Ao13 x5_2.length co13) x5_2) ∧ Aside0 (w'.heap[gb101]? = some (.cells #[.int .i64 a0_0, .int .i64 a0_1, (.slice (some ad102) l0_2.length c0_2)] 30 (0, 0))) ∧ Aside0 (w'.heap[gb103]? = some (.cells #[.int .i64 ((rd_T47 l0_2 x16_2).f0), (.slice A102_1 ((rd_T47 l0_2 x16_2).f1).length c102_1)] 47 (0, 0))) ∧ Aside0 (Below w.heap.size w w'))
                  case atStart => exact ⟨(!t104), (0), (by first | rfl | (simp; done) | (simp [*]; done)), (by first | rfl | (simp; done) | (simp [*]; done)), H', ⟨Nat.le_refl _⟩, ⟨by (with_reducible repeat (first | apply Kd.R_alloc | apply Kd.R_drewN | apply Kd.R_drew)); exact Kd.R_mono (Kd.R_far (p := ⟨gb103, 1, none⟩) (Kd.R_far (p := ⟨gb103, 0, none⟩) (Kd.R_types HO_5.out BK103.out (by decide)) (fun _ hk => hk.2) (.int .i64 ((rd_T47 l0_2 x16_2).f0))) (fun _ hk => hk.2) (.slice A102_1 ((rd_T47 l0_2 x16_2).f1).length c102_1)) (fun _ hk => trivial)⟩, ⟨by (with_reducible repeat (first | refine blk_drewN ?_ _ | refine blk_drew ?_ | refine blk_alloc ?_ _)); refine blk_far ?_ NB101_103.out _; (with_reducible repeat (first | refine blk_drewN ?_ _ | refine blk_drew ?_ | refine blk_alloc ?_ _)); refine blk_far ?_ NB101_103.out _; (with_reducible repeat (first | refine blk_drewN ?_ _ | refine blk_drew ?_ | refine blk_alloc ?_ _)); exact BK101.out⟩, ⟨by (with_reducible repeat (first | refine blk_drewN ?_ _ | refine blk_drew ?_ | refine blk_alloc ?_ _)); refine blk_put (cs := #[.int .i64 ((rd_T47 l0_2 x16_2).f0), .slice none 0 0]) ?_ 1 _ rfl; (with_reducible repeat (first | refine blk_drewN ?_ _ | refine blk_drew ?_ | refine blk_alloc ?_ _)); refine blk_put (cs := #[.int .i64 0, .slice none 0 0]) ?_ 0 _ rfl; (with_reducible repeat (first | refine blk_drewN ?_ _ | refine blk_drew ?_ | refine blk_alloc ?_ _)); exact BK103.out⟩, ⟨by repeat (first | (with_reducible first | exact HB.out | apply below_alloc | apply pw_below_drewN | apply below_drew1 | refine below_set ?_ GE101.out | refine below_set ?_ GE103.out) | exact HB.out)⟩⟩
                  case round =>
                    clear H'
                    try clear c1
                    try clear p1
                    try clear q1
                    try clear hx1
                    try clear p2
                    try clear c4
                    try clear c6
                    try clear c6b0
                    try clear c7
                    try clear c7b0
                    try clear c8
                    try clear c8b0
                    try clear c10
                    try clear p10
                    try clear q10
                    try clear hx10
                    try clear c11
                    try clear hcz12_0
                    try clear hcz12_1
                    try clear hcz5_0
                    try clear hcz5_1
                    try clear hcz5_2
                    try clear hfz12_0
                    try clear hfz12_1
                    try clear hfz5_0
                    try clear hfz5_1
                    try clear hfz5_2
                    try clear hx102_0
                    try clear hx102_1
                    try clear p102
                    try clear p2
                    try clear q102
                    obtain ⟨x9_3, x28_3, rfl, rfl, HA, HK3, HO_5, BK101, BK103, HB⟩ := hrel
                    cases gk with
                    | zero => exact absurd HA.out (by simp [spec_l3Close.l2])
                    | succ k3 =>
                      have H := HA.out
                      clear HA
                      simp only [spec_l3Close.l2] at H
                      by_cases c14 : x28_3 < (((rd_T47 l0_2 x16_2).f1).length : Int)
                      · rw [if_pos c14] at H
                        have c14b0 : decide (x28_3 < (((rd_T47 l0_2 x16_2).f1).length : Int)) = true := decide_eq_true c14
                        clear c14
                        by_cases c15 : 0 ≤ x28_3
                        · rw [if_pos c15] at H
                          have c15b0 : decide (0 ≤ x28_3) = true := decide_eq_true c15
                          clear c15
                          by_cases c16 : x28_3 < (((rd_T47 l0_2 x16_2).f1).length : Int)
                          · rw [if_pos c16] at H
                            have c16b0 : decide (x28_3 < (((rd_T47 l0_2 x16_2).f1).length : Int)) = true := decide_eq_true c16
                            clear c16
                            by_cases c17 : x9_3 = true
                            · subst c17
                              have H1 : (if (rd ((rd_T47 l0_2 x16_2).f1) x28_3) < 0 then (if a1 = true then (spec_l3Close.l2 k3 a1 x5_2 x6_2 true l0_2 (l0_2.length : Int) x16_2 ((rd_T47 l0_2 x16_2).f1) (((rd_T47 l0_2 x16_2).f1).length : Int) (wrap64 (x28_3 + 1)) a0_0 a0_1 l0_2 ((rd_T47 l0_2 x16_2).f0) ((rd_T47 l0_2 x16_2).f1)) else (if (rd ((rd_T47 l0_2 x16_2).f1) x28_3) ≥ 0 then ((spec_l1Has.f k3 x5_2 (rd ((rd_T47 l0_2 x16_2).f1) x28_3)).bind fun t106 => (spec_l3Close.l2 k3 a1 x5_2 x6_2 t106 l0_2 (l0_2.length : Int) x16_2 ((rd_T47 l0_2 x16_2).f1) (((rd_T47 l0_2 x16_2).f1).length : Int) (wrap64 (x28_3 + 1)) a0_0 a0_1 l0_2 ((rd_T47 l0_2 x16_2).f0) ((rd_T47 l0_2 x16_2).f1))) else (spec_l3Close.l2 k3 a1 x5_2 x6_2 false l0_2 (l0_2.length : Int) x16_2 ((rd_T47 l0_2 x16_2).f1) (((rd_T47 l0_2 x16_2).f1).length : Int) (wrap64 (x28_3 + 1)) a0_0 a0_1 l0_2 ((rd_T47 l0_2 x16_2).f0) ((rd_T47 l0_2 x16_2).f1)))) else (if (rd ((rd_T47 l0_2 x16_2).f1) x28_3) ≥ 0 then ((spec_l1Has.f k3 x5_2 (rd ((rd_T47 l0_2 x16_2).f1) x28_3)).bind fun t107 => (spec_l3Close.l2 k3 a1 x5_2 x6_2 t107 l0_2 (l0_2.length : Int) x16_2 ((rd_T47 l0_2 x16_2).f1) (((rd_T47 l0_2 x16_2).f1).length : Int) (wrap64 (x28_3 + 1)) a0_0 a0_1 l0_2 ((rd_T47 l0_2 x16_2).f0) ((rd_T47 l0_2 x16_2).f1))) else (spec_l3Close.l2 k3 a1 x5_2 x6_2 false l0_2 (l0_2.length : Int) x16_2 ((rd_T47 l0_2 x16_2).f1) (((rd_T47 l0_2 x16_2).f1).length : Int) (wrap64 (x28_3 + 1)) a0_0 a0_1 l0_2 ((rd_T47 l0_2 x16_2).f0) ((rd_T47 l0_2 x16_2).f1)))) = some r := by rw [if_pos rfl] at H; exact H
                              clear H
                              have H := H1
                              clear H1
                              by_cases c18 : (rd ((rd_T47 l0_2 x16_2).f1) x28_3) < 0
                              · rw [if_pos c18] at H
                                have c18b0 : decide ((rd ((rd_T47 l0_2 x16_2).f1) x28_3) < 0) = true := decide_eq_true c18
                                clear c18
                                by_cases c19 : a1 = true
                                · subst c19
                                  have H1 : (spec_l3Close.l2 k3 true x5_2 x6_2 true l0_2 (l0_2.length : Int) x16_2 ((rd_T47 l0_2 x16_2).f1) (((rd_T47 l0_2 x16_2).f1).length : Int) (wrap64 (x28_3 + 1)) a0_0 a0_1 l0_2 ((rd_T47 l0_2 x16_2).f0) ((rd_T47 l0_2 x16_2).f1)) = some r := by rw [if_pos rfl] at H; exact H
                                  clear H
                                  have H := H1
                                  clear H1
                                  have H' := Aside0.mk H
                                  clear H
                                  have p105 : 0 ≤ (x28_3 : Int) := of_decide_eq_true (by first | (with_reducible assumption) | assumption)
                                  have q105 : x28_3 < (((rd_T47 l0_2 x16_2).f1).length : Int) := of_decide_eq_true (by first | (with_reducible assumption) | assumption)
                                  obtain ⟨ad105, e105, hx105_0⟩ := Kd.at_int HR102_1.out x28_3 p105 q105
                                  cases e105
                                  replace hx105_0 := (HB.out.cell (World.block_lt_of_cell? w _ hx105_0)).trans hx105_0
                                  replace p105 := eq_true p105
                                  replace q105 := eq_true q105
                                  go_wp2
                                  go_roundg k3
                                  case measure => have := HK1.out; have := HK2.out; have := HK3.out; omega
                                  case rel => exact ⟨(true), (wrap64 (x28_3 + 1)), (by first | rfl | (simp; done) | (simp [*]; done)), (by first | rfl | (simp; done) | (simp [*]; done)), H', ⟨by have := HK1.out; have := HK2.out; have := HK3.out; omega⟩, ⟨by (with_reducible repeat (first | apply Kd.R_alloc | apply Kd.R_drewN | apply Kd.R_drew)); exact HO_5.out⟩, ⟨by (with_reducible repeat (first | refine blk_drewN ?_ _ | refine blk_drew ?_ | refine blk_alloc ?_ _)); exact BK101.out⟩, ⟨by (with_reducible repeat (first | refine blk_drewN ?_ _ | refine blk_drew ?_ | refine blk_alloc ?_ _)); exact BK103.out⟩, ⟨by repeat (first | (with_reducible first | exact HB.out | apply below_alloc | apply pw_below_drewN | apply below_drew1 | refine below_set ?_ GE101.out | refine below_set ?_ GE103.out) | exact HB.out)⟩⟩
                                · replace c19 := Bool.eq_false_iff.mpr c19
                                  subst c19
                                  have H1 : (if (rd ((rd_T47 l0_2 x16_2).f1) x28_3) ≥ 0 then ((spec_l1Has.f k3 x5_2 (rd ((rd_T47 l0_2 x16_2).f1) x28_3)).bind fun t106 => (spec_l3Close.l2 k3 false x5_2 x6_2 t106 l0_2 (l0_2.length : Int) x16_2 ((rd_T47 l0_2 x16_2).f1) (((rd_T47 l0_2 x16_2).f1).length : Int) (wrap64 (x28_3 + 1)) a0_0 a0_1 l0_2 ((rd_T47 l0_2 x16_2).f0) ((rd_T47 l0_2 x16_2).f1))) else (spec_l3Close.l2 k3 false x5_2 x6_2 false l0_2 (l0_2.length : Int) x16_2 ((rd_T47 l0_2 x16_2).f1) (((rd_T47 l0_2 x16_2).f1).length : Int) (wrap64 (x28_3 + 1)) a0_0 a0_1 l0_2 ((rd_T47 l0_2 x16_2).f0) ((rd_T47 l0_2 x16_2).f1))) = some r := by rw [if_neg (show ¬ (false = true) by decide)] at H; exact H
                                  clear H
                                  have H := H1
                                  clear H1
                                  by_cases c20 : (rd ((rd_T47 l0_2 x16_2).f1) x28_3) ≥ 0
                                  · rw [if_pos c20] at H
                                    have c20b0 : decide (0 ≤ (rd ((rd_T47 l0_2 x16_2).f1) x28_3)) = true := decide_eq_true c20
                                    clear c20
                                    replace H := Option.bind_eq_some_iff.mp H
                                    obtain ⟨t106, A210, H⟩ := H
                                    replace H : (spec_l3Close.l2 k3 false x5_2 x6_2 t106 l0_2 (l0_2.length : Int) x16_2 ((rd_T47 l0_2 x16_2).f1) (((rd_T47 l0_2 x16_2).f1).length : Int) (wrap64 (x28_3 + 1)) a0_0 a0_1 l0_2 ((rd_T47 l0_2 x16_2).f0) ((rd_T47 l0_2 x16_2).f1)) = some r := H
                                    have A21 := Aside0.mk A210
                                    clear A210
                                    have H' := Aside0.mk H
                                    clear H
                                    have p105 : 0 ≤ (x28_3 : Int) := of_decide_eq_true (by first | (with_reducible assumption) | assumption)
                                    have q105 : x28_3 < (((rd_T47 l0_2 x16_2).f1).length : Int) := of_decide_eq_true (by first | (with_reducible assumption) | assumption)
                                    obtain ⟨ad105, e105, hx105_0⟩ := Kd.at_int HR102_1.out x28_3 p105 q105
                                    cases e105
                                    replace hx105_0 := (HB.out.cell (World.block_lt_of_cell? w _ hx105_0)).trans hx105_0
                                    replace p105 := eq_true p105
                                    replace q105 := eq_true q105
                                    go_wp2_with (first | (go_at_call 66; (with_reducible refine (spec_l1Has.calls k3 _ _ x5_2 (rd ((rd_T47 l0_2 x16_2).f1) x28_3) t106 _ ?side1 ?side2 A21.out).mono ?_); (case side1 => repeat (first | exact (Kd.R_reads' HO_5.out).2.2 | (with_reducible refine Kd.C_alloc ?_ _) | (with_reducible refine Kd.C_drewN ?_ _) | (with_reducible refine Kd.C_drew ?_))); (case side2 => exact (Kd.R_reads' HO_5.out).2.1); rintro e w' ⟨rfl, ⟨nd, rfl⟩⟩))
                                    go_roundg k3
                                    case measure => have := HK1.out; have := HK2.out; have := HK3.out; omega
                                    case rel => exact ⟨(t106), (wrap64 (x28_3 + 1)), (by first | rfl | (simp; done) | (simp [*]; done)), (by first | rfl | (simp; done) | (simp [*]; done)), H', ⟨by have := HK1.out; have := HK2.out; have := HK3.out; omega⟩, ⟨by (with_reducible repeat (first | apply Kd.R_alloc | apply Kd.R_drewN | apply Kd.R_drew)); exact HO_5.out⟩, ⟨by (with_reducible repeat (first | refine blk_drewN ?_ _ | refine blk_drew ?_ | refine blk_alloc ?_ _)); exact BK101.out⟩, ⟨by (with_reducible repeat (first | refine blk_drewN ?_ _ | refine blk_drew ?_ | refine blk_alloc ?_ _)); exact BK103.out⟩, ⟨by repeat (first | (with_reducible first | exact HB.out | apply below_alloc | apply pw_below_drewN | apply below_drew1 | refine below_set ?_ GE101.out | refine below_set ?_ GE103.out) | exact HB.out)⟩⟩
                                  · rw [if_neg c20] at H
                                    have c20b0 : decide (0 ≤ (rd ((rd_T47 l0_2 x16_2).f1) x28_3)) = false := decide_eq_false c20
                                    clear c20
                                    have H' := Aside0.mk H
                                    clear H
                                    have p105 : 0 ≤ (x28_3 : Int) := of_decide_eq_true (by first | (with_reducible assumption) | assumption)
                                    have q105 : x28_3 < (((rd_T47 l0_2 x16_2).f1).length : Int) := of_decide_eq_true (by first | (with_reducible assumption) | assumption)
                                    obtain ⟨ad105, e105, hx105_0⟩ := Kd.at_int HR102_1.out x28_3 p105 q105
                                    cases e105
                                    replace hx105_0 := (HB.out.cell (World.block_lt_of_cell? w _ hx105_0)).trans hx105_0
                                    replace p105 := eq_true p105
                                    replace q105 := eq_true q105
                                    go_wp2
                                    go_roundg k3
                                    case measure => have := HK1.out; have := HK2.out; have := HK3.out; omega
                                    case rel => exact ⟨(false), (wrap64 (x28_3 + 1)), (by first | rfl | (simp; done) | (simp [*]; done)), (by first | rfl | (simp; done) | (simp [*]; done)), H', ⟨by have := HK1.out; have := HK2.out; have := HK3.out; omega⟩, ⟨by (with_reducible repeat (first | apply Kd.R_alloc | apply Kd.R_drewN | apply Kd.R_drew)); exact HO_5.out⟩, ⟨by (with_reducible repeat (first | refine blk_drewN ?_ _ | refine blk_drew ?_ | refine blk_alloc ?_ _)); exact BK101.out⟩, ⟨by (with_reducible repeat (first | refine blk_drewN ?_ _ | refine blk_drew ?_ | refine blk_alloc ?_ _)); exact BK103.out⟩, ⟨by repeat (first | (with_reducible first | exact HB.out | apply below_alloc | apply pw_below_drewN | apply below_drew1 | refine below_set ?_ GE101.out | refine below_set ?_ GE103.out) | exact HB.out)⟩⟩
                              · rw [if_neg c18] at H
                                have c18b0 : decide ((rd ((rd_T47 l0_2 x16_2).f1) x28_3) < 0) = false := decide_eq_false c18
                                clear c18
                                by_cases c22 : (rd ((rd_T47 l0_2 x16_2).f1) x28_3) ≥ 0
                                · rw [if_pos c22] at H
                                  have c22b0 : decide (0 ≤ (rd ((rd_T47 l0_2 x16_2).f1) x28_3)) = true := decide_eq_true c22
                                  clear c22
                                  replace H := Option.bind_eq_some_iff.mp H
                                  obtain ⟨t107, A230, H⟩ := H
                                  replace H : (spec_l3Close.l2 k3 a1 x5_2 x6_2 t107 l0_2 (l0_2.length : Int) x16_2 ((rd_T47 l0_2 x16_2).f1) (((rd_T47 l0_2 x16_2).f1).length : Int) (wrap64 (x28_3 + 1)) a0_0 a0_1 l0_2 ((rd_T47 l0_2 x16_2).f0) ((rd_T47 l0_2 x16_2).f1)) = some r := H
                                  have A23 := Aside0.mk A230
                                  clear A230
                                  have H' := Aside0.mk H
                                  clear H
                                  have p105 : 0 ≤ (x28_3 : Int) := of_decide_eq_true (by first | (with_reducible assumption) | assumption)
                                  have q105 : x28_3 < (((rd_T47 l0_2 x16_2).f1).length : Int) := of_decide_eq_true (by first | (with_reducible assumption) | assumption)
                                  obtain ⟨ad105, e105, hx105_0⟩ := Kd.at_int HR102_1.out x28_3 p105 q105
                                  cases e105
                                  replace hx105_0 := (HB.out.cell (World.block_lt_of_cell? w _ hx105_0)).trans hx105_0
                                  replace p105 := eq_true p105
                                  replace q105 := eq_true q105
                                  go_wp2_with (first | (go_at_call 66; (with_reducible refine (spec_l1Has.calls k3 _ _ x5_2 (rd ((rd_T47 l0_2 x16_2).f1) x28_3) t107 _ ?side1 ?side2 A23.out).mono ?_); (case side1 => repeat (first | exact (Kd.R_reads' HO_5.out).2.2 | (with_reducible refine Kd.C_alloc ?_ _) | (with_reducible refine Kd.C_drewN ?_ _) | (with_reducible refine Kd.C_drew ?_))); (case side2 => exact (Kd.R_reads' HO_5.out).2.1); rintro e w' ⟨rfl, ⟨nd, rfl⟩⟩))
                                  go_roundg k3
                                  case measure => have := HK1.out; have := HK2.out; have := HK3.out; omega
                                  case rel => exact ⟨(t107), (wrap64 (x28_3 + 1)), (by first | rfl | (simp; done) | (simp [*]; done)), (by first | rfl | (simp; done) | (simp [*]; done)), H', ⟨by have := HK1.out; have := HK2.out; have := HK3.out; omega⟩, ⟨by (with_reducible repeat (first | apply Kd.R_alloc | apply Kd.R_drewN | apply Kd.R_drew)); exact HO_5.out⟩, ⟨by (with_reducible repeat (first | refine blk_drewN ?_ _ | refine blk_drew ?_ | refine blk_alloc ?_ _)); exact BK101.out⟩, ⟨by (with_reducible repeat (first | refine blk_drewN ?_ _ | refine blk_drew ?_ | refine blk_alloc ?_ _)); exact BK103.out⟩, ⟨by repeat (first | (with_reducible first | exact HB.out | apply below_alloc | apply pw_below_drewN | apply below_drew1 | refine below_set ?_ GE101.out | refine below_set ?_ GE103.out) | exact HB.out)⟩⟩
                                · rw [if_neg c22] at H
                                  have c22b0 : decide (0 ≤ (rd ((rd_T47 l0_2 x16_2).f1) x28_3)) = false := decide_eq_false c22
                                  clear c22
                                  have H' := Aside0.mk H
                                  clear H
                                  have p105 : 0 ≤ (x28_3 : Int) := of_decide_eq_true (by first | (with_reducible assumption) | assumption)
                                  have q105 : x28_3 < (((rd_T47 l0_2 x16_2).f1).length : Int) := of_decide_eq_true (by first | (with_reducible assumption) | assumption)
                                  obtain ⟨ad105, e105, hx105_0⟩ := Kd.at_int HR102_1.out x28_3 p105 q105
                                  cases e105
                                  replace hx105_0 := (HB.out.cell (World.block_lt_of_cell? w _ hx105_0)).trans hx105_0
                                  replace p105 := eq_true p105
                                  replace q105 := eq_true q105
                                  go_wp2
                                  go_roundg k3
                                  case measure => have := HK1.out; have := HK2.out; have := HK3.out; omega
                                  case rel => exact ⟨(false), (wrap64 (x28_3 + 1)), (by first | rfl | (simp; done) | (simp [*]; done)), (by first | rfl | (simp; done) | (simp [*]; done)), H', ⟨by have := HK1.out; have := HK2.out; have := HK3.out; omega⟩, ⟨by (with_reducible repeat (first | apply Kd.R_alloc | apply Kd.R_drewN | apply Kd.R_drew)); exact HO_5.out⟩, ⟨by (with_reducible repeat (first | refine blk_drewN ?_ _ | refine blk_drew ?_ | refine blk_alloc ?_ _)); exact BK101.out⟩, ⟨by (with_reducible repeat (first | refine blk_drewN ?_ _ | refine blk_drew ?_ | refine blk_alloc ?_ _)); exact BK103.out⟩, ⟨by repeat (first | (with_reducible first | exact HB.out | apply below_alloc | apply pw_below_drewN | apply below_drew1 | refine below_set ?_ GE101.out | refine below_set ?_ GE103.out) | exact HB.out)⟩⟩
                            · replace c17 := Bool.eq_false_iff.mpr c17
                              subst c17
                              have H1 : (spec_l3Close.l2 k3 a1 x5_2 x6_2 false l0_2 (l0_2.length : Int) x16_2 ((rd_T47 l0_2 x16_2).f1) (((rd_T47 l0_2 x16_2).f1).length : Int) (wrap64 (x28_3 + 1)) a0_0 a0_1 l0_2 ((rd_T47 l0_2 x16_2).f0) ((rd_T47 l0_2 x16_2).f1)) = some r := by rw [if_neg (show ¬ (false = true) by decide)] at H; exact H
                              clear H
                              have H := H1
                              clear H1
                              have H' := Aside0.mk H
                              clear H
                              have p105 : 0 ≤ (x28_3 : Int) := of_decide_eq_true (by first | (with_reducible assumption) | assumption)
                              have q105 : x28_3 < (((rd_T47 l0_2 x16_2).f1).length : Int) := of_decide_eq_true (by first | (with_reducible assumption) | assumption)
                              obtain ⟨ad105, e105, hx105_0⟩ := Kd.at_int HR102_1.out x28_3 p105 q105
                              cases e105
                              replace hx105_0 := (HB.out.cell (World.block_lt_of_cell? w _ hx105_0)).trans hx105_0
                              replace p105 := eq_true p105
                              replace q105 := eq_true q105
                              go_wp2
                              go_roundg k3
                              case measure => have := HK1.out; have := HK2.out; have := HK3.out; omega
                              case rel => exact ⟨(false), (wrap64 (x28_3 + 1)), (by first | rfl | (simp; done) | (simp [*]; done)), (by first | rfl | (simp; done) | (simp [*]; done)), H', ⟨by have := HK1.out; have := HK2.out; have := HK3.out; omega⟩, ⟨by (with_reducible repeat (first | apply Kd.R_alloc | apply Kd.R_drewN | apply Kd.R_drew)); exact HO_5.out⟩, ⟨by (with_reducible repeat (first | refine blk_drewN ?_ _ | refine blk_drew ?_ | refine blk_alloc ?_ _)); exact BK101.out⟩, ⟨by (with_reducible repeat (first | refine blk_drewN ?_ _ | refine blk_drew ?_ | refine blk_alloc ?_ _)); exact BK103.out⟩, ⟨by repeat (first | (with_reducible first | exact HB.out | apply below_alloc | apply pw_below_drewN | apply below_drew1 | refine below_set ?_ GE101.out | refine below_set ?_ GE103.out) | exact HB.out)⟩⟩
                          · rw [if_neg c16] at H
                            exact absurd H (by simp)
                        · rw [if_neg c15] at H
                          exact absurd H (by simp)
                      · rw [if_neg c14] at H
                        have c14b0 : decide (x28_3 < (((rd_T47 l0_2 x16_2).f1).length : Int)) = false := decide_eq_false c14
                        clear c14
                        by_cases c24 : x9_3 = true
                        · subst c24
                          have H1 : ((spec_l1Put.f k3 x5_2 ((rd_T47 l0_2 x16_2).f0)).bind fun t108 => (spec_l3Close.l1 k3 a1 t108 true l0_2 (l0_2.length : Int) (wrap64 (x16_2 + 1)) a0_0 a0_1 l0_2)) = some r := by rw [if_pos rfl] at H; exact H
                          clear H
                          have H := H1
                          clear H1
                          replace H := Option.bind_eq_some_iff.mp H
                          obtain ⟨t108, A250, H⟩ := H
                          replace H : (spec_l3Close.l1 k3 a1 t108 true l0_2 (l0_2.length : Int) (wrap64 (x16_2 + 1)) a0_0 a0_1 l0_2) = some r := H
                          have A25 := Aside0.mk A250
                          clear A250
                          have H' := Aside0.mk H
                          clear H
                          have hnb26 := NB103_101.out
                          have hnc26 := NB101_103.out
                          have hcz27_0 : wr.cell? ⟨gb103, 0, none⟩ = some (.int .i64 ((rd_T47 l0_2 x16_2).f0)) := (blk_cell BK103.out 0).trans rfl
                          have hcz27_1 : wr.cell? ⟨gb103, 1, none⟩ = some (.slice A102_1 ((rd_T47 l0_2 x16_2).f1).length c102_1) := (blk_cell BK103.out 1).trans rfl
                          have hfz27_0 := blk_frozen BK103.out 0
                          have hfz27_1 := blk_frozen BK103.out 1
                          go_wp2_with (first | ((with_reducible refine gate_callee (f := 67) rfl ?_); refine goesL_ (some 54) rfl rfl Try.func67 (by kernel_rfl) rfl #[.slice Ao13 x5_2.length co13, .int .i64 ((rd_T47 l0_2 x16_2).f0)] rfl (by (try simp only [List.map_toArray, List.map_cons, List.map_nil]); first | done | rfl | (simp only [List.length_drop, List.length_take]; rfl)) ?_; (with_reducible refine (spec_l1Put.calls k3 (fun k_ => some k_ = (.slice Ao13 x5_2.length co13 : Value).ownBlock) (.slice Ao13 x5_2.length co13) x5_2 ((rd_T47 l0_2 x16_2).f0) t108 w _ ?side1 ?side2 A25.out).mono ?_); (case side1 => repeat (first | (with_reducible first | exact HB.out | apply below_alloc | apply pw_below_drewN | apply below_drew1 | refine below_set ?_ GE101.out | refine below_set ?_ GE103.out) | exact HB.out)); (case side2 => exact Kd.R_tight rfl HO_5.out); rintro e w28 ⟨v109, rfl, ho0, hb, hkp⟩; refine ⟨_, rfl, ?_⟩; have n0_ := Aside0.mk (blk_kept (by (with_reducible repeat (first | refine blk_drewN ?_ _ | refine blk_drew ?_ | refine blk_alloc ?_ _)); exact BK101.out) hkp (fun hs_ => (fun e_ => (Kd.R_ne HO_5.out BK101.out (by decide)) e_) hs_)); have n1_ := Aside0.mk (blk_kept (by (with_reducible repeat (first | refine blk_drewN ?_ _ | refine blk_drew ?_ | refine blk_alloc ?_ _)); exact BK103.out) hkp (fun hs_ => (fun e_ => (Kd.R_ne HO_5.out BK103.out (by decide)) e_) hs_)); have n2_ := Aside0.mk (Kd.R_mono (ok' := fun k_ => True) ho0 (fun k_ hk_ => trivial)); have n3_ := Aside0.mk (hb); clear BK101; clear BK103; clear HB; clear HO_5; have BK101 := n0_; have BK103 := n1_; have HO110 := n2_; have HB := n3_; clear n0_ n1_ n2_ n3_; (try clear hb); (try clear hkp); (try clear ho0)))
                          go_roundg k3
                          case measure => have := HK1.out; have := HK2.out; have := HK3.out; omega
                          case rel => exact ⟨(t108), (true), (wrap64 (x16_2 + 1)), (by first | rfl | (simp; done) | (simp [*]; done)), (by first | rfl | (simp; done) | (simp [*]; done)), H', ⟨by have := HK1.out; have := HK2.out; have := HK3.out; omega⟩, ⟨by (with_reducible repeat (first | apply Kd.R_alloc | apply Kd.R_drewN | apply Kd.R_drew)); exact HO110.out⟩, ⟨by (with_reducible repeat (first | refine blk_drewN ?_ _ | refine blk_drew ?_ | refine blk_alloc ?_ _)); exact BK101.out⟩, ⟨by repeat (first | (with_reducible first | exact HB.out | apply below_alloc | apply pw_below_drewN | apply below_drew1 | refine below_set ?_ GE101.out | refine below_set ?_ GE103.out) | exact HB.out)⟩⟩
                        · replace c24 := Bool.eq_false_iff.mpr c24
                          subst c24
                          have H1 : (spec_l3Close.l1 k3 a1 x5_2 x6_2 l0_2 (l0_2.length : Int) (wrap64 (x16_2 + 1)) a0_0 a0_1 l0_2) = some r := by rw [if_neg (show ¬ (false = true) by decide)] at H; exact H
                          clear H
                          have H := H1
                          clear H1
                          have H' := Aside0.mk H
                          clear H
                          go_wp2
                          go_roundg k3
                          case measure => have := HK1.out; have := HK2.out; have := HK3.out; omega
                          case rel => exact ⟨(x5_2), (x6_2), (wrap64 (x16_2 + 1)), (by first | rfl | (simp; done) | (simp [*]; done)), (by first | rfl | (simp; done) | (simp [*]; done)), H', ⟨by have := HK1.out; have := HK2.out; have := HK3.out; omega⟩, ⟨by (with_reducible repeat (first | apply Kd.R_alloc | apply Kd.R_drewN | apply Kd.R_drew)); exact HO_5.out⟩, ⟨by (with_reducible repeat (first | refine blk_drewN ?_ _ | refine blk_drew ?_ | refine blk_alloc ?_ _)); exact BK101.out⟩, ⟨by repeat (first | (with_reducible first | exact HB.out | apply below_alloc | apply pw_below_drewN | apply below_drew1 | refine below_set ?_ GE101.out | refine below_set ?_ GE103.out) | exact HB.out)⟩⟩
                · rw [if_neg c8] at H
                  exact absurd H (by simp)
              · rw [if_neg c7] at H
                exact absurd H (by simp)
            · rw [if_neg c6] at H
              have c6b0 : decide (x16_2 < (l0_2.length : Int)) = false := decide_eq_false c6
              clear c6
              have H' := Aside0.mk H
              clear H
              go_wp2
              go_roundg k2
              case measure => have := HK1.out; have := HK2.out; omega
              case rel => exact ⟨(x5_2), (x6_2), (by first | rfl | (simp; done) | (simp [*]; done)), H', ⟨by have := HK1.out; have := HK2.out; omega⟩, ⟨by (with_reducible repeat (first | apply Kd.R_alloc | apply Kd.R_drewN | apply Kd.R_drew)); exact HO_5.out⟩, ⟨by (with_reducible repeat (first | refine blk_drewN ?_ _ | refine blk_drew ?_ | refine blk_alloc ?_ _)); exact BK101.out⟩, ⟨by repeat (first | (with_reducible first | exact HB.out | apply below_alloc | apply pw_below_drewN | apply below_drew1 | refine below_set ?_ GE101.out) | exact HB.out)⟩⟩
      · replace c4 := Bool.eq_false_iff.mpr c4
        subst c4
        have H1 : (some x5_1) = some r := by rw [if_neg (show ¬ (false = true) by decide)] at H; exact H
        clear H
        have H := H1
        clear H1
        obtain rfl := Option.some.inj H
        go_wp2
        go_ret
        exact ⟨_, by first | rfl | (simp [errW_none, errW_some] <;> rfl) | (simp [*, errW_none, errW_some] <;> rfl), by (with_reducible repeat (first | apply Kd.R_alloc | apply Kd.R_drewN | apply Kd.R_drew)); exact HO_5.out, by repeat (first | (with_reducible first | exact HB.out | apply below_alloc | apply pw_below_drewN | apply below_drew1 | refine below_set ?_ GE101.out) | exact HB.out)⟩

end Go.Proofs.Ytohbdjdjjbieeaa.P

/-! F48 -/
namespace Go.Proofs.Ytohbdjdjjbieeaa.P
open Go.RowKit Go.Proofs.YtohbdjdjjbieeaaW.PrintWords Go.Proofs.YtohbdjdjjbieeaaW.PrintLast Go.Proofs.YtohbdjdjjbieeaaW.PrintMore
attribute [local go_sem] max2_int min2_int max_two min_two max_three min_three max_four min_four   -- for this text's walks alone
set_option linter.unusedVariables false
set_option linter.unusedSimpArgs false

/-! ### spec_l3Growing: function 48 -/
mutual
def spec_l3Growing.l0 : Nat → List Int → List Int → Bool → Int → Int → List (S47) → Option (List Int)
  | 0, _, _, _, _, _, _ => none
  | k + 1, x3, x4, x5, x102000, x102001, x102002 => if x5 = true then (spec_l3Growing.l1 k x3 x4 false x102002 (x102002.length : Int) 0 x102000 x102001 x102002) else (some x4)
def spec_l3Growing.l1 : Nat → List Int → List Int → Bool → List (S47) → Int → Int → Int → Int → List (S47) → Option (List Int)
  | 0, _, _, _, _, _, _, _, _, _ => none
  | k + 1, x3, x4, x5, x16, x17, x18, x102000, x102001, x102002 => if x18 < x17 then (if 0 ≤ x18 then (if x18 < (x16.length : Int) then (spec_l3Growing.l2 k x3 x4 x5 true false x16 x17 x18 ((rd_T47 x16 x18).f1) (((rd_T47 x16 x18).f1).length : Int) 0 x102000 x102001 x102002 ((rd_T47 x16 x18).f0) ((rd_T47 x16 x18).f1)) else (none)) else (none)) else (spec_l3Growing.l0 k x3 x4 x5 x102000 x102001 x102002)
def spec_l3Growing.l2 : Nat → List Int → List Int → Bool → Bool → Bool → List (S47) → Int → Int → List Int → Int → Int → Int → Int → List (S47) → Int → List Int → Option (List Int)
  | 0, _, _, _, _, _, _, _, _, _, _, _, _, _, _, _, _ => none
  | k + 1, x3, x4, x5, x8, x9, x16, x17, x18, x23, x24, x25, x102000, x102001, x102002, x107000, x107001 => if x25 < x24 then (if 0 ≤ x25 then (if x25 < (x23.length : Int) then (if x8 = true then (if (rd x23 x25) < 0 then (if x9 = true then (spec_l3Growing.l2 k x3 x4 x5 true true x16 x17 x18 x23 x24 (wrap64 (x25 + 1)) x102000 x102001 x102002 x107000 x107001) else (spec_l3Growing.l2 k x3 x4 x5 true true x16 x17 x18 x23 x24 (wrap64 (x25 + 1)) x102000 x102001 x102002 x107000 x107001)) else ((spec_l1Has.f k x3 (rd x23 x25)).bind fun t108 => (if x9 = true then (spec_l3Growing.l2 k x3 x4 x5 t108 true x16 x17 x18 x23 x24 (wrap64 (x25 + 1)) x102000 x102001 x102002 x107000 x107001) else ((spec_l1Has.f k x4 (rd x23 x25)).bind fun t109 => (spec_l3Growing.l2 k x3 x4 x5 t108 t109 x16 x17 x18 x23 x24 (wrap64 (x25 + 1)) x102000 x102001 x102002 x107000 x107001))))) else (if x9 = true then (spec_l3Growing.l2 k x3 x4 x5 false true x16 x17 x18 x23 x24 (wrap64 (x25 + 1)) x102000 x102001 x102002 x107000 x107001) else (if (rd x23 x25) < 0 then (spec_l3Growing.l2 k x3 x4 x5 false true x16 x17 x18 x23 x24 (wrap64 (x25 + 1)) x102000 x102001 x102002 x107000 x107001) else ((spec_l1Has.f k x4 (rd x23 x25)).bind fun t110 => (spec_l3Growing.l2 k x3 x4 x5 false t110 x16 x17 x18 x23 x24 (wrap64 (x25 + 1)) x102000 x102001 x102002 x107000 x107001))))) else (none)) else (none)) else (if x8 = true then (if x9 = true then ((spec_l1Has.f k x4 x107000).bind fun t111 => (if t111 = true then (spec_l3Growing.l1 k x3 x4 x5 x16 x17 (wrap64 (x18 + 1)) x102000 x102001 x102002) else ((spec_l1Put.f k x4 x107000).bind fun t112 => (spec_l3Growing.l1 k x3 t112 true x16 x17 (wrap64 (x18 + 1)) x102000 x102001 x102002)))) else (spec_l3Growing.l1 k x3 x4 x5 x16 x17 (wrap64 (x18 + 1)) x102000 x102001 x102002)) else (spec_l3Growing.l1 k x3 x4 x5 x16 x17 (wrap64 (x18 + 1)) x102000 x102001 x102002))
end
def spec_l3Growing.f (k : Nat) (a0_0 : Int) (a0_1 : Int) (l0_2 : List (S47)) : Option (List Int) := (spec_l3Close.f k a0_0 a0_1 l0_2 true).bind fun t102 => (spec_l3Growing.l0 k t102 ([] : List Int) true a0_0 a0_1 l0_2)
theorem spec_l3Growing.mono_l : ∀ k, (∀ y0 y1 y2 y3 y4 y5, LeO (spec_l3Growing.l0 k y0 y1 y2 y3 y4 y5) (spec_l3Growing.l0 (k + 1) y0 y1 y2 y3 y4 y5)) ∧ (∀ y0 y1 y2 y3 y4 y5 y6 y7 y8, LeO (spec_l3Growing.l1 k y0 y1 y2 y3 y4 y5 y6 y7 y8) (spec_l3Growing.l1 (k + 1) y0 y1 y2 y3 y4 y5 y6 y7 y8)) ∧ (∀ y0 y1 y2 y3 y4 y5 y6 y7 y8 y9 y10 y11 y12 y13 y14 y15, LeO (spec_l3Growing.l2 k y0 y1 y2 y3 y4 y5 y6 y7 y8 y9 y10 y11 y12 y13 y14 y15) (spec_l3Growing.l2 (k + 1) y0 y1 y2 y3 y4 y5 y6 y7 y8 y9 y10 y11 y12 y13 y14 y15))
  | 0 => ⟨fun _ _ _ _ _ _ r h => by simp [spec_l3Growing.l0] at h, fun _ _ _ _ _ _ _ _ _ r h => by simp [spec_l3Growing.l1] at h, fun _ _ _ _ _ _ _ _ _ _ _ _ _ _ _ _ r h => by simp [spec_l3Growing.l2] at h⟩
  | k + 1 => by
    obtain ⟨ih0, ih1, ih2⟩ := spec_l3Growing.mono_l k
    refine ⟨?_, ?_, ?_⟩
    · intro y0 y1 y2 y3 y4 y5
      unfold spec_l3Growing.l0
      repeat' first
      | (with_reducible exact ih0 _ _ _ _ _ _)
      | (with_reducible exact ih1 _ _ _ _ _ _ _ _ _)
      | (with_reducible exact ih2 _ _ _ _ _ _ _ _ _ _ _ _ _ _ _ _)
      | (with_reducible exact spec_l1Has.mono _ _ _)
      | (with_reducible exact spec_l1Put.mono _ _ _)
      | (with_reducible exact spec_l3Close.mono _ _ _ _ _)
      | (with_reducible exact LeO.refl _)
      | (with_reducible exact LeO.none _)
      | (with_reducible refine LeO.ite ?_ ?_)
      | (with_reducible refine LeO.bind ?_ (fun _ => ?_))
      | exact ih0 _ _ _ _ _ _
      | exact ih1 _ _ _ _ _ _ _ _ _
      | exact ih2 _ _ _ _ _ _ _ _ _ _ _ _ _ _ _ _
      | exact spec_l1Has.mono _ _ _
      | exact spec_l1Put.mono _ _ _
      | exact spec_l3Close.mono _ _ _ _ _
      | exact LeO.none _
      | refine LeO.ite ?_ ?_
      | refine LeO.bind ?_ (fun _ => ?_)
    · intro y0 y1 y2 y3 y4 y5 y6 y7 y8
      unfold spec_l3Growing.l1
      repeat' first
      | (with_reducible exact ih0 _ _ _ _ _ _)
      | (with_reducible exact ih1 _ _ _ _ _ _ _ _ _)
      | (with_reducible exact ih2 _ _ _ _ _ _ _ _ _ _ _ _ _ _ _ _)
      | (with_reducible exact spec_l1Has.mono _ _ _)
      | (with_reducible exact spec_l1Put.mono _ _ _)
      | (with_reducible exact spec_l3Close.mono _ _ _ _ _)
      | (with_reducible exact LeO.refl _)
      | (with_reducible exact LeO.none _)
      | (with_reducible refine LeO.ite ?_ ?_)
      | (with_reducible refine LeO.bind ?_ (fun _ => ?_))
      | exact ih0 _ _ _ _ _ _
      | exact ih1 _ _ _ _ _ _ _ _ _
      | exact ih2 _ _ _ _ _ _ _ _ _ _ _ _ _ _ _ _
      | exact spec_l1Has.mono _ _ _
      | exact spec_l1Put.mono _ _ _
      | exact spec_l3Close.mono _ _ _ _ _
      | exact LeO.none _
      | refine LeO.ite ?_ ?_
      | refine LeO.bind ?_ (fun _ => ?_)
    · intro y0 y1 y2 y3 y4 y5 y6 y7 y8 y9 y10 y11 y12 y13 y14 y15
      unfold spec_l3Growing.l2
      repeat' first
      | (with_reducible exact ih0 _ _ _ _ _ _)
      | (with_reducible exact ih1 _ _ _ _ _ _ _ _ _)
      | (with_reducible exact ih2 _ _ _ _ _ _ _ _ _ _ _ _ _ _ _ _)
      | (with_reducible exact spec_l1Has.mono _ _ _)
      | (with_reducible exact spec_l1Put.mono _ _ _)
      | (with_reducible exact spec_l3Close.mono _ _ _ _ _)
      | (with_reducible exact LeO.refl _)
      | (with_reducible exact LeO.none _)
      | (with_reducible refine LeO.ite ?_ ?_)
      | (with_reducible refine LeO.bind ?_ (fun _ => ?_))
      | exact ih0 _ _ _ _ _ _
      | exact ih1 _ _ _ _ _ _ _ _ _
      | exact ih2 _ _ _ _ _ _ _ _ _ _ _ _ _ _ _ _
      | exact spec_l1Has.mono _ _ _
      | exact spec_l1Put.mono _ _ _
      | exact spec_l3Close.mono _ _ _ _ _
      | exact LeO.none _
      | refine LeO.ite ?_ ?_
      | refine LeO.bind ?_ (fun _ => ?_)
theorem spec_l3Growing.mono : ∀ a0 a1 a2 k, LeO (spec_l3Growing.f k a0 a1 a2) (spec_l3Growing.f (k + 1) a0 a1 a2) := by
  intro a0 a1 a2 k
  obtain ⟨ih0, ih1, ih2⟩ := spec_l3Growing.mono_l k
  unfold spec_l3Growing.f
  repeat' first
      | (with_reducible exact ih0 _ _ _ _ _ _)
      | (with_reducible exact ih1 _ _ _ _ _ _ _ _ _)
      | (with_reducible exact ih2 _ _ _ _ _ _ _ _ _ _ _ _ _ _ _ _)
      | (with_reducible exact spec_l1Has.mono _ _ _)
      | (with_reducible exact spec_l1Put.mono _ _ _)
      | (with_reducible exact spec_l3Close.mono _ _ _ _ _)
      | (with_reducible exact LeO.refl _)
      | (with_reducible exact LeO.none _)
      | (with_reducible refine LeO.ite ?_ ?_)
      | (with_reducible refine LeO.bind ?_ (fun _ => ?_))
      | exact ih0 _ _ _ _ _ _
      | exact ih1 _ _ _ _ _ _ _ _ _
      | exact ih2 _ _ _ _ _ _ _ _ _ _ _ _ _ _ _ _
      | exact spec_l1Has.mono _ _ _
      | exact spec_l1Put.mono _ _ _
      | exact spec_l3Close.mono _ _ _ _ _
      | exact LeO.none _
      | refine LeO.ite ?_ ?_
      | refine LeO.bind ?_ (fun _ => ?_)
set_option maxHeartbeats 8000000 in
set_option maxRecDepth 100000 in
theorem spec_l3Growing.calls (k : Nat) (a0_0 : Int) (a0_1 : Int) (A0_2 : Option Addr) (c0_2 : Nat) (l0_2 : List (S47)) (r : List Int) (w : World) (hr0_2 : Kd.C k47 w A0_2 l0_2.length l0_2) (hc0_2 : l0_2.length ≤ c0_2) (h : spec_l3Growing.f k a0_0 a0_1 l0_2 = some r) :
    Calls Try.prog 48 #[.agg #[.int .i64 a0_0, .int .i64 a0_1, .slice A0_2 l0_2.length c0_2]] w fun e w' => ∃ v0_ : Value, e = .returned (v0_) ∧ Kd.R (Kd.int .i64) 3 w' w.heap.size (fun _ => True) v0_ r ∧ Below w.heap.size w w' := by
  have hu30 := Try.underlying30
  have hu47 := Try.underlying47
  have HR0_2 := Aside0.mk hr0_2
  have HC0_2 := Aside0.mk hc0_2
  clear hr0_2 hc0_2
  have HB := Aside0.mk (Below.refl w.heap.size w)
  have H : ((spec_l3Close.f k a0_0 a0_1 l0_2 true).bind fun t102 => (spec_l3Growing.l0 k t102 ([] : List Int) true a0_0 a0_1 l0_2)) = some r := h
  clear h
  replace H := Option.bind_eq_some_iff.mp H
  obtain ⟨t102, A20, H⟩ := H
  replace H : (spec_l3Growing.l0 k t102 ([] : List Int) true a0_0 a0_1 l0_2) = some r := H
  have A2 := Aside0.mk A20
  clear A20
  have H' := Aside0.mk H
  clear H
  go_enter Try.func48, Try.ntmps48
  go_wp2_with (first | ((with_reducible refine gate_dst (N := 1) rfl ?_); refine box_event ?hg (N := 1) ?hd (cs := #[.int .i64 a0_0, .int .i64 a0_1, .slice A0_2 l0_2.length c0_2]) (t := 30) ?hr ?_; (case hd => rfl); (case hg => rfl); (case hr => first | (go_simp; done) | (go_simp; rfl)); intro gb101 hg w3 hbox hb; have n0_ := Aside0.mk (below_step (by repeat (first | (with_reducible first | exact HB.out | apply below_alloc | apply pw_below_drewN | apply below_drew1) | exact HB.out)) hb); have n1_ := Aside0.mk (hbox); have n2_ := Aside0.mk ((by rw [hg]; exact (below_size (by repeat (first | (with_reducible first | exact HB.out | apply below_alloc | apply pw_below_drewN | apply below_drew1) | exact HB.out))) : w.heap.size ≤ gb101)); have n3_ := Aside0.mk ((by rw [hg]; exact (below_size (by repeat (first | (with_reducible first | exact HB.out | apply below_alloc | apply pw_below_drewN | apply below_drew1) | exact HB.out))) : w.heap.size ≤ gb101)); clear HB; have HB := n0_; have BK101 := n1_; have GW101 := n2_; have GE101 := n3_; clear n0_ n1_ n2_ n3_; clear hb hbox hg; have hcz4_0 : w3.cell? ⟨gb101, 0, none⟩ = some (.int .i64 a0_0) := (blk_cell BK101.out 0).trans rfl; have hcz4_1 : w3.cell? ⟨gb101, 1, none⟩ = some (.int .i64 a0_1) := (blk_cell BK101.out 1).trans rfl; have hcz4_2 : w3.cell? ⟨gb101, 2, none⟩ = some (.slice A0_2 l0_2.length c0_2) := (blk_cell BK101.out 2).trans rfl; have hfz4_0 := blk_frozen BK101.out 0; have hfz4_1 := blk_frozen BK101.out 1; have hfz4_2 := blk_frozen BK101.out 2) | ((with_reducible refine gate_callee (f := 45) rfl ?_); refine goesL_ (some 13) rfl rfl Try.func45 (by kernel_rfl) rfl #[.agg #[.int .i64 a0_0, .int .i64 a0_1, .slice A0_2 l0_2.length c0_2], .bool true] rfl (by (try simp only [List.map_toArray, List.map_cons, List.map_nil]); first | done | rfl | (simp only [List.length_drop, List.length_take]; rfl)) ?_; (with_reducible refine (spec_l3Close.calls k a0_0 a0_1 _ _ l0_2 true t102 _ ?side1 ?side2 A2.out).mono ?_); (case side1 => repeat (first | exact (Kd.C_below HR0_2.out HB.out) | (with_reducible refine Kd.C_alloc ?_ _) | (with_reducible refine Kd.C_drewN ?_ _) | (with_reducible refine Kd.C_drew ?_))); (case side2 => exact HC0_2.out); rintro e w5 ⟨v103, rfl, ho0, hb⟩; refine ⟨_, rfl, ?_⟩; have n0_ := Aside0.mk (Kd.R_lower ho0 (below_size (by repeat (first | (with_reducible first | exact HB.out | apply below_alloc | apply pw_below_drewN | apply below_drew1 | refine below_set ?_ GE101.out) | exact HB.out)))); have n1_ := Aside0.mk (blk_below (g := gb101) (o := .cells #[.int .i64 a0_0, .int .i64 a0_1, .slice A0_2 l0_2.length c0_2] 30 (0, 0)) (by (with_reducible repeat (first | refine blk_drewN ?_ _ | refine blk_drew ?_ | refine blk_alloc ?_ _)); exact BK101.out) hb); have n2_ := Aside0.mk (below_step (by repeat (first | (with_reducible first | exact HB.out | apply below_alloc | apply pw_below_drewN | apply below_drew1 | refine below_set ?_ GE101.out) | exact HB.out)) hb); clear BK101; clear HB; have HO104 := n0_; have BK101 := n1_; have HB := n2_; clear n0_ n1_ n2_; (try clear hb); (try clear hb2); (try clear hk); (try clear hi); (try clear ho0)))
  go_loopg [4, 5] k (fun kq v4 v5 w' => ∃ (x4_1 : List Int) (x5_1 : Bool), v5 = .bool x5_1 ∧ Aside0 (spec_l3Growing.l0 kq t102 x4_1 x5_1 a0_0 a0_1 l0_2 = some r) ∧ Aside0 (kq ≤ k) ∧ Aside0 (Kd.R (Kd.int .i64) 3 w' w.heap.size (fun k_ => some k_ ≠ (v4 : Value).ownBlock) v103 t102) ∧ Aside0 (Kd.R (Kd.int .i64) 3 w' w.heap.size (fun k_ => some k_ ≠ (v103 : Value).ownBlock) v4 x4_1) ∧ Aside0 (w'.heap[gb101]? = some (.cells #[.int .i64 a0_0, .int .i64 a0_1, (.slice A0_2 l0_2.length c0_2)] 30 (0, 0))) ∧ Aside0 (Below w.heap.size w w'))
  case atStart => exact ⟨(([] : List Int)), (true), (by first | rfl | (simp; done) | (simp [*]; done)), H', ⟨Nat.le_refl _⟩, ⟨by (with_reducible repeat (first | apply Kd.R_alloc | apply Kd.R_drewN | apply Kd.R_drew)); exact Kd.R_mono HO104.out (fun _ hk => (by simp [Value.ownBlock]))⟩, ⟨by first | exact Kd.R_nil _ _ _ _ _ | exact Kd.N_nil _ _ _ _ _ | exact Kd.V_nil _ _ _ _ _ | exact Kd.Q_nil _ _ _ _ _ | exact Kd.S_nil _ _ _ _ _⟩, ⟨by (with_reducible repeat (first | refine blk_drewN ?_ _ | refine blk_drew ?_ | refine blk_alloc ?_ _)); exact BK101.out⟩, ⟨by repeat (first | (with_reducible first | exact HB.out | apply below_alloc | apply pw_below_drewN | apply below_drew1 | refine below_set ?_ GE101.out) | exact HB.out)⟩⟩
  case round =>
    clear H'
    try clear p2
    try clear c4
    try clear hcz4_0
    try clear hcz4_1
    try clear hcz4_2
    try clear hfz4_0
    try clear hfz4_1
    try clear hfz4_2
    obtain ⟨x4_1, x5_1, rfl, HA, HK1, HO_3, HO_4, BK101, HB⟩ := hrel
    cases gk with
    | zero => exact absurd HA.out (by simp [spec_l3Growing.l0])
    | succ k1 =>
      have H := HA.out
      clear HA
      simp only [spec_l3Growing.l0] at H
      by_cases c6 : x5_1 = true
      · subst c6
        have H1 : (spec_l3Growing.l1 k1 t102 x4_1 false l0_2 (l0_2.length : Int) 0 a0_0 a0_1 l0_2) = some r := by rw [if_pos rfl] at H; exact H
        clear H
        have H := H1
        clear H1
        have H' := Aside0.mk H
        clear H
        have hcz7_0 : wr.cell? ⟨gb101, 0, none⟩ = some (.int .i64 a0_0) := (blk_cell BK101.out 0).trans rfl
        have hcz7_1 : wr.cell? ⟨gb101, 1, none⟩ = some (.int .i64 a0_1) := (blk_cell BK101.out 1).trans rfl
        have hcz7_2 : wr.cell? ⟨gb101, 2, none⟩ = some (.slice A0_2 l0_2.length c0_2) := (blk_cell BK101.out 2).trans rfl
        have hfz7_0 := blk_frozen BK101.out 0
        have hfz7_1 := blk_frozen BK101.out 1
        have hfz7_2 := blk_frozen BK101.out 2
        go_wp2
        go_loopg [4, 5, 18] k1 (fun kq v4 v5 v18 w' => ∃ (x4_2 : List Int) (x5_2 : Bool) (x18_2 : Int), v5 = .bool x5_2 ∧ v18 = .int .i64 x18_2 ∧ Aside0 (spec_l3Growing.l1 kq t102 x4_2 x5_2 l0_2 (l0_2.length : Int) x18_2 a0_0 a0_1 l0_2 = some r) ∧ Aside0 (kq ≤ k1) ∧ Aside0 (Kd.R (Kd.int .i64) 3 w' w.heap.size (fun k_ => some k_ ≠ (v4 : Value).ownBlock) v103 t102) ∧ Aside0 (Kd.R (Kd.int .i64) 3 w' w.heap.size (fun k_ => some k_ ≠ (v103 : Value).ownBlock) v4 x4_2) ∧ Aside0 (w'.heap[gb101]? = some (.cells #[.int .i64 a0_0, .int .i64 a0_1, (.slice A0_2 l0_2.length c0_2)] 30 (0, 0))) ∧ Aside0 (Below w.heap.size w w'))
        case atStart => exact ⟨(x4_1), (false), (0), (by first | rfl | (simp; done) | (simp [*]; done)), (by first | rfl | (simp; done) | (simp [*]; done)), H', ⟨Nat.le_refl _⟩, ⟨by (with_reducible repeat (first | apply Kd.R_alloc | apply Kd.R_drewN | apply Kd.R_drew)); exact HO_3.out⟩, ⟨by (with_reducible repeat (first | apply Kd.R_alloc | apply Kd.R_drewN | apply Kd.R_drew)); exact HO_4.out⟩, ⟨by (with_reducible repeat (first | refine blk_drewN ?_ _ | refine blk_drew ?_ | refine blk_alloc ?_ _)); exact BK101.out⟩, ⟨by repeat (first | (with_reducible first | exact HB.out | apply below_alloc | apply pw_below_drewN | apply below_drew1 | refine below_set ?_ GE101.out) | exact HB.out)⟩⟩
        case round =>
          clear H'
          try clear p2
          try clear c4
          try clear c6
          try clear hcz4_0
          try clear hcz4_1
          try clear hcz4_2
          try clear hcz7_0
          try clear hcz7_1
          try clear hcz7_2
          try clear hfz4_0
          try clear hfz4_1
          try clear hfz4_2
          try clear hfz7_0
          try clear hfz7_1
          try clear hfz7_2
          try clear p2
          obtain ⟨x4_2, x5_2, x18_2, rfl, rfl, HA, HK2, HO_3, HO_4, BK101, HB⟩ := hrel
          cases gk with
          | zero => exact absurd HA.out (by simp [spec_l3Growing.l1])
          | succ k2 =>
            have H := HA.out
            clear HA
            simp only [spec_l3Growing.l1] at H
            by_cases c8 : x18_2 < (l0_2.length : Int)
            · rw [if_pos c8] at H
              have c8b0 : decide (x18_2 < (l0_2.length : Int)) = true := decide_eq_true c8
              clear c8
              by_cases c9 : 0 ≤ x18_2
              · rw [if_pos c9] at H
                have c9b0 : decide (0 ≤ x18_2) = true := decide_eq_true c9
                clear c9
                by_cases c10 : x18_2 < (l0_2.length : Int)
                · rw [if_pos c10] at H
                  have c10b0 : decide (x18_2 < (l0_2.length : Int)) = true := decide_eq_true c10
                  clear c10
                  have H' := Aside0.mk H
                  clear H
                  have p105 : 0 ≤ (x18_2 : Int) := of_decide_eq_true (by first | (with_reducible assumption) | assumption)
                  have q105 : x18_2 < (l0_2.length : Int) := of_decide_eq_true (by first | (with_reducible assumption) | assumption)
                  obtain ⟨ad105, A105_1, c105_1, e105, hx105_0, hx105_1, hl105_1, hi105_1⟩ := at_T47 HR0_2.out x18_2 p105 q105
                  cases e105
                  replace hx105_0 := (HB.out.cell (World.block_lt_of_cell? w _ hx105_0)).trans hx105_0
                  replace hx105_1 := (HB.out.cell (World.block_lt_of_cell? w _ hx105_1)).trans hx105_1
                  have HR105_1 := Aside0.mk hi105_1
                  have HC105_1 := Aside0.mk hl105_1
                  clear hi105_1 hl105_1
                  replace p105 := eq_true p105
                  replace q105 := eq_true q105
                  go_wp2_with (first | ((with_reducible refine gate_dst (N := 7) rfl ?_); refine box_event ?hg (N := 7) ?hd (cs := #[.int .i64 0, .slice none 0 0]) (t := 47) ?hr ?_; (case hd => rfl); (case hg => rfl); (case hr => first | (go_simp; done) | (go_simp; rfl)); intro gb106 hg w11 hbox hb; have n0_ := Aside0.mk (Kd.R_below (by (with_reducible repeat (first | apply Kd.R_alloc | apply Kd.R_drewN | apply Kd.R_drew)); exact HO_3.out) hb); have n1_ := Aside0.mk (Kd.R_below (by (with_reducible repeat (first | apply Kd.R_alloc | apply Kd.R_drewN | apply Kd.R_drew)); exact HO_4.out) hb); have n2_ := Aside0.mk (blk_below (g := gb101) (o := .cells #[.int .i64 a0_0, .int .i64 a0_1, .slice (some ad105) l0_2.length c0_2] 30 (0, 0)) (by (with_reducible repeat (first | refine blk_drewN ?_ _ | refine blk_drew ?_ | refine blk_alloc ?_ _)); exact BK101.out) hb); have n3_ := Aside0.mk (below_step (by repeat (first | (with_reducible first | exact HB.out | apply below_alloc | apply pw_below_drewN | apply below_drew1 | refine below_set ?_ GE101.out) | exact HB.out)) hb); have n4_ := Aside0.mk (hbox); have n5_ := Aside0.mk ((by rw [hg]; exact (below_size (by repeat (first | (with_reducible first | exact HB.out | apply below_alloc | apply pw_below_drewN | apply below_drew1 | refine below_set ?_ GE101.out) | exact HB.out))) : w.heap.size ≤ gb106)); have n6_ := Aside0.mk ((by rw [hg]; exact (below_size (by repeat (first | (with_reducible first | exact HB.out | apply below_alloc | apply pw_below_drewN | apply below_drew1 | refine below_set ?_ GE101.out) | exact HB.out))) : w.heap.size ≤ gb106)); have n7_ := Aside0.mk ((by rw [hg]; exact Nat.ne_of_lt (blk_lt (g := gb101) (o := .cells #[.int .i64 a0_0, .int .i64 a0_1, .slice (some ad105) l0_2.length c0_2] 30 (0, 0)) (by (with_reducible repeat (first | refine blk_drewN ?_ _ | refine blk_drew ?_ | refine blk_alloc ?_ _)); exact BK101.out)) : gb101 ≠ gb106)); have n8_ := Aside0.mk ((by rw [hg]; exact Nat.ne_of_gt (blk_lt (g := gb101) (o := .cells #[.int .i64 a0_0, .int .i64 a0_1, .slice (some ad105) l0_2.length c0_2] 30 (0, 0)) (by (with_reducible repeat (first | refine blk_drewN ?_ _ | refine blk_drew ?_ | refine blk_alloc ?_ _)); exact BK101.out)) : gb106 ≠ gb101)); clear HO_3; clear HO_4; clear BK101; clear HB; have HO_3 := n0_; have HO_4 := n1_; have BK101 := n2_; have HB := n3_; have BK106 := n4_; have GW106 := n5_; have GE106 := n6_; have NB101_106 := n7_; have NB106_101 := n8_; clear n0_ n1_ n2_ n3_ n4_ n5_ n6_ n7_ n8_; clear hb hbox hg; have hnb12 := NB106_101.out; have hnc12 := NB101_106.out; have hcz13_0 : w11.cell? ⟨gb106, 0, none⟩ = some (.int .i64 0) := (blk_cell BK106.out 0).trans rfl; have hcz13_1 : w11.cell? ⟨gb106, 1, none⟩ = some (.slice none 0 0) := (blk_cell BK106.out 1).trans rfl; have hfz13_0 := blk_frozen BK106.out 0; have hfz13_1 := blk_frozen BK106.out 1))
                  go_loopg [8, 9, 25] k2 (fun kq v8 v9 v25 w' => ∃ (x8_3 : Bool) (x9_3 : Bool) (x25_3 : Int), v8 = .bool x8_3 ∧ v9 = .bool x9_3 ∧ v25 = .int .i64 x25_3 ∧ Aside0 (spec_l3Growing.l2 kq t102 x4_2 x5_2 x8_3 x9_3 l0_2 (l0_2.length : Int) x18_2 ((rd_T47 l0_2 x18_2).f1) (((rd_T47 l0_2 x18_2).f1).length : Int) x25_3 a0_0 a0_1 l0_2 ((rd_T47 l0_2 x18_2).f0) ((rd_T47 l0_2 x18_2).f1) = some r) ∧ Aside0 (kq ≤ k2) ∧ Aside0 (Kd.R (Kd.int .i64) 3 w' w.heap.size (fun k_ => some k_ ≠ (u4 : Value).ownBlock) v103 t102) ∧ Aside0 (Kd.R (Kd.int .i64) 3 w' w.heap.size (fun k_ => some k_ ≠ (v103 : Value).ownBlock) u4 x4_2) ∧ Aside0 (w'.heap[gb101]? = some (.cells #[.int .i64 a0_0, .int .i64 a0_1, (.slice (some ad105) l0_2.length c0_2)] 30 (0, 0))) ∧ Aside0 (w'.heap[gb106]? = some (.cells #[.int .i64 ((rd_T47 l0_2 x18_2).f0), (.slice A105_1 ((rd_T47 l0_2 x18_2).f1).length c105_1)] 47 (0, 0))) ∧ Aside0 (Below w.heap.size w w'))
                  case atStart => exact ⟨(true), (false), (0), (by first | rfl | (simp; done) | (simp [*]; done)), (by first | rfl | (simp; done) | (simp [*]; done)), (by first | rfl | (simp; done) | (simp [*]; done)), H', ⟨Nat.le_refl _⟩, ⟨by (with_reducible repeat (first | apply Kd.R_alloc | apply Kd.R_drewN | apply Kd.R_drew)); exact Kd.R_mono (Kd.R_far (p := ⟨gb106, 1, none⟩) (Kd.R_far (p := ⟨gb106, 0, none⟩) (Kd.R_types HO_3.out BK106.out (by decide)) (fun _ hk => hk.2) (.int .i64 ((rd_T47 l0_2 x18_2).f0))) (fun _ hk => hk.2) (.slice A105_1 ((rd_T47 l0_2 x18_2).f1).length c105_1)) (fun _ hk => hk.1)⟩, ⟨by (with_reducible repeat (first | apply Kd.R_alloc | apply Kd.R_drewN | apply Kd.R_drew)); exact Kd.R_mono (Kd.R_far (p := ⟨gb106, 1, none⟩) (Kd.R_far (p := ⟨gb106, 0, none⟩) (Kd.R_types HO_4.out BK106.out (by decide)) (fun _ hk => hk.2) (.int .i64 ((rd_T47 l0_2 x18_2).f0))) (fun _ hk => hk.2) (.slice A105_1 ((rd_T47 l0_2 x18_2).f1).length c105_1)) (fun _ hk => hk.1)⟩, ⟨by (with_reducible repeat (first | refine blk_drewN ?_ _ | refine blk_drew ?_ | refine blk_alloc ?_ _)); refine blk_far ?_ NB101_106.out _; (with_reducible repeat (first | refine blk_drewN ?_ _ | refine blk_drew ?_ | refine blk_alloc ?_ _)); refine blk_far ?_ NB101_106.out _; (with_reducible repeat (first | refine blk_drewN ?_ _ | refine blk_drew ?_ | refine blk_alloc ?_ _)); exact BK101.out⟩, ⟨by (with_reducible repeat (first | refine blk_drewN ?_ _ | refine blk_drew ?_ | refine blk_alloc ?_ _)); refine blk_put (cs := #[.int .i64 ((rd_T47 l0_2 x18_2).f0), .slice none 0 0]) ?_ 1 _ rfl; (with_reducible repeat (first | refine blk_drewN ?_ _ | refine blk_drew ?_ | refine blk_alloc ?_ _)); refine blk_put (cs := #[.int .i64 0, .slice none 0 0]) ?_ 0 _ rfl; (with_reducible repeat (first | refine blk_drewN ?_ _ | refine blk_drew ?_ | refine blk_alloc ?_ _)); exact BK106.out⟩, ⟨by repeat (first | (with_reducible first | exact HB.out | apply below_alloc | apply pw_below_drewN | apply below_drew1 | refine below_set ?_ GE101.out | refine below_set ?_ GE106.out) | exact HB.out)⟩⟩
                  case round =>
                    clear H'
                    try clear c1
                    try clear p1
                    try clear q1
                    try clear hx1
                    try clear p2
                    try clear c4
                    try clear c6
                    try clear c8
                    try clear c8b0
                    try clear c9
                    try clear c9b0
                    try clear c10
                    try clear c10b0
                    try clear p10
                    try clear q10
                    try clear hx10
                    try clear c12
                    try clear hcz13_0
                    try clear hcz13_1
                    try clear hcz4_0
                    try clear hcz4_1
                    try clear hcz4_2
                    try clear hcz7_0
                    try clear hcz7_1
                    try clear hcz7_2
                    try clear hfz13_0
                    try clear hfz13_1
                    try clear hfz4_0
                    try clear hfz4_1
                    try clear hfz4_2
                    try clear hfz7_0
                    try clear hfz7_1
                    try clear hfz7_2
                    try clear hx105_0
                    try clear hx105_1
                    try clear p105
                    try clear p2
                    try clear q105
                    obtain ⟨x8_3, x9_3, x25_3, rfl, rfl, rfl, HA, HK3, HO_3, HO_4, BK101, BK106, HB⟩ := hrel
                    cases gk with
                    | zero => exact absurd HA.out (by simp [spec_l3Growing.l2])
                    | succ k3 =>
                      have H := HA.out
                      clear HA
                      simp only [spec_l3Growing.l2] at H
                      by_cases c14 : x25_3 < (((rd_T47 l0_2 x18_2).f1).length : Int)
                      · rw [if_pos c14] at H
                        have c14b0 : decide (x25_3 < (((rd_T47 l0_2 x18_2).f1).length : Int)) = true := decide_eq_true c14
                        clear c14
                        by_cases c15 : 0 ≤ x25_3
                        · rw [if_pos c15] at H
                          have c15b0 : decide (0 ≤ x25_3) = true := decide_eq_true c15
                          clear c15
                          by_cases c16 : x25_3 < (((rd_T47 l0_2 x18_2).f1).length : Int)
                          · rw [if_pos c16] at H
                            have c16b0 : decide (x25_3 < (((rd_T47 l0_2 x18_2).f1).length : Int)) = true := decide_eq_true c16
                            clear c16
                            by_cases c17 : x8_3 = true
                            · subst c17
                              have H1 : (if (rd ((rd_T47 l0_2 x18_2).f1) x25_3) < 0 then (if x9_3 = true then (spec_l3Growing.l2 k3 t102 x4_2 x5_2 true true l0_2 (l0_2.length : Int) x18_2 ((rd_T47 l0_2 x18_2).f1) (((rd_T47 l0_2 x18_2).f1).length : Int) (wrap64 (x25_3 + 1)) a0_0 a0_1 l0_2 ((rd_T47 l0_2 x18_2).f0) ((rd_T47 l0_2 x18_2).f1)) else (spec_l3Growing.l2 k3 t102 x4_2 x5_2 true true l0_2 (l0_2.length : Int) x18_2 ((rd_T47 l0_2 x18_2).f1) (((rd_T47 l0_2 x18_2).f1).length : Int) (wrap64 (x25_3 + 1)) a0_0 a0_1 l0_2 ((rd_T47 l0_2 x18_2).f0) ((rd_T47 l0_2 x18_2).f1))) else ((spec_l1Has.f k3 t102 (rd ((rd_T47 l0_2 x18_2).f1) x25_3)).bind fun t108 => (if x9_3 = true then (spec_l3Growing.l2 k3 t102 x4_2 x5_2 t108 true l0_2 (l0_2.length : Int) x18_2 ((rd_T47 l0_2 x18_2).f1) (((rd_T47 l0_2 x18_2).f1).length : Int) (wrap64 (x25_3 + 1)) a0_0 a0_1 l0_2 ((rd_T47 l0_2 x18_2).f0) ((rd_T47 l0_2 x18_2).f1)) else ((spec_l1Has.f k3 x4_2 (rd ((rd_T47 l0_2 x18_2).f1) x25_3)).bind fun t109 => (spec_l3Growing.l2 k3 t102 x4_2 x5_2 t108 t109 l0_2 (l0_2.length : Int) x18_2 ((rd_T47 l0_2 x18_2).f1) (((rd_T47 l0_2 x18_2).f1).length : Int) (wrap64 (x25_3 + 1)) a0_0 a0_1 l0_2 ((rd_T47 l0_2 x18_2).f0) ((rd_T47 l0_2 x18_2).f1)))))) = some r := by rw [if_pos rfl] at H; exact H
                              clear H
                              have H := H1
                              clear H1
                              by_cases c18 : (rd ((rd_T47 l0_2 x18_2).f1) x25_3) < 0
                              · rw [if_pos c18] at H
                                have c18b0 : decide ((rd ((rd_T47 l0_2 x18_2).f1) x25_3) < 0) = true := decide_eq_true c18
                                clear c18
                                by_cases c19 : x9_3 = true
                                · subst c19
                                  have H1 : (spec_l3Growing.l2 k3 t102 x4_2 x5_2 true true l0_2 (l0_2.length : Int) x18_2 ((rd_T47 l0_2 x18_2).f1) (((rd_T47 l0_2 x18_2).f1).length : Int) (wrap64 (x25_3 + 1)) a0_0 a0_1 l0_2 ((rd_T47 l0_2 x18_2).f0) ((rd_T47 l0_2 x18_2).f1)) = some r := by rw [if_pos rfl] at H; exact H
                                  clear H
                                  have H := H1
                                  clear H1
                                  have H' := Aside0.mk H
                                  clear H
                                  have p107 : 0 ≤ (x25_3 : Int) := of_decide_eq_true (by first | (with_reducible assumption) | assumption)
                                  have q107 : x25_3 < (((rd_T47 l0_2 x18_2).f1).length : Int) := of_decide_eq_true (by first | (with_reducible assumption) | assumption)
                                  obtain ⟨ad107, e107, hx107_0⟩ := Kd.at_int HR105_1.out x25_3 p107 q107
                                  cases e107
                                  replace hx107_0 := (HB.out.cell (World.block_lt_of_cell? w _ hx107_0)).trans hx107_0
                                  replace p107 := eq_true p107
                                  replace q107 := eq_true q107
                                  go_wp2
                                  go_roundg k3
                                  case measure => have := HK1.out; have := HK2.out; have := HK3.out; omega
                                  case rel => exact ⟨(true), (true), (wrap64 (x25_3 + 1)), (by first | rfl | (simp; done) | (simp [*]; done)), (by first | rfl | (simp; done) | (simp [*]; done)), (by first | rfl | (simp; done) | (simp [*]; done)), H', ⟨by have := HK1.out; have := HK2.out; have := HK3.out; omega⟩, ⟨by (with_reducible repeat (first | apply Kd.R_alloc | apply Kd.R_drewN | apply Kd.R_drew)); exact HO_3.out⟩, ⟨by (with_reducible repeat (first | apply Kd.R_alloc | apply Kd.R_drewN | apply Kd.R_drew)); exact HO_4.out⟩, ⟨by (with_reducible repeat (first | refine blk_drewN ?_ _ | refine blk_drew ?_ | refine blk_alloc ?_ _)); exact BK101.out⟩, ⟨by (with_reducible repeat (first | refine blk_drewN ?_ _ | refine blk_drew ?_ | refine blk_alloc ?_ _)); exact BK106.out⟩, ⟨by repeat (first | (with_reducible first | exact HB.out | apply below_alloc | apply pw_below_drewN | apply below_drew1 | refine below_set ?_ GE101.out | refine below_set ?_ GE106.out) | exact HB.out)⟩⟩
                                · replace c19 := Bool.eq_false_iff.mpr c19
                                  subst c19
                                  have H1 : (spec_l3Growing.l2 k3 t102 x4_2 x5_2 true true l0_2 (l0_2.length : Int) x18_2 ((rd_T47 l0_2 x18_2).f1) (((rd_T47 l0_2 x18_2).f1).length : Int) (wrap64 (x25_3 + 1)) a0_0 a0_1 l0_2 ((rd_T47 l0_2 x18_2).f0) ((rd_T47 l0_2 x18_2).f1)) = some r := by rw [if_neg (show ¬ (false = true) by decide)] at H; exact H
                                  clear H
                                  have H := H1
                                  clear H1
                                  have H' := Aside0.mk H
                                  clear H
                                  have p107 : 0 ≤ (x25_3 : Int) := of_decide_eq_true (by first | (with_reducible assumption) | assumption)
                                  have q107 : x25_3 < (((rd_T47 l0_2 x18_2).f1).length : Int) := of_decide_eq_true (by first | (with_reducible assumption) | assumption)
                                  obtain ⟨ad107, e107, hx107_0⟩ := Kd.at_int HR105_1.out x25_3 p107 q107
                                  cases e107
                                  replace hx107_0 := (HB.out.cell (World.block_lt_of_cell? w _ hx107_0)).trans hx107_0
                                  replace p107 := eq_true p107
                                  replace q107 := eq_true q107
                                  go_wp2
                                  go_roundg k3
                                  case measure => have := HK1.out; have := HK2.out; have := HK3.out; omega
                                  case rel => exact ⟨(true), (true), (wrap64 (x25_3 + 1)), (by first | rfl | (simp; done) | (simp [*]; done)), (by first | rfl | (simp; done) | (simp [*]; done)), (by first | rfl | (simp; done) | (simp [*]; done)), H', ⟨by have := HK1.out; have := HK2.out; have := HK3.out; omega⟩, ⟨by (with_reducible repeat (first | apply Kd.R_alloc | apply Kd.R_drewN | apply Kd.R_drew)); exact HO_3.out⟩, ⟨by (with_reducible repeat (first | apply Kd.R_alloc | apply Kd.R_drewN | apply Kd.R_drew)); exact HO_4.out⟩, ⟨by (with_reducible repeat (first | refine blk_drewN ?_ _ | refine blk_drew ?_ | refine blk_alloc ?_ _)); exact BK101.out⟩, ⟨by (with_reducible repeat (first | refine blk_drewN ?_ _ | refine blk_drew ?_ | refine blk_alloc ?_ _)); exact BK106.out⟩, ⟨by repeat (first | (with_reducible first | exact HB.out | apply below_alloc | apply pw_below_drewN | apply below_drew1 | refine below_set ?_ GE101.out | refine below_set ?_ GE106.out) | exact HB.out)⟩⟩
                              · rw [if_neg c18] at H
                                have c18b0 : decide ((rd ((rd_T47 l0_2 x18_2).f1) x25_3) < 0) = false := decide_eq_false c18
                                clear c18
                                replace H := Option.bind_eq_some_iff.mp H
                                obtain ⟨t108, A200, H⟩ := H
                                replace H : (if x9_3 = true then (spec_l3Growing.l2 k3 t102 x4_2 x5_2 t108 true l0_2 (l0_2.length : Int) x18_2 ((rd_T47 l0_2 x18_2).f1) (((rd_T47 l0_2 x18_2).f1).length : Int) (wrap64 (x25_3 + 1)) a0_0 a0_1 l0_2 ((rd_T47 l0_2 x18_2).f0) ((rd_T47 l0_2 x18_2).f1)) else ((spec_l1Has.f k3 x4_2 (rd ((rd_T47 l0_2 x18_2).f1) x25_3)).bind fun t109 => (spec_l3Growing.l2 k3 t102 x4_2 x5_2 t108 t109 l0_2 (l0_2.length : Int) x18_2 ((rd_T47 l0_2 x18_2).f1) (((rd_T47 l0_2 x18_2).f1).length : Int) (wrap64 (x25_3 + 1)) a0_0 a0_1 l0_2 ((rd_T47 l0_2 x18_2).f0) ((rd_T47 l0_2 x18_2).f1)))) = some r := H
                                have A20 := Aside0.mk A200
                                clear A200
                                by_cases c21 : x9_3 = true
                                · subst c21
                                  have H1 : (spec_l3Growing.l2 k3 t102 x4_2 x5_2 t108 true l0_2 (l0_2.length : Int) x18_2 ((rd_T47 l0_2 x18_2).f1) (((rd_T47 l0_2 x18_2).f1).length : Int) (wrap64 (x25_3 + 1)) a0_0 a0_1 l0_2 ((rd_T47 l0_2 x18_2).f0) ((rd_T47 l0_2 x18_2).f1)) = some r := by rw [if_pos rfl] at H; exact H
                                  clear H
                                  have H := H1
                                  clear H1
                                  have H' := Aside0.mk H
                                  clear H
                                  have p107 : 0 ≤ (x25_3 : Int) := of_decide_eq_true (by first | (with_reducible assumption) | assumption)
                                  have q107 : x25_3 < (((rd_T47 l0_2 x18_2).f1).length : Int) := of_decide_eq_true (by first | (with_reducible assumption) | assumption)
                                  obtain ⟨ad107, e107, hx107_0⟩ := Kd.at_int HR105_1.out x25_3 p107 q107
                                  cases e107
                                  replace hx107_0 := (HB.out.cell (World.block_lt_of_cell? w _ hx107_0)).trans hx107_0
                                  replace p107 := eq_true p107
                                  replace q107 := eq_true q107
                                  obtain ⟨Ao22, co22, eo22⟩ := Kd.R_slice HO_3.out
                                  subst eo22
                                  go_wp2_with (first | (go_at_call 66; (with_reducible refine (spec_l1Has.calls k3 _ _ t102 (rd ((rd_T47 l0_2 x18_2).f1) x25_3) t108 _ ?side1 ?side2 A20.out).mono ?_); (case side1 => repeat (first | exact (Kd.R_reads' HO_3.out).2.2 | (with_reducible refine Kd.C_alloc ?_ _) | (with_reducible refine Kd.C_drewN ?_ _) | (with_reducible refine Kd.C_drew ?_))); (case side2 => exact (Kd.R_reads' HO_3.out).2.1); rintro e w' ⟨rfl, ⟨nd, rfl⟩⟩))
                                  go_roundg k3
                                  case measure => have := HK1.out; have := HK2.out; have := HK3.out; omega
                                  case rel => exact ⟨(t108), (true), (wrap64 (x25_3 + 1)), (by first | rfl | (simp; done) | (simp [*]; done)), (by first | rfl | (simp; done) | (simp [*]; done)), (by first | rfl | (simp; done) | (simp [*]; done)), H', ⟨by have := HK1.out; have := HK2.out; have := HK3.out; omega⟩, ⟨by (with_reducible repeat (first | apply Kd.R_alloc | apply Kd.R_drewN | apply Kd.R_drew)); exact HO_3.out⟩, ⟨by (with_reducible repeat (first | apply Kd.R_alloc | apply Kd.R_drewN | apply Kd.R_drew)); exact HO_4.out⟩, ⟨by (with_reducible repeat (first | refine blk_drewN ?_ _ | refine blk_drew ?_ | refine blk_alloc ?_ _)); exact BK101.out⟩, ⟨by (with_reducible repeat (first | refine blk_drewN ?_ _ | refine blk_drew ?_ | refine blk_alloc ?_ _)); exact BK106.out⟩, ⟨by repeat (first | (with_reducible first | exact HB.out | apply below_alloc | apply pw_below_drewN | apply below_drew1 | refine below_set ?_ GE101.out | refine below_set ?_ GE106.out) | exact HB.out)⟩⟩
                                · replace c21 := Bool.eq_false_iff.mpr c21
                                  subst c21
                                  have H1 : ((spec_l1Has.f k3 x4_2 (rd ((rd_T47 l0_2 x18_2).f1) x25_3)).bind fun t109 => (spec_l3Growing.l2 k3 t102 x4_2 x5_2 t108 t109 l0_2 (l0_2.length : Int) x18_2 ((rd_T47 l0_2 x18_2).f1) (((rd_T47 l0_2 x18_2).f1).length : Int) (wrap64 (x25_3 + 1)) a0_0 a0_1 l0_2 ((rd_T47 l0_2 x18_2).f0) ((rd_T47 l0_2 x18_2).f1))) = some r := by rw [if_neg (show ¬ (false = true) by decide)] at H; exact H
                                  clear H
                                  have H := H1
                                  clear H1
                                  replace H := Option.bind_eq_some_iff.mp H
                                  obtain ⟨t109, A230, H⟩ := H
                                  replace H : (spec_l3Growing.l2 k3 t102 x4_2 x5_2 t108 t109 l0_2 (l0_2.length : Int) x18_2 ((rd_T47 l0_2 x18_2).f1) (((rd_T47 l0_2 x18_2).f1).length : Int) (wrap64 (x25_3 + 1)) a0_0 a0_1 l0_2 ((rd_T47 l0_2 x18_2).f0) ((rd_T47 l0_2 x18_2).f1)) = some r := H
                                  have A23 := Aside0.mk A230
                                  clear A230
                                  have H' := Aside0.mk H
                                  clear H
                                  have p107 : 0 ≤ (x25_3 : Int) := of_decide_eq_true (by first | (with_reducible assumption) | assumption)
                                  have q107 : x25_3 < (((rd_T47 l0_2 x18_2).f1).length : Int) := of_decide_eq_true (by first | (with_reducible assumption) | assumption)
                                  obtain ⟨ad107, e107, hx107_0⟩ := Kd.at_int HR105_1.out x25_3 p107 q107
                                  cases e107
                                  replace hx107_0 := (HB.out.cell (World.block_lt_of_cell? w _ hx107_0)).trans hx107_0
                                  replace p107 := eq_true p107
                                  replace q107 := eq_true q107
                                  obtain ⟨Ao24, co24, eo24⟩ := Kd.R_slice HO_3.out
                                  subst eo24
                                  go_wp2_with (first | (go_at_call 66; (with_reducible refine (spec_l1Has.calls k3 _ _ t102 (rd ((rd_T47 l0_2 x18_2).f1) x25_3) t108 _ ?side1 ?side2 A20.out).mono ?_); (case side1 => repeat (first | exact (Kd.R_reads' HO_3.out).2.2 | (with_reducible refine Kd.C_alloc ?_ _) | (with_reducible refine Kd.C_drewN ?_ _) | (with_reducible refine Kd.C_drew ?_))); (case side2 => exact (Kd.R_reads' HO_3.out).2.1); rintro e w' ⟨rfl, ⟨nd, rfl⟩⟩; obtain ⟨Ao25, co25, eo25⟩ := Kd.R_slice HO_4.out; subst eo25) | (go_at_call 66; (with_reducible refine (spec_l1Has.calls k3 _ _ x4_2 (rd ((rd_T47 l0_2 x18_2).f1) x25_3) t109 _ ?side1 ?side2 A23.out).mono ?_); (case side1 => repeat (first | exact (Kd.R_reads' HO_4.out).2.2 | (with_reducible refine Kd.C_alloc ?_ _) | (with_reducible refine Kd.C_drewN ?_ _) | (with_reducible refine Kd.C_drew ?_))); (case side2 => exact (Kd.R_reads' HO_4.out).2.1); rintro e w' ⟨rfl, ⟨nd, rfl⟩⟩))
                                  go_roundg k3
                                  case measure => have := HK1.out; have := HK2.out; have := HK3.out; omega
                                  case rel => exact ⟨(t108), (t109), (wrap64 (x25_3 + 1)), (by first | rfl | (simp; done) | (simp [*]; done)), (by first | rfl | (simp; done) | (simp [*]; done)), (by first | rfl | (simp; done) | (simp [*]; done)), H', ⟨by have := HK1.out; have := HK2.out; have := HK3.out; omega⟩, ⟨by (with_reducible repeat (first | apply Kd.R_alloc | apply Kd.R_drewN | apply Kd.R_drew)); exact HO_3.out⟩, ⟨by (with_reducible repeat (first | apply Kd.R_alloc | apply Kd.R_drewN | apply Kd.R_drew)); exact HO_4.out⟩, ⟨by (with_reducible repeat (first | refine blk_drewN ?_ _ | refine blk_drew ?_ | refine blk_alloc ?_ _)); exact BK101.out⟩, ⟨by (with_reducible repeat (first | refine blk_drewN ?_ _ | refine blk_drew ?_ | refine blk_alloc ?_ _)); exact BK106.out⟩, ⟨by repeat (first | (with_reducible first | exact HB.out | apply below_alloc | apply pw_below_drewN | apply below_drew1 | refine below_set ?_ GE101.out | refine below_set ?_ GE106.out) | exact HB.out)⟩⟩
                            · replace c17 := Bool.eq_false_iff.mpr c17
                              subst c17
                              have H1 : (if x9_3 = true then (spec_l3Growing.l2 k3 t102 x4_2 x5_2 false true l0_2 (l0_2.length : Int) x18_2 ((rd_T47 l0_2 x18_2).f1) (((rd_T47 l0_2 x18_2).f1).length : Int) (wrap64 (x25_3 + 1)) a0_0 a0_1 l0_2 ((rd_T47 l0_2 x18_2).f0) ((rd_T47 l0_2 x18_2).f1)) else (if (rd ((rd_T47 l0_2 x18_2).f1) x25_3) < 0 then (spec_l3Growing.l2 k3 t102 x4_2 x5_2 false true l0_2 (l0_2.length : Int) x18_2 ((rd_T47 l0_2 x18_2).f1) (((rd_T47 l0_2 x18_2).f1).length : Int) (wrap64 (x25_3 + 1)) a0_0 a0_1 l0_2 ((rd_T47 l0_2 x18_2).f0) ((rd_T47 l0_2 x18_2).f1)) else ((spec_l1Has.f k3 x4_2 (rd ((rd_T47 l0_2 x18_2).f1) x25_3)).bind fun t110 => (spec_l3Growing.l2 k3 t102 x4_2 x5_2 false t110 l0_2 (l0_2.length : Int) x18_2 ((rd_T47 l0_2 x18_2).f1) (((rd_T47 l0_2 x18_2).f1).length : Int) (wrap64 (x25_3 + 1)) a0_0 a0_1 l0_2 ((rd_T47 l0_2 x18_2).f0) ((rd_T47 l0_2 x18_2).f1))))) = some r := by rw [if_neg (show ¬ (false = true) by decide)] at H; exact H
                              clear H
                              have H := H1
                              clear H1
                              by_cases c26 : x9_3 = true
                              · subst c26
                                have H1 : (spec_l3Growing.l2 k3 t102 x4_2 x5_2 false true l0_2 (l0_2.length : Int) x18_2 ((rd_T47 l0_2 x18_2).f1) (((rd_T47 l0_2 x18_2).f1).length : Int) (wrap64 (x25_3 + 1)) a0_0 a0_1 l0_2 ((rd_T47 l0_2 x18_2).f0) ((rd_T47 l0_2 x18_2).f1)) = some r := by rw [if_pos rfl] at H; exact H
                                clear H
                                have H := H1
                                clear H1
                                have H' := Aside0.mk H
                                clear H
                                have p107 : 0 ≤ (x25_3 : Int) := of_decide_eq_true (by first | (with_reducible assumption) | assumption)
                                have q107 : x25_3 < (((rd_T47 l0_2 x18_2).f1).length : Int) := of_decide_eq_true (by first | (with_reducible assumption) | assumption)
                                obtain ⟨ad107, e107, hx107_0⟩ := Kd.at_int HR105_1.out x25_3 p107 q107
                                cases e107
                                replace hx107_0 := (HB.out.cell (World.block_lt_of_cell? w _ hx107_0)).trans hx107_0
                                replace p107 := eq_true p107
                                replace q107 := eq_true q107
                                go_wp2
                                go_roundg k3
                                case measure => have := HK1.out; have := HK2.out; have := HK3.out; omega
                                case rel => exact ⟨(false), (true), (wrap64 (x25_3 + 1)), (by first | rfl | (simp; done) | (simp [*]; done)), (by first | rfl | (simp; done) | (simp [*]; done)), (by first | rfl | (simp; done) | (simp [*]; done)), H', ⟨by have := HK1.out; have := HK2.out; have := HK3.out; omega⟩, ⟨by (with_reducible repeat (first | apply Kd.R_alloc | apply Kd.R_drewN | apply Kd.R_drew)); exact HO_3.out⟩, ⟨by (with_reducible repeat (first | apply Kd.R_alloc | apply Kd.R_drewN | apply Kd.R_drew)); exact HO_4.out⟩, ⟨by (with_reducible repeat (first | refine blk_drewN ?_ _ | refine blk_drew ?_ | refine blk_alloc ?_ _)); exact BK101.out⟩, ⟨by (with_reducible repeat (first | refine blk_drewN ?_ _ | refine blk_drew ?_ | refine blk_alloc ?_ _)); exact BK106.out⟩, ⟨by repeat (first | (with_reducible first | exact HB.out | apply below_alloc | apply pw_below_drewN | apply below_drew1 | refine below_set ?_ GE101.out | refine below_set ?_ GE106.out) | exact HB.out)⟩⟩
                              · replace c26 := Bool.eq_false_iff.mpr c26
                                subst c26
                                have H1 : (if (rd ((rd_T47 l0_2 x18_2).f1) x25_3) < 0 then (spec_l3Growing.l2 k3 t102 x4_2 x5_2 false true l0_2 (l0_2.length : Int) x18_2 ((rd_T47 l0_2 x18_2).f1) (((rd_T47 l0_2 x18_2).f1).length : Int) (wrap64 (x25_3 + 1)) a0_0 a0_1 l0_2 ((rd_T47 l0_2 x18_2).f0) ((rd_T47 l0_2 x18_2).f1)) else ((spec_l1Has.f k3 x4_2 (rd ((rd_T47 l0_2 x18_2).f1) x25_3)).bind fun t110 => (spec_l3Growing.l2 k3 t102 x4_2 x5_2 false t110 l0_2 (l0_2.length : Int) x18_2 ((rd_T47 l0_2 x18_2).f1) (((rd_T47 l0_2 x18_2).f1).length : Int) (wrap64 (x25_3 + 1)) a0_0 a0_1 l0_2 ((rd_T47 l0_2 x18_2).f0) ((rd_T47 l0_2 x18_2).f1)))) = some r := by rw [if_neg (show ¬ (false = true) by decide)] at H; exact H
                                clear H
                                have H := H1
                                clear H1
                                by_cases c27 : (rd ((rd_T47 l0_2 x18_2).f1) x25_3) < 0
                                · rw [if_pos c27] at H
                                  have c27b0 : decide ((rd ((rd_T47 l0_2 x18_2).f1) x25_3) < 0) = true := decide_eq_true c27
                                  clear c27
                                  have H' := Aside0.mk H
                                  clear H
                                  have p107 : 0 ≤ (x25_3 : Int) := of_decide_eq_true (by first | (with_reducible assumption) | assumption)
                                  have q107 : x25_3 < (((rd_T47 l0_2 x18_2).f1).length : Int) := of_decide_eq_true (by first | (with_reducible assumption) | assumption)
                                  obtain ⟨ad107, e107, hx107_0⟩ := Kd.at_int HR105_1.out x25_3 p107 q107
                                  cases e107
                                  replace hx107_0 := (HB.out.cell (World.block_lt_of_cell? w _ hx107_0)).trans hx107_0
                                  replace p107 := eq_true p107
                                  replace q107 := eq_true q107
                                  go_wp2
                                  go_roundg k3
                                  case measure => have := HK1.out; have := HK2.out; have := HK3.out; omega
                                  case rel => exact ⟨(false), (true), (wrap64 (x25_3 + 1)), (by first | rfl | (simp; done) | (simp [*]; done)), (by first | rfl | (simp; done) | (simp [*]; done)), (by first | rfl | (simp; done) | (simp [*]; done)), H', ⟨by have := HK1.out; have := HK2.out; have := HK3.out; omega⟩, ⟨by (with_reducible repeat (first | apply Kd.R_alloc | apply Kd.R_drewN | apply Kd.R_drew)); exact HO_3.out⟩, ⟨by (with_reducible repeat (first | apply Kd.R_alloc | apply Kd.R_drewN | apply Kd.R_drew)); exact HO_4.out⟩, ⟨by (with_reducible repeat (first | refine blk_drewN ?_ _ | refine blk_drew ?_ | refine blk_alloc ?_ _)); exact BK101.out⟩, ⟨by (with_reducible repeat (first | refine blk_drewN ?_ _ | refine blk_drew ?_ | refine blk_alloc ?_ _)); exact BK106.out⟩, ⟨by repeat (first | (with_reducible first | exact HB.out | apply below_alloc | apply pw_below_drewN | apply below_drew1 | refine below_set ?_ GE101.out | refine below_set ?_ GE106.out) | exact HB.out)⟩⟩
                                · rw [if_neg c27] at H
                                  have c27b0 : decide ((rd ((rd_T47 l0_2 x18_2).f1) x25_3) < 0) = false := decide_eq_false c27
                                  clear c27
                                  replace H := Option.bind_eq_some_iff.mp H
                                  obtain ⟨t110, A280, H⟩ := H
                                  replace H : (spec_l3Growing.l2 k3 t102 x4_2 x5_2 false t110 l0_2 (l0_2.length : Int) x18_2 ((rd_T47 l0_2 x18_2).f1) (((rd_T47 l0_2 x18_2).f1).length : Int) (wrap64 (x25_3 + 1)) a0_0 a0_1 l0_2 ((rd_T47 l0_2 x18_2).f0) ((rd_T47 l0_2 x18_2).f1)) = some r := H
                                  have A28 := Aside0.mk A280
                                  clear A280
                                  have H' := Aside0.mk H
                                  clear H
                                  have p107 : 0 ≤ (x25_3 : Int) := of_decide_eq_true (by first | (with_reducible assumption) | assumption)
                                  have q107 : x25_3 < (((rd_T47 l0_2 x18_2).f1).length : Int) := of_decide_eq_true (by first | (with_reducible assumption) | assumption)
                                  obtain ⟨ad107, e107, hx107_0⟩ := Kd.at_int HR105_1.out x25_3 p107 q107
                                  cases e107
                                  replace hx107_0 := (HB.out.cell (World.block_lt_of_cell? w _ hx107_0)).trans hx107_0
                                  replace p107 := eq_true p107
                                  replace q107 := eq_true q107
                                  obtain ⟨Ao29, co29, eo29⟩ := Kd.R_slice HO_4.out
                                  subst eo29
                                  go_wp2_with (first | (go_at_call 66; (with_reducible refine (spec_l1Has.calls k3 _ _ x4_2 (rd ((rd_T47 l0_2 x18_2).f1) x25_3) t110 _ ?side1 ?side2 A28.out).mono ?_); (case side1 => repeat (first | exact (Kd.R_reads' HO_4.out).2.2 | (with_reducible refine Kd.C_alloc ?_ _) | (with_reducible refine Kd.C_drewN ?_ _) | (with_reducible refine Kd.C_drew ?_))); (case side2 => exact (Kd.R_reads' HO_4.out).2.1); rintro e w' ⟨rfl, ⟨nd, rfl⟩⟩))
                                  go_roundg k3
                                  case measure => have := HK1.out; have := HK2.out; have := HK3.out; omega
                                  case rel => exact ⟨(false), (t110), (wrap64 (x25_3 + 1)), (by first | rfl | (simp; done) | (simp [*]; done)), (by first | rfl | (simp; done) | (simp [*]; done)), (by first | rfl | (simp; done) | (simp [*]; done)), H', ⟨by have := HK1.out; have := HK2.out; have := HK3.out; omega⟩, ⟨by (with_reducible repeat (first | apply Kd.R_alloc | apply Kd.R_drewN | apply Kd.R_drew)); exact HO_3.out⟩, ⟨by (with_reducible repeat (first | apply Kd.R_alloc | apply Kd.R_drewN | apply Kd.R_drew)); exact HO_4.out⟩, ⟨by (with_reducible repeat (first | refine blk_drewN ?_ _ | refine blk_drew ?_ | refine blk_alloc ?_ _)); exact BK101.out⟩, ⟨by (with_reducible repeat (first | refine blk_drewN ?_ _ | refine blk_drew ?_ | refine blk_alloc ?_ _)); exact BK106.out⟩, ⟨by repeat (first | (with_reducible first | exact HB.out | apply below_alloc | apply pw_below_drewN | apply below_drew1 | refine below_set ?_ GE101.out | refine below_set ?_ GE106.out) | exact HB.out)⟩⟩
                          · rw [if_neg c16] at H
                            exact absurd H (by simp)
                        · rw [if_neg c15] at H
                          exact absurd H (by simp)
                      · rw [if_neg c14] at H
                        have c14b0 : decide (x25_3 < (((rd_T47 l0_2 x18_2).f1).length : Int)) = false := decide_eq_false c14
                        clear c14
                        by_cases c30 : x8_3 = true
                        · subst c30
                          have H1 : (if x9_3 = true then ((spec_l1Has.f k3 x4_2 ((rd_T47 l0_2 x18_2).f0)).bind fun t111 => (if t111 = true then (spec_l3Growing.l1 k3 t102 x4_2 x5_2 l0_2 (l0_2.length : Int) (wrap64 (x18_2 + 1)) a0_0 a0_1 l0_2) else ((spec_l1Put.f k3 x4_2 ((rd_T47 l0_2 x18_2).f0)).bind fun t112 => (spec_l3Growing.l1 k3 t102 t112 true l0_2 (l0_2.length : Int) (wrap64 (x18_2 + 1)) a0_0 a0_1 l0_2)))) else (spec_l3Growing.l1 k3 t102 x4_2 x5_2 l0_2 (l0_2.length : Int) (wrap64 (x18_2 + 1)) a0_0 a0_1 l0_2)) = some r := by rw [if_pos rfl] at H; exact H
                          clear H
                          have H := H1
                          clear H1
                          by_cases c31 : x9_3 = true
                          · subst c31
                            have H1 : ((spec_l1Has.f k3 x4_2 ((rd_T47 l0_2 x18_2).f0)).bind fun t111 => (if t111 = true then (spec_l3Growing.l1 k3 t102 x4_2 x5_2 l0_2 (l0_2.length : Int) (wrap64 (x18_2 + 1)) a0_0 a0_1 l0_2) else ((spec_l1Put.f k3 x4_2 ((rd_T47 l0_2 x18_2).f0)).bind fun t112 => (spec_l3Growing.l1 k3 t102 t112 true l0_2 (l0_2.length : Int) (wrap64 (x18_2 + 1)) a0_0 a0_1 l0_2)))) = some r := by rw [if_pos rfl] at H; exact H
                            clear H
                            have H := H1
                            clear H1
                            replace H := Option.bind_eq_some_iff.mp H
                            obtain ⟨t111, A320, H⟩ := H
                            replace H : (if t111 = true then (spec_l3Growing.l1 k3 t102 x4_2 x5_2 l0_2 (l0_2.length : Int) (wrap64 (x18_2 + 1)) a0_0 a0_1 l0_2) else ((spec_l1Put.f k3 x4_2 ((rd_T47 l0_2 x18_2).f0)).bind fun t112 => (spec_l3Growing.l1 k3 t102 t112 true l0_2 (l0_2.length : Int) (wrap64 (x18_2 + 1)) a0_0 a0_1 l0_2))) = some r := H
                            have A32 := Aside0.mk A320
                            clear A320
                            by_cases c33 : t111 = true
                            · subst c33
                              have H1 : (spec_l3Growing.l1 k3 t102 x4_2 x5_2 l0_2 (l0_2.length : Int) (wrap64 (x18_2 + 1)) a0_0 a0_1 l0_2) = some r := by rw [if_pos rfl] at H; exact H
                              clear H
                              have H := H1
                              clear H1
                              have H' := Aside0.mk H
                              clear H
                              have hnb34 := NB106_101.out
                              have hnc34 := NB101_106.out
                              have hcz35_0 : wr.cell? ⟨gb106, 0, none⟩ = some (.int .i64 ((rd_T47 l0_2 x18_2).f0)) := (blk_cell BK106.out 0).trans rfl
                              have hcz35_1 : wr.cell? ⟨gb106, 1, none⟩ = some (.slice A105_1 ((rd_T47 l0_2 x18_2).f1).length c105_1) := (blk_cell BK106.out 1).trans rfl
                              have hfz35_0 := blk_frozen BK106.out 0
                              have hfz35_1 := blk_frozen BK106.out 1
                              obtain ⟨Ao36, co36, eo36⟩ := Kd.R_slice HO_4.out
                              subst eo36
                              go_wp2_with (first | (go_at_call 66; (with_reducible refine (spec_l1Has.calls k3 _ _ x4_2 ((rd_T47 l0_2 x18_2).f0) true _ ?side1 ?side2 A32.out).mono ?_); (case side1 => repeat (first | exact (Kd.R_reads' HO_4.out).2.2 | (with_reducible refine Kd.C_alloc ?_ _) | (with_reducible refine Kd.C_drewN ?_ _) | (with_reducible refine Kd.C_drew ?_))); (case side2 => exact (Kd.R_reads' HO_4.out).2.1); rintro e w' ⟨rfl, ⟨nd, rfl⟩⟩))
                              go_roundg k3
                              case measure => have := HK1.out; have := HK2.out; have := HK3.out; omega
                              case rel => exact ⟨(x4_2), (x5_2), (wrap64 (x18_2 + 1)), (by first | rfl | (simp; done) | (simp [*]; done)), (by first | rfl | (simp; done) | (simp [*]; done)), H', ⟨by have := HK1.out; have := HK2.out; have := HK3.out; omega⟩, ⟨by (with_reducible repeat (first | apply Kd.R_alloc | apply Kd.R_drewN | apply Kd.R_drew)); exact HO_3.out⟩, ⟨by (with_reducible repeat (first | apply Kd.R_alloc | apply Kd.R_drewN | apply Kd.R_drew)); exact HO_4.out⟩, ⟨by (with_reducible repeat (first | refine blk_drewN ?_ _ | refine blk_drew ?_ | refine blk_alloc ?_ _)); exact BK101.out⟩, ⟨by repeat (first | (with_reducible first | exact HB.out | apply below_alloc | apply pw_below_drewN | apply below_drew1 | refine below_set ?_ GE101.out | refine below_set ?_ GE106.out) | exact HB.out)⟩⟩
                            · replace c33 := Bool.eq_false_iff.mpr c33
                              subst c33
                              have H1 : ((spec_l1Put.f k3 x4_2 ((rd_T47 l0_2 x18_2).f0)).bind fun t112 => (spec_l3Growing.l1 k3 t102 t112 true l0_2 (l0_2.length : Int) (wrap64 (x18_2 + 1)) a0_0 a0_1 l0_2)) = some r := by rw [if_neg (show ¬ (false = true) by decide)] at H; exact H
                              clear H
                              have H := H1
                              clear H1
                              replace H := Option.bind_eq_some_iff.mp H
                              obtain ⟨t112, A370, H⟩ := H
                              replace H : (spec_l3Growing.l1 k3 t102 t112 true l0_2 (l0_2.length : Int) (wrap64 (x18_2 + 1)) a0_0 a0_1 l0_2) = some r := H
                              have A37 := Aside0.mk A370
                              clear A370
                              have H' := Aside0.mk H
                              clear H
                              have hnb38 := NB106_101.out
                              have hnc38 := NB101_106.out
                              have hcz39_0 : wr.cell? ⟨gb106, 0, none⟩ = some (.int .i64 ((rd_T47 l0_2 x18_2).f0)) := (blk_cell BK106.out 0).trans rfl
                              have hcz39_1 : wr.cell? ⟨gb106, 1, none⟩ = some (.slice A105_1 ((rd_T47 l0_2 x18_2).f1).length c105_1) := (blk_cell BK106.out 1).trans rfl
                              have hfz39_0 := blk_frozen BK106.out 0
                              have hfz39_1 := blk_frozen BK106.out 1
                              obtain ⟨Ao40, co40, eo40⟩ := Kd.R_slice HO_4.out
                              subst eo40
                              go_wp2_with (first | (go_at_call 66; (with_reducible refine (spec_l1Has.calls k3 _ _ x4_2 ((rd_T47 l0_2 x18_2).f0) false _ ?side1 ?side2 A32.out).mono ?_); (case side1 => repeat (first | exact (Kd.R_reads' HO_4.out).2.2 | (with_reducible refine Kd.C_alloc ?_ _) | (with_reducible refine Kd.C_drewN ?_ _) | (with_reducible refine Kd.C_drew ?_))); (case side2 => exact (Kd.R_reads' HO_4.out).2.1); rintro e w' ⟨rfl, ⟨nd, rfl⟩⟩) | ((with_reducible refine gate_callee (f := 67) rfl ?_); refine goesL_ (some 64) rfl rfl Try.func67 (by kernel_rfl) rfl #[.slice Ao40 x4_2.length co40, .int .i64 ((rd_T47 l0_2 x18_2).f0)] rfl (by (try simp only [List.map_toArray, List.map_cons, List.map_nil]); first | done | rfl | (simp only [List.length_drop, List.length_take]; rfl)) ?_; (with_reducible refine (spec_l1Put.calls k3 (fun k_ => some k_ = (.slice Ao40 x4_2.length co40 : Value).ownBlock) (.slice Ao40 x4_2.length co40) x4_2 ((rd_T47 l0_2 x18_2).f0) t112 w _ ?side1 ?side2 A37.out).mono ?_); (case side1 => repeat (first | (with_reducible first | exact HB.out | apply below_alloc | apply pw_below_drewN | apply below_drew1 | refine below_set ?_ GE101.out | refine below_set ?_ GE106.out) | exact HB.out)); (case side2 => exact Kd.R_tight rfl HO_4.out); rintro e w41 ⟨v113, rfl, ho0, hb, hkp⟩; refine ⟨_, rfl, ?_⟩; have n0_ := Aside0.mk (Kd.R_mono (ok' := fun k_ => some k_ ≠ (v113 : Value).ownBlock) (Kd.R_keptB (HO_3.out) hkp (fun k_ hk_ hs_ => (hk_) hs_)) (fun k_ hk_ => fun e_ => Or.elim (ho0.1 k_ e_.symm) (fun hs_ => hk_.2.1 hs_) (fun hn_ => Nat.not_le.2 hk_.2.2 hn_))); have n1_ := Aside0.mk (blk_kept (by (with_reducible repeat (first | refine blk_drewN ?_ _ | refine blk_drew ?_ | refine blk_alloc ?_ _)); exact BK101.out) hkp (fun hs_ => (fun e_ => (Kd.R_ne HO_4.out BK101.out (by decide)) e_) hs_)); have n2_ := Aside0.mk (blk_kept (by (with_reducible repeat (first | refine blk_drewN ?_ _ | refine blk_drew ?_ | refine blk_alloc ?_ _)); exact BK106.out) hkp (fun hs_ => (fun e_ => (Kd.R_ne HO_4.out BK106.out (by decide)) e_) hs_)); have n3_ := Aside0.mk (Kd.R_mono (ok' := fun k_ => some k_ ≠ (v103 : Value).ownBlock) ho0 (fun k_ hk_ => Or.elim hk_ (fun hs_ => fun e_ => (((HO_3.out).1 k_ e_.symm)) hs_) (fun hn_ => (Kd.fresh' (Kd.R_lt (by (with_reducible repeat (first | apply Kd.R_alloc | apply Kd.R_drewN | apply Kd.R_drew)); exact HO_3.out)) k_ hn_)))); have n4_ := Aside0.mk (hb); clear HO_3; clear BK101; clear BK106; clear HB; clear HO_4; have HO_3 := n0_; have BK101 := n1_; have BK106 := n2_; have HO114 := n3_; have HB := n4_; clear n0_ n1_ n2_ n3_ n4_; (try clear hb); (try clear hkp); (try clear ho0)))
                              go_roundg k3
                              case measure => have := HK1.out; have := HK2.out; have := HK3.out; omega
                              case rel => exact ⟨(t112), (true), (wrap64 (x18_2 + 1)), (by first | rfl | (simp; done) | (simp [*]; done)), (by first | rfl | (simp; done) | (simp [*]; done)), H', ⟨by have := HK1.out; have := HK2.out; have := HK3.out; omega⟩, ⟨by (with_reducible repeat (first | apply Kd.R_alloc | apply Kd.R_drewN | apply Kd.R_drew)); exact HO_3.out⟩, ⟨by (with_reducible repeat (first | apply Kd.R_alloc | apply Kd.R_drewN | apply Kd.R_drew)); exact HO114.out⟩, ⟨by (with_reducible repeat (first | refine blk_drewN ?_ _ | refine blk_drew ?_ | refine blk_alloc ?_ _)); exact BK101.out⟩, ⟨by repeat (first | (with_reducible first | exact HB.out | apply below_alloc | apply pw_below_drewN | apply below_drew1 | refine below_set ?_ GE101.out | refine below_set ?_ GE106.out) | exact HB.out)⟩⟩
                          · replace c31 := Bool.eq_false_iff.mpr c31
                            subst c31
                            have H1 : (spec_l3Growing.l1 k3 t102 x4_2 x5_2 l0_2 (l0_2.length : Int) (wrap64 (x18_2 + 1)) a0_0 a0_1 l0_2) = some r := by rw [if_neg (show ¬ (false = true) by decide)] at H; exact H
                            clear H
                            have H := H1
                            clear H1
                            have H' := Aside0.mk H
                            clear H
                            go_wp2
                            go_roundg k3
                            case measure => have := HK1.out; have := HK2.out; have := HK3.out; omega
                            case rel => exact ⟨(x4_2), (x5_2), (wrap64 (x18_2 + 1)), (by first | rfl | (simp; done) | (simp [*]; done)), (by first | rfl | (simp; done) | (simp [*]; done)), H', ⟨by have := HK1.out; have := HK2.out; have := HK3.out; omega⟩, ⟨by (with_reducible repeat (first | apply Kd.R_alloc | apply Kd.R_drewN | apply Kd.R_drew)); exact HO_3.out⟩, ⟨by (with_reducible repeat (first | apply Kd.R_alloc | apply Kd.R_drewN | apply Kd.R_drew)); exact HO_4.out⟩, ⟨by (with_reducible repeat (first | refine blk_drewN ?_ _ | refine blk_drew ?_ | refine blk_alloc ?_ _)); exact BK101.out⟩, ⟨by repeat (first | (with_reducible first | exact HB.out | apply below_alloc | apply pw_below_drewN | apply below_drew1 | refine below_set ?_ GE101.out | refine below_set ?_ GE106.out) | exact HB.out)⟩⟩
                        · replace c30 := Bool.eq_false_iff.mpr c30
                          subst c30
                          have H1 : (spec_l3Growing.l1 k3 t102 x4_2 x5_2 l0_2 (l0_2.length : Int) (wrap64 (x18_2 + 1)) a0_0 a0_1 l0_2) = some r := by rw [if_neg (show ¬ (false = true) by decide)] at H; exact H
                          clear H
                          have H := H1
                          clear H1
                          have H' := Aside0.mk H
                          clear H
                          go_wp2
                          go_roundg k3
                          case measure => have := HK1.out; have := HK2.out; have := HK3.out; omega
                          case rel => exact ⟨(x4_2), (x5_2), (wrap64 (x18_2 + 1)), (by first | rfl | (simp; done) | (simp [*]; done)), (by first | rfl | (simp; done) | (simp [*]; done)), H', ⟨by have := HK1.out; have := HK2.out; have := HK3.out; omega⟩, ⟨by (with_reducible repeat (first | apply Kd.R_alloc | apply Kd.R_drewN | apply Kd.R_drew)); exact HO_3.out⟩, ⟨by (with_reducible repeat (first | apply Kd.R_alloc | apply Kd.R_drewN | apply Kd.R_drew)); exact HO_4.out⟩, ⟨by (with_reducible repeat (first | refine blk_drewN ?_ _ | refine blk_drew ?_ | refine blk_alloc ?_ _)); exact BK101.out⟩, ⟨by repeat (first | (with_reducible first | exact HB.out | apply below_alloc | apply pw_below_drewN | apply below_drew1 | refine below_set ?_ GE101.out | refine below_set ?_ GE106.out) | exact HB.out)⟩⟩
                · rw [if_neg c10] at H
                  exact absurd H (by simp)
              · rw [if_neg c9] at H
                exact absurd H (by simp)
            · rw [if_neg c8] at H
              have c8b0 : decide (x18_2 < (l0_2.length : Int)) = false := decide_eq_false c8
              clear c8
              have H' := Aside0.mk H
              clear H
              go_wp2
              go_roundg k2
              case measure => have := HK1.out; have := HK2.out; omega
              case rel => exact ⟨(x4_2), (x5_2), (by first | rfl | (simp; done) | (simp [*]; done)), H', ⟨by have := HK1.out; have := HK2.out; omega⟩, ⟨by (with_reducible repeat (first | apply Kd.R_alloc | apply Kd.R_drewN | apply Kd.R_drew)); exact HO_3.out⟩, ⟨by (with_reducible repeat (first | apply Kd.R_alloc | apply Kd.R_drewN | apply Kd.R_drew)); exact HO_4.out⟩, ⟨by (with_reducible repeat (first | refine blk_drewN ?_ _ | refine blk_drew ?_ | refine blk_alloc ?_ _)); exact BK101.out⟩, ⟨by repeat (first | (with_reducible first | exact HB.out | apply below_alloc | apply pw_below_drewN | apply below_drew1 | refine below_set ?_ GE101.out) | exact HB.out)⟩⟩
      · replace c6 := Bool.eq_false_iff.mpr c6
        subst c6
        have H1 : (some x4_1) = some r := by rw [if_neg (show ¬ (false = true) by decide)] at H; exact H
        clear H
        have H := H1
        clear H1
        obtain rfl := Option.some.inj H
        go_wp2
        go_ret
        exact ⟨_, by first | rfl | (simp [errW_none, errW_some] <;> rfl) | (simp [*, errW_none, errW_some] <;> rfl), by (with_reducible repeat (first | apply Kd.R_alloc | apply Kd.R_drewN | apply Kd.R_drew)); exact Kd.R_mono HO_4.out (fun _ hk => trivial), by repeat (first | (with_reducible first | exact HB.out | apply below_alloc | apply pw_below_drewN | apply below_drew1 | refine below_set ?_ GE101.out) | exact HB.out)⟩

end Go.Proofs.Ytohbdjdjjbieeaa.P

/-! Pcl -/
/- Plain lists: the reference's closings come to what the program's come to. -/
namespace Go.Proofs.Ytohbdjdjjbieeaa.P
open Go.RowKit Go.Proofs.YtohbdjdjjbieeaaW.PrintWords
set_option linter.unusedVariables false
set_option linter.unusedSimpArgs false

theorem has_all : ∀ (b0 b1 b2 b3 b4 b5 : Bool) (n : Fin 6), spec_l1Has.f 10 (placesF 0 [b0, b1, b2, b3, b4, b5]) (n.val : Int) = some ([b0, b1, b2, b3, b4, b5].getD n.val false) := by decide +kernel
theorem put_all : ∀ (b0 b1 b2 b3 b4 b5 : Bool) (n : Fin 6), spec_l1Put.f 10 (placesF 0 [b0, b1, b2, b3, b4, b5]) (n.val : Int) = some (placesF 0 ([b0, b1, b2, b3, b4, b5].set n.val true)) := by decide +kernel
theorem has6 (s : List Bool) (hs : s.length = 6) (x : Int) (h0 : 0 ≤ x) (h6 : x < 6) (k : Nat) (hk : 10 ≤ k) : spec_l1Has.f k (placesF 0 s) x = some (s.getD x.toNat false) := by
  obtain ⟨b0, b1, b2, b3, b4, b5, rfl⟩ := six s hs
  have h := has_all b0 b1 b2 b3 b4 b5 ⟨x.toNat, by omega⟩
  rw [show ((⟨x.toNat, by omega⟩ : Fin 6).val : Int) = x by show (x.toNat : Int) = x; omega] at h
  exact at_rounds (g := fun k => spec_l1Has.f k (placesF 0 [b0, b1, b2, b3, b4, b5]) x) (fun k => spec_l1Has.mono _ _ k) hk h
theorem put6 (s : List Bool) (hs : s.length = 6) (x : Int) (h0 : 0 ≤ x) (h6 : x < 6) (k : Nat) (hk : 10 ≤ k) : spec_l1Put.f k (placesF 0 s) x = some (placesF 0 (s.set x.toNat true)) := by
  obtain ⟨b0, b1, b2, b3, b4, b5, rfl⟩ := six s hs
  have h := put_all b0 b1 b2 b3 b4 b5 ⟨x.toNat, by omega⟩
  rw [show ((⟨x.toNat, by omega⟩ : Fin 6).val : Int) = x by show (x.toNat : Int) = x; omega] at h
  exact at_rounds (g := fun k => spec_l1Put.f k (placesF 0 [b0, b1, b2, b3, b4, b5]) x) (fun k => spec_l1Put.mono _ _ k) hk h

theorem stepC_cnt (mk : S47 → List Bool → Bool) (x : S47) (hx : 0 ≤ x.f0 ∧ x.f0 < 6) (q : List Bool × Bool) (h : q.1.length = 6) :
    cntF (stepC mk x q).1 ≤ cntF q.1 ∧ ((stepC mk x q).2 = true → q.2 = true ∨ cntF (stepC mk x q).1 < cntF q.1) := by
  unfold stepC
  split
  · rename_i hc
    simp only [Bool.and_eq_true, Bool.not_eq_true'] at hc
    have := cntF_set q.1 x.f0.toNat (by omega) hc.1
    exact ⟨by dsimp only; omega, fun _ => .inr (by dsimp only; omega)⟩
  · exact ⟨Nat.le_refl _, fun h => .inl h⟩
theorem passC_cnt (mk : S47 → List Bool → Bool) (l : List S47) (hl : ∀ x, x ∈ l → 0 ≤ x.f0 ∧ x.f0 < 6) : ∀ q : List Bool × Bool, q.1.length = 6 →
    (passC mk l q).1.length = 6 ∧ cntF (passC mk l q).1 ≤ cntF q.1 ∧ ((passC mk l q).2 = true → q.2 = true ∨ cntF (passC mk l q).1 < cntF q.1) := by
  induction l with
  | nil => intro q h; exact ⟨h, Nat.le_refl _, fun h => .inl h⟩
  | cons x l ih =>
    intro q h
    obtain ⟨h1, h2, h3⟩ := ih (fun y hy => hl y (List.mem_cons_of_mem _ hy)) (stepC mk x q) (stepC_len mk x q h)
    obtain ⟨h4, h5⟩ := stepC_cnt mk x (hl x List.mem_cons_self) q h
    refine ⟨h1, Nat.le_trans h2 h4, fun h6 => ?_⟩
    rcases h3 h6 with h7 | h7
    · rcases h5 h7 with h8 | h8
      · exact .inl h8
      · exact .inr (Nat.lt_of_le_of_lt h2 h8)
    · exact .inr (Nat.lt_of_lt_of_le h7 h4)
theorem rd_mem {l : List S47} {x : S47} (h : x ∈ l) : ∃ j : Nat, j < l.length ∧ rd_T47 l j = x := by
  obtain ⟨j, hj, rfl⟩ := List.getElem_of_mem h
  refine ⟨j, hj, ?_⟩
  unfold rd_T47
  rw [List.getD_eq_getElem?_getD, Int.toNat_natCast, List.getElem?_eq_getElem hj]; rfl

/-- Rules that fit: every place within six, and lengths that fit. -/
def okL (l : List S47) : Prop := l.length ≤ 16 ∧ ∀ j : Nat, j < l.length → okR6 (rd_T47 l j) ∧ (rd_T47 l j).f1.length ≤ 4
theorem goodG_okL {nons toks : Int} {l : List S47} (h : goodG nons toks l = true) : okL l := by
  have hn := goodG_nons h
  exact ⟨hn.2.2, fun j hj => ⟨goodG_okR6 h j hj, (okR_parts hn.1.1 hn.1.2 (goodG_ok h j hj)).2.1⟩⟩
theorem okL_f0 {l : List S47} (h : okL l) : ∀ x, x ∈ l → 0 ≤ x.f0 ∧ x.f0 < 6 := fun x hx => by
  obtain ⟨j, hj, rfl⟩ := rd_mem hx
  exact (h.2 j hj).1.1

/-- All of a rule's symbols are so; a token where tokens count. -/
def allT (tok : Bool) (s : List Bool) (l : List Int) : Bool := l.all fun x => if x < 0 then tok else s.getD x.toNat false
def mkT (tok : Bool) (r : S47) (s : List Bool) : Bool := allT tok s r.f1
theorem mkT_nul : mkT false = mkNul := by
  funext r s
  unfold mkT mkNul allT
  induction r.f1 with
  | nil => rfl
  | cons x l ih =>
    rw [List.all_cons, ih, List.any_cons, Bool.not_or]
    congr 1
    unfold nulP
    by_cases h : x < 0
    · rw [if_pos h, decide_eq_true h]; rfl
    · rw [if_neg h, decide_eq_false h]; simp
theorem mkT_pro : mkT true = mkPro := by
  funext r s
  unfold mkT mkPro allT
  induction r.f1 with
  | nil => rfl
  | cons x l ih =>
    rw [List.all_cons, ih, List.any_cons, Bool.not_or]
    congr 1
    unfold proP
    by_cases h : x < 0
    · rw [if_pos h, decide_eq_false (by omega)]; rfl
    · rw [if_neg h, decide_eq_true (by omega)]; simp

theorem close_l2 (tok : Bool) (a0 a1 : Int) (l : List S47) (s : List Bool) (hs : s.length = 6) (ag : Bool) (i : Int) (y : S47) (hy : okR6 y) (hyl : y.f1.length ≤ 4) (X : List Int) (d : Nat) : ∀ (j : Nat) (x9 : Bool), j ≤ y.f1.length → y.f1.length - j = d →
    ((x9 && allT tok s (y.f1.drop j)) = true → Ev (fun k => spec_l3Close.l1 k tok (placesF 0 (s.set y.f0.toNat true)) true l l.length (wrap64 (i + 1)) a0 a1 l) X) →
    ((x9 && allT tok s (y.f1.drop j)) = false → Ev (fun k => spec_l3Close.l1 k tok (placesF 0 s) ag l l.length (wrap64 (i + 1)) a0 a1 l) X) →
    Ev (fun k => spec_l3Close.l2 k tok (placesF 0 s) ag x9 l l.length i y.f1 y.f1.length j a0 a1 l y.f0 y.f1) X := by
  induction d with
  | zero =>
    intro j x9 h1 hd hT hF
    rw [List.drop_of_length_le (by omega)] at hT hF
    cases x9 with
    | true =>
      obtain ⟨K, h⟩ := hT rfl
      dsimp only at h
      refine ⟨K + 11, fun k hk => ?_⟩
      dsimp only
      obtain ⟨k, rfl⟩ : ∃ m, k = m + 1 := ⟨k - 1, by omega⟩
      simp only [spec_l3Close.l2]
      rw [if_neg (by omega), if_pos trivial, put6 s hs y.f0 hy.1.1 hy.1.2 k (by omega)]
      exact h k (by omega)
    | false =>
      obtain ⟨K, h⟩ := hF rfl
      dsimp only at h
      refine ⟨K + 1, fun k hk => ?_⟩
      dsimp only
      obtain ⟨k, rfl⟩ : ∃ m, k = m + 1 := ⟨k - 1, by omega⟩
      simp only [spec_l3Close.l2]
      rw [if_neg (by omega), if_neg (by decide)]
      exact h k (by omega)
  | succ d ih =>
    intro j x9 h1 hd hT hF
    have hj : j < y.f1.length := by omega
    have hx6 := hy.2 j hj
    have hdj : y.f1.drop j = rd y.f1 j :: y.f1.drop (j + 1) := getD_drop y.f1 j 0 hj
    have ew : wrap64 ((j : Int) + 1) = ((j + 1 : Nat) : Int) := by unfold wrap64; omega
    have eall : allT tok s (y.f1.drop j) = ((if rd y.f1 j < 0 then tok else s.getD (rd y.f1 j).toNat false) && allT tok s (y.f1.drop (j + 1))) := by rw [hdj]; rfl
    rw [eall, ← Bool.and_assoc] at hT hF
    obtain ⟨K, h⟩ := ih (j + 1) (x9 && (if rd y.f1 j < 0 then tok else s.getD (rd y.f1 j).toNat false)) (by omega) (by omega) hT hF
    dsimp only at h
    refine ⟨K + 11, fun k hk => ?_⟩
    dsimp only
    obtain ⟨k, rfl⟩ : ∃ m, k = m + 1 := ⟨k - 1, by omega⟩
    have hk2 := h k (by omega)
    simp only [spec_l3Close.l2]
    rw [if_pos (by omega), if_pos (by omega), if_pos (by omega), ew]
    cases x9 with
    | false => rw [if_neg (by decide)]; simpa using hk2
    | true =>
      rw [if_pos rfl]
      by_cases hn : rd y.f1 j < 0
      · rw [if_pos hn] at hk2 ⊢
        cases tok with
        | true => rw [if_pos rfl]; simpa using hk2
        | false => rw [if_neg (by decide), if_neg (by omega)]; simpa using hk2
      · rw [if_neg hn] at hk2 ⊢
        rw [if_pos (by omega), has6 s hs (rd y.f1 j) (by omega) hx6 k (by omega)]
        simpa using hk2
theorem close_l1 (tok : Bool) (a0 a1 : Int) (l : List S47) (hl : okL l) (X : List Int) (d : Nat) : ∀ (i : Nat) (s : List Bool) (ag : Bool), s.length = 6 → i ≤ l.length → l.length - i = d →
    Ev (fun k => spec_l3Close.l0 k tok (placesF 0 (passC (mkT tok) (l.drop i) (s, ag)).1) (passC (mkT tok) (l.drop i) (s, ag)).2 a0 a1 l) X →
    Ev (fun k => spec_l3Close.l1 k tok (placesF 0 s) ag l l.length i a0 a1 l) X := by
  have hb := hl.1
  induction d with
  | zero =>
    intro i s ag hs h1 hd h0
    rw [List.drop_of_length_le (by omega)] at h0
    obtain ⟨K, h⟩ := h0
    dsimp only at h
    refine ⟨K + 1, fun k hk => ?_⟩
    dsimp only
    obtain ⟨k, rfl⟩ : ∃ m, k = m + 1 := ⟨k - 1, by omega⟩
    simp only [spec_l3Close.l1]
    rw [if_neg (by omega)]
    exact h k (by omega)
  | succ d ih =>
    intro i s ag hs h1 hd h0
    have hi : i < l.length := by omega
    obtain ⟨hy, hyl⟩ := hl.2 i hi
    have hdi : l.drop i = rd_T47 l i :: l.drop (i + 1) := getD_drop l i z47 hi
    rw [hdi] at h0
    have ew : wrap64 ((i : Int) + 1) = ((i + 1 : Nat) : Int) := by unfold wrap64; omega
    have hstep : ∀ q, passC (mkT tok) (rd_T47 l i :: l.drop (i + 1)) q = passC (mkT tok) (l.drop (i + 1)) (stepC (mkT tok) (rd_T47 l i) q) := fun _ => rfl
    rw [hstep] at h0
    obtain ⟨K, h⟩ := close_l2 tok a0 a1 l s hs ag i (rd_T47 l i) hy hyl X (rd_T47 l i).f1.length 0 (!s.getD (rd_T47 l i).f0.toNat false) (by omega) (by omega)
      (fun hc => by
        rw [List.drop_zero] at hc
        have e : stepC (mkT tok) (rd_T47 l i) (s, ag) = (s.set (rd_T47 l i).f0.toNat true, true) := by unfold stepC; exact if_pos hc
        rw [e] at h0
        rw [ew]
        exact ih (i + 1) _ _ (by rw [List.length_set]; exact hs) (by omega) (by omega) h0)
      (fun hc => by
        rw [List.drop_zero] at hc
        have e : stepC (mkT tok) (rd_T47 l i) (s, ag) = (s, ag) := by
          unfold stepC
          exact if_neg (by rw [Bool.eq_false_iff] at hc; exact hc)
        rw [e] at h0
        rw [ew]
        exact ih (i + 1) _ _ hs (by omega) (by omega) h0)
    dsimp only at h
    refine ⟨K + 11, fun k hk => ?_⟩
    dsimp only
    obtain ⟨k, rfl⟩ : ∃ m, k = m + 1 := ⟨k - 1, by omega⟩
    simp only [spec_l3Close.l1]
    rw [if_pos (by omega), if_pos (by omega), if_pos (by omega), has6 s hs _ hy.1.1 hy.1.2 k (by omega)]
    simp only [Option.bind_some]
    exact h k (by omega)
theorem close_l0 (tok : Bool) (a0 a1 : Int) (l : List S47) (hl : okL l) (n : Nat) : ∀ s : List Bool, s.length = 6 → cntF s < n →
    Ev (fun k => spec_l3Close.l0 k tok (placesF 0 s) true a0 a1 l) (placesF 0 (closeN (mkT tok) l n s)) := by
  induction n with
  | zero => intro s _ h; omega
  | succ n ih =>
    intro s hs hc
    obtain ⟨h1, h2, h3⟩ := passC_cnt (mkT tok) l (okL_f0 hl) (s, false) hs
    have key : Ev (fun k => spec_l3Close.l0 k tok (placesF 0 (passC (mkT tok) l (s, false)).1) (passC (mkT tok) l (s, false)).2 a0 a1 l) (placesF 0 (closeN (mkT tok) l (n + 1) s)) := by
      have e : closeN (mkT tok) l (n + 1) s = if (passC (mkT tok) l (s, false)).2 = true then closeN (mkT tok) l n (passC (mkT tok) l (s, false)).1 else (passC (mkT tok) l (s, false)).1 := rfl
      rw [e]
      cases hq : (passC (mkT tok) l (s, false)).2 with
      | true =>
        rw [if_pos rfl]
        refine ih _ h1 ?_
        rcases h3 hq with h4 | h4
        · cases h4
        · have h5 : cntF (passC (mkT tok) l (s, false)).1 < cntF s := h4
          omega
      | false =>
        rw [if_neg (by decide)]
        refine ⟨1, fun k hk => ?_⟩
        dsimp only
        obtain ⟨k, rfl⟩ : ∃ m, k = m + 1 := ⟨k - 1, by omega⟩
        simp only [spec_l3Close.l0]
        rw [if_neg (by decide)]
    obtain ⟨K, h⟩ := close_l1 tok a0 a1 l hl _ l.length 0 s false hs (by omega) (by omega) (by rw [List.drop_zero]; exact key)
    dsimp only at h
    refine ⟨K + 1, fun k hk => ?_⟩
    dsimp only
    obtain ⟨k, rfl⟩ : ∃ m, k = m + 1 := ⟨k - 1, by omega⟩
    simp only [spec_l3Close.l0]
    rw [if_pos trivial]
    exact h k (by omega)
theorem l3Close_ev (tok : Bool) (a0 a1 : Int) (l : List S47) (hl : okL l) : Ev (fun k => spec_l3Close.f k a0 a1 l tok) (placesF 0 (closedF (mkT tok) l)) :=
  close_l0 tok a0 a1 l hl 7 [false, false, false, false, false, false] rfl (by decide)
theorem passC_len (mk : S47 → List Bool → Bool) (l : List S47) (q : List Bool × Bool) (h : q.1.length = 6) : (passC mk l q).1.length = 6 := by
  induction l generalizing q with
  | nil => exact h
  | cons x l ih => exact ih _ (stepC_len mk x q h)
theorem closeN_len (mk : S47 → List Bool → Bool) (l : List S47) (n : Nat) : ∀ s : List Bool, s.length = 6 → (closeN mk l n s).length = 6 := by
  induction n with
  | zero => intro s h; exact h
  | succ n ih =>
    intro s h
    unfold closeN
    split
    · exact ih _ (passC_len mk l (s, false) h)
    · exact passC_len mk l (s, false) h
theorem closedF_len (mk : S47 → List Bool → Bool) (l : List S47) : (closedF mk l).length = 6 := closeN_len mk l 7 _ rfl
end Go.Proofs.Ytohbdjdjjbieeaa.P

/-! Hll -/
/- The program's leastLong and LeastLong: what they answer, and that they answer it. -/
namespace Go.Proofs.Ytohbdjdjjbieeaa.P
open Go.RowKit Go.Proofs.YtohbdjdjjbieeaaW.PrintWords Go.Proofs.YtohbdjdjjbieeaaW.PrintLast Go.Proofs.YtohbdjdjjbieeaaW.PrintMore
set_option linter.unusedVariables false
set_option linter.unusedSimpArgs false

/-- One symbol's share of a rule's length. -/
def stepS (s : List Int) (n x : Int) : Int := if n < 0 then n else if x < 0 then wrap64 (n + 1) else if s.getD x.toNat 0 < 0 then -1 else wrap64 (n + s.getD x.toNat 0)
def sumL (s : List Int) (l : List Int) (n : Int) : Int := l.foldl (stepS s) n
/-- One rule. -/
def stepL (y : S47) (q : List Int × Bool) : List Int × Bool :=
  if (decide (0 ≤ sumL q.1 y.f1 0) && (decide (q.1.getD y.f0.toNat 0 < 0) || decide (sumL q.1 y.f1 0 < q.1.getD y.f0.toNat 0))) = true then (q.1.set y.f0.toNat (sumL q.1 y.f1 0), true) else q
def passL (l : List S47) (q : List Int × Bool) : List Int × Bool := l.foldl (fun q y => stepL y q) q
def leastO (l : List S47) : Nat → List Int → Option (List Int)
  | 0, _ => none
  | n + 1, s => if (passL l (s, false)).2 = true then leastO l n (passL l (s, false)).1 else some (passL l (s, false)).1
theorem sixI (s : List Int) (h : s.length = 6) : ∃ v0 v1 v2 v3 v4 v5, s = [v0, v1, v2, v3, v4, v5] := by
  match s, h with
  | [v0, v1, v2, v3, v4, v5], _ => exact ⟨v0, v1, v2, v3, v4, v5, rfl⟩
theorem ints_set6 (b0 b1 b2 b3 b4 b5 : Int) (i : Nat) (v : Int) (c0 c1 c2 c3 c4 c5 : Int) (h : [b0, b1, b2, b3, b4, b5].set i v = [c0, c1, c2, c3, c4, c5]) :
    (#[.int .i64 b0, .int .i64 b1, .int .i64 b2, .int .i64 b3, .int .i64 b4, .int .i64 b5] : Array Value).setIfInBounds i (.int .i64 v) = #[.int .i64 c0, .int .i64 c1, .int .i64 c2, .int .i64 c3, .int .i64 c4, .int .i64 c5] := by
  have e : ∀ l : List Int, ((l.map (Value.int .i64)).toArray).setIfInBounds i (.int .i64 v) = ((l.set i v).map (Value.int .i64)).toArray := fun l => by
    rw [List.setIfInBounds_toArray, List.map_set]
  have := e [b0, b1, b2, b3, b4, b5]
  rw [h] at this
  exact this
theorem ints_get6 (b0 b1 b2 b3 b4 b5 : Int) (i : Nat) (hi : i < 6) : (#[.int .i64 b0, .int .i64 b1, .int .i64 b2, .int .i64 b3, .int .i64 b4, .int .i64 b5] : Array Value)[i]? = some (.int .i64 ([b0, b1, b2, b3, b4, b5].getD i 0)) := by
  match i, hi with
  | 0, _ => rfl
  | 1, _ => rfl
  | 2, _ => rfl
  | 3, _ => rfl
  | 4, _ => rfl
  | 5, _ => rfl

set_option maxHeartbeats 4000000 in
set_option maxRecDepth 100000 in
theorem leastLong_calls (N : Nat) (R : List Int) (a0 a1 : Int) (A : Option Addr) (c : Nat) (l : List S47) (w : World)
    (hr : Kd.C k47 w A l.length l) (hc : l.length ≤ c) (hok : ∀ j : Nat, j < l.length → okR6 (rd_T47 l j)) (hF : leastO l N [-1, -1, -1, -1, -1, -1] = some R) :
    Calls Try.prog 39 #[.agg #[.int .i64 a0, .int .i64 a1, .slice A l.length c]] w fun e w' => (∃ v0 v1 v2 v3 v4 v5, e = .returned (.agg #[.int .i64 v0, .int .i64 v1, .int .i64 v2, .int .i64 v3, .int .i64 v4, .int .i64 v5]) ∧ R = [v0, v1, v2, v3, v4, v5]) ∧ Below w.heap.size w w' := by
  have hu := Try.underlying30
  have hml : l.length ≤ 9223372036854775807 := hr.2.1
  have HR := Aside0.mk hr
  have HOK := Aside0.mk hok
  have HF := Aside0.mk hF
  have HB := Aside0.mk (Below.refl w.heap.size w)
  clear hr hok hF
  go_enter Try.func39, Try.ntmps39
  go_wp2_with (first | ((with_reducible refine gate_dst (N := 1) rfl ?_); refine box_event ?hg (N := 1) ?hd (cs := #[.int .i64 a0, .int .i64 a1, .slice A l.length c]) (t := 30) ?hr ?_; (case hd => rfl); (case hg => rfl); (case hr => first | (go_simp; done) | (go_simp; rfl)); intro gb hg_ w1 hbox_ hb_; have GE_gb := Aside0.mk (show w.heap.size ≤ gb by rw [hg_]; exact below_size (by repeat (first | (with_reducible first | exact HB.out | apply below_alloc | apply pw_below_drewN | apply below_drew1) | exact HB.out))); have n0_ := Aside0.mk (below_step (by repeat (first | (with_reducible first | exact HB.out | apply below_alloc | apply pw_below_drewN | apply below_drew1) | exact HB.out)) hb_); clear HB; have HB := n0_; clear n0_; have B_gb := Aside0.mk hbox_; clear hb_ hbox_ hg_) | ((with_reducible refine gate_dst (N := 2) rfl ?_); refine box_event ?hg (N := 2) ?hd (cs := #[.int .i64 0, .int .i64 0, .int .i64 0, .int .i64 0, .int .i64 0, .int .i64 0]) (t := 49) ?hr ?_; (case hd => rfl); (case hg => rfl); (case hr => first | (go_simp; done) | (go_simp; rfl)); intro gr hg_ w2 hbox_ hb_; have GE_gr := Aside0.mk (show w.heap.size ≤ gr by rw [hg_]; exact below_size (by repeat (first | (with_reducible first | exact HB.out | apply below_alloc | apply pw_below_drewN | apply below_drew1) | exact HB.out))); have NE_gb_gr := Aside0.mk (show gb ≠ gr by rw [hg_]; exact Nat.ne_of_lt (blk_lt (by (with_reducible repeat (first | refine blk_drewN ?_ _ | refine blk_drew ?_ | refine blk_alloc ?_ _)); exact B_gb.out))); have n0_ := Aside0.mk (below_step (by repeat (first | (with_reducible first | exact HB.out | apply below_alloc | apply pw_below_drewN | apply below_drew1) | exact HB.out)) hb_); have n_gb := Aside0.mk (blk_below (by (with_reducible repeat (first | refine blk_drewN ?_ _ | refine blk_drew ?_ | refine blk_alloc ?_ _)); exact B_gb.out) hb_); clear HB B_gb; have HB := n0_; have B_gb := n_gb; clear n0_ n_gb; have B_gr := Aside0.mk hbox_; clear hb_ hbox_ hg_) | ((with_reducible refine gate_dst (N := 3) rfl ?_); refine box_event ?hg (N := 3) ?hd (cs := #[.int .i64 0, .int .i64 0, .int .i64 0, .int .i64 0, .int .i64 0, .int .i64 0]) (t := 49) ?hr ?_; (case hd => rfl); (case hg => rfl); (case hr => first | (go_simp; done) | (go_simp; rfl)); intro gs hg_ w3 hbox_ hb_; have GE_gs := Aside0.mk (show w.heap.size ≤ gs by rw [hg_]; exact below_size (by repeat (first | (with_reducible first | exact HB.out | apply below_alloc | apply pw_below_drewN | apply below_drew1) | exact HB.out))); have NE_gb_gs := Aside0.mk (show gb ≠ gs by rw [hg_]; exact Nat.ne_of_lt (blk_lt (by (with_reducible repeat (first | refine blk_drewN ?_ _ | refine blk_drew ?_ | refine blk_alloc ?_ _)); exact B_gb.out))); have NE_gr_gs := Aside0.mk (show gr ≠ gs by rw [hg_]; exact Nat.ne_of_lt (blk_lt (by (with_reducible repeat (first | refine blk_drewN ?_ _ | refine blk_drew ?_ | refine blk_alloc ?_ _)); exact B_gr.out))); have n0_ := Aside0.mk (below_step (by repeat (first | (with_reducible first | exact HB.out | apply below_alloc | apply pw_below_drewN | apply below_drew1) | exact HB.out)) hb_); have n_gb := Aside0.mk (blk_below (by (with_reducible repeat (first | refine blk_drewN ?_ _ | refine blk_drew ?_ | refine blk_alloc ?_ _)); exact B_gb.out) hb_); have n_gr := Aside0.mk (blk_below (by (with_reducible repeat (first | refine blk_drewN ?_ _ | refine blk_drew ?_ | refine blk_alloc ?_ _)); exact B_gr.out) hb_); clear HB B_gb B_gr; have HB := n0_; have B_gb := n_gb; have B_gr := n_gr; clear n0_ n_gb n_gr; have B_gs := Aside0.mk hbox_; clear hb_ hbox_ hg_; have x_gs_0 : w3.cell? ⟨gs, 0, none⟩ = some (.int .i64 0) := (blk_cell B_gs.out 0).trans rfl; have f_gs_0 := blk_frozen B_gs.out 0; have x_gs_1 : w3.cell? ⟨gs, 1, none⟩ = some (.int .i64 0) := (blk_cell B_gs.out 1).trans rfl; have f_gs_1 := blk_frozen B_gs.out 1; have x_gs_2 : w3.cell? ⟨gs, 2, none⟩ = some (.int .i64 0) := (blk_cell B_gs.out 2).trans rfl; have f_gs_2 := blk_frozen B_gs.out 2; have x_gs_3 : w3.cell? ⟨gs, 3, none⟩ = some (.int .i64 0) := (blk_cell B_gs.out 3).trans rfl; have f_gs_3 := blk_frozen B_gs.out 3; have x_gs_4 : w3.cell? ⟨gs, 4, none⟩ = some (.int .i64 0) := (blk_cell B_gs.out 4).trans rfl; have f_gs_4 := blk_frozen B_gs.out 4; have x_gs_5 : w3.cell? ⟨gs, 5, none⟩ = some (.int .i64 0) := (blk_cell B_gs.out 5).trans rfl; have f_gs_5 := blk_frozen B_gs.out 5))
  obtain ⟨w4, hw_⟩ : ∃ w_ : World, w_ = ((((((w3.setCell ⟨gs, 0, none⟩ (.int .i64 0)).setCell ⟨gs, 1, none⟩ (.int .i64 0)).setCell ⟨gs, 2, none⟩ (.int .i64 0)).setCell ⟨gs, 3, none⟩ (.int .i64 0)).setCell ⟨gs, 4, none⟩ (.int .i64 0)).setCell ⟨gs, 5, none⟩ (.int .i64 0)) := ⟨_, rfl⟩
  rw [← hw_]
  clear x_gs_0 f_gs_0 x_gs_1 f_gs_1 x_gs_2 f_gs_2 x_gs_3 f_gs_3 x_gs_4 f_gs_4 x_gs_5 f_gs_5
  have m0_ := Aside0.mk (show Below w.heap.size w w4 by rw [hw_]; exact (below_set (below_set (below_set (below_set (below_set (below_set HB.out GE_gs.out) GE_gs.out) GE_gs.out) GE_gs.out) GE_gs.out) GE_gs.out))
  have m_gb := Aside0.mk (show w4.heap[gb]? = some (.cells #[.int .i64 a0, .int .i64 a1, .slice A l.length c] 30 (0, 0)) by rw [hw_]; exact (blk_far (blk_far (blk_far (blk_far (blk_far (blk_far B_gb.out NE_gb_gs.out _) NE_gb_gs.out _) NE_gb_gs.out _) NE_gb_gs.out _) NE_gb_gs.out _) NE_gb_gs.out _))
  have m_gr := Aside0.mk (show w4.heap[gr]? = some (.cells #[.int .i64 0, .int .i64 0, .int .i64 0, .int .i64 0, .int .i64 0, .int .i64 0] 49 (0, 0)) by rw [hw_]; exact (blk_far (blk_far (blk_far (blk_far (blk_far (blk_far B_gr.out NE_gr_gs.out _) NE_gr_gs.out _) NE_gr_gs.out _) NE_gr_gs.out _) NE_gr_gs.out _) NE_gr_gs.out _))
  have m_gs := Aside0.mk (show w4.heap[gs]? = some (.cells #[.int .i64 0, .int .i64 0, .int .i64 0, .int .i64 0, .int .i64 0, .int .i64 0] 49 (0, 0)) by rw [hw_]; exact (blk_put (cs := #[.int .i64 0, .int .i64 0, .int .i64 0, .int .i64 0, .int .i64 0, .int .i64 0]) (blk_put (cs := #[.int .i64 0, .int .i64 0, .int .i64 0, .int .i64 0, .int .i64 0, .int .i64 0]) (blk_put (cs := #[.int .i64 0, .int .i64 0, .int .i64 0, .int .i64 0, .int .i64 0, .int .i64 0]) (blk_put (cs := #[.int .i64 0, .int .i64 0, .int .i64 0, .int .i64 0, .int .i64 0, .int .i64 0]) (blk_put (cs := #[.int .i64 0, .int .i64 0, .int .i64 0, .int .i64 0, .int .i64 0, .int .i64 0]) (blk_put (cs := #[.int .i64 0, .int .i64 0, .int .i64 0, .int .i64 0, .int .i64 0, .int .i64 0]) B_gs.out 0 _ rfl) 1 _ rfl) 2 _ rfl) 3 _ rfl) 4 _ rfl) 5 _ rfl))
  clear HB hw_ B_gb B_gr B_gs
  have HB := m0_
  have B_gb := m_gb
  have B_gr := m_gr
  have B_gs := m_gs
  clear m0_ m_gb m_gr m_gs
  go_loopg [4, 12] 6 (fun gg s4 s12 wr => ∃ (kk : Nat) (v0 v1 v2 v3 v4 v5 : Int), kk ≤ 6 ∧ 6 - kk ≤ gg ∧ s12 = .int .i64 kk ∧ Aside0 (∀ j : Nat, j < kk → [v0, v1, v2, v3, v4, v5].getD j 0 = -1) ∧ Aside0 (wr.heap[gb]? = some (.cells #[.int .i64 a0, .int .i64 a1, .slice A l.length c] 30 (0, 0))) ∧ Aside0 (wr.heap[gr]? = some (.cells #[.int .i64 0, .int .i64 0, .int .i64 0, .int .i64 0, .int .i64 0, .int .i64 0] 49 (0, 0))) ∧ Aside0 (wr.heap[gs]? = some (.cells #[.int .i64 v0, .int .i64 v1, .int .i64 v2, .int .i64 v3, .int .i64 v4, .int .i64 v5] 49 (0, 0))) ∧ Aside0 (Below w.heap.size w wr))
  case atStart => exact ⟨0, _, _, _, _, _, _, Nat.zero_le _, by omega, rfl, ⟨fun j h => absurd h (Nat.not_lt_zero _)⟩, B_gb, B_gr, B_gs, HB⟩
  case round =>
    clear B_gb B_gr B_gs HB
    obtain ⟨kk, v0, v1, v2, v3, v4, v5, hkk, hg, rfl, NEG, B_gb, B_gr, B_gs, HB⟩ := hrel
    by_cases hlt : kk < 6
    · have hd : decide (kk < 6) = true := decide_eq_true hlt
      have hcx : wr.cell? ⟨gs, kk, none⟩ = some (.int .i64 ([v0, v1, v2, v3, v4, v5].getD kk 0)) := (blk_cell B_gs.out kk).trans (ints_get6 v0 v1 v2 v3 v4 v5 kk hlt)
      have hfx := blk_frozen B_gs.out kk
      obtain ⟨d0, d1, d2, d3, d4, d5, hset⟩ := sixI ([v0, v1, v2, v3, v4, v5].set kk (-1)) (by rw [List.length_set]; rfl)
      have ST := Aside0.mk hset
      have NEG2 := Aside0.mk (show ∀ j : Nat, j < kk + 1 → [d0, d1, d2, d3, d4, d5].getD j 0 = -1 from fun j hj => by
        rw [← hset, List.getD_eq_getElem?_getD, List.getElem?_set]
        by_cases e : kk = j
        · rw [if_pos e, if_pos (show kk < [v0, v1, v2, v3, v4, v5].length from hlt)]; rfl
        · rw [if_neg e, ← List.getD_eq_getElem?_getD]; exact NEG.out j (by omega))
      clear hset
      generalize [v0, v1, v2, v3, v4, v5].getD kk 0 = z at hcx
      go_wp2
      obtain ⟨w5, hw_⟩ : ∃ w_ : World, w_ = (wr.setCell ⟨gs, kk, none⟩ (.int .i64 (-1))) := ⟨_, rfl⟩
      rw [← hw_]
      have m0_ := Aside0.mk (show Below w.heap.size w w5 by rw [hw_]; exact (below_set HB.out GE_gs.out))
      have m_gb := Aside0.mk (show w5.heap[gb]? = some (.cells #[.int .i64 a0, .int .i64 a1, .slice A l.length c] 30 (0, 0)) by rw [hw_]; exact (blk_far B_gb.out NE_gb_gs.out _))
      have m_gr := Aside0.mk (show w5.heap[gr]? = some (.cells #[.int .i64 0, .int .i64 0, .int .i64 0, .int .i64 0, .int .i64 0, .int .i64 0] 49 (0, 0)) by rw [hw_]; exact (blk_far B_gr.out NE_gr_gs.out _))
      have m_gs := Aside0.mk (show w5.heap[gs]? = some (.cells #[.int .i64 d0, .int .i64 d1, .int .i64 d2, .int .i64 d3, .int .i64 d4, .int .i64 d5] 49 (0, 0)) by rw [hw_]; exact blk_put (cs := #[.int .i64 v0, .int .i64 v1, .int .i64 v2, .int .i64 v3, .int .i64 v4, .int .i64 v5]) B_gs.out kk _ (ints_set6 v0 v1 v2 v3 v4 v5 kk (-1) d0 d1 d2 d3 d4 d5 ST.out))
      clear HB hw_ B_gb B_gr B_gs
      have HB := m0_
      have B_gb := m_gb
      have B_gr := m_gr
      have B_gs := m_gs
      clear m0_ m_gb m_gr m_gs
      go_roundg (6 - (kk + 1))
      case measure => omega
      case rel => exact ⟨kk + 1, _, _, _, _, _, _, by omega, by omega, by go_num, NEG2, B_gb, B_gr, B_gs, HB⟩
    · have hd : decide (kk < 6) = false := decide_eq_false hlt
      have ALL := Aside0.mk (show [v0, v1, v2, v3, v4, v5] = [-1, -1, -1, -1, -1, -1] by
        have e0 := NEG.out 0 (by omega); have e1 := NEG.out 1 (by omega); have e2 := NEG.out 2 (by omega); have e3 := NEG.out 3 (by omega); have e4 := NEG.out 4 (by omega); have e5 := NEG.out 5 (by omega)
        simp only [List.getD_cons_zero, List.getD_cons_succ] at e0 e1 e2 e3 e4 e5
        rw [e0, e1, e2, e3, e4, e5])
      have e : kk = 6 := by omega
      subst e
      clear hlt NEG hd
      go_wp2
      go_loopg [5] N (fun gg s5 wr => ∃ (n : Nat) (v0 v1 v2 v3 v4 v5 : Int) (ag : Bool), s5 = .bool ag ∧ n ≤ gg ∧ Aside0 (ag = true → leastO l n [v0, v1, v2, v3, v4, v5] = some R) ∧ Aside0 (ag = false → [v0, v1, v2, v3, v4, v5] = R) ∧ Aside0 (wr.heap[gb]? = some (.cells #[.int .i64 a0, .int .i64 a1, .slice A l.length c] 30 (0, 0))) ∧ Aside0 (wr.heap[gr]? = some (.cells #[.int .i64 0, .int .i64 0, .int .i64 0, .int .i64 0, .int .i64 0, .int .i64 0] 49 (0, 0))) ∧ Aside0 (wr.heap[gs]? = some (.cells #[.int .i64 v0, .int .i64 v1, .int .i64 v2, .int .i64 v3, .int .i64 v4, .int .i64 v5] 49 (0, 0))) ∧ Aside0 (Below w.heap.size w wr))
      case atStart => exact ⟨N, _, _, _, _, _, _, true, rfl, Nat.le_refl _, ⟨fun _ => by rw [ALL.out]; exact HF.out⟩, ⟨fun h => by cases h⟩, B_gb, B_gr, B_gs, HB⟩
      case round =>
        clear B_gb B_gr B_gs HB ALL
        obtain ⟨n, v0, v1, v2, v3, v4, v5, ag, rfl, hn, CT, CF, B_gb, B_gr, B_gs, HB⟩ := hrel
        cases ag with
        | false =>
          have x_gb_0 : wr.cell? ⟨gb, 0, none⟩ = some (.int .i64 a0) := (blk_cell B_gb.out 0).trans rfl
          have x_gb_1 : wr.cell? ⟨gb, 1, none⟩ = some (.int .i64 a1) := (blk_cell B_gb.out 1).trans rfl
          have x_gb_2 : wr.cell? ⟨gb, 2, none⟩ = some (.slice A l.length c) := (blk_cell B_gb.out 2).trans rfl
          have x_gr_0 : wr.cell? ⟨gr, 0, none⟩ = some (.int .i64 0) := (blk_cell B_gr.out 0).trans rfl
          have f_gr_0 := blk_frozen B_gr.out 0
          have x_gr_1 : wr.cell? ⟨gr, 1, none⟩ = some (.int .i64 0) := (blk_cell B_gr.out 1).trans rfl
          have f_gr_1 := blk_frozen B_gr.out 1
          have x_gr_2 : wr.cell? ⟨gr, 2, none⟩ = some (.int .i64 0) := (blk_cell B_gr.out 2).trans rfl
          have f_gr_2 := blk_frozen B_gr.out 2
          have x_gr_3 : wr.cell? ⟨gr, 3, none⟩ = some (.int .i64 0) := (blk_cell B_gr.out 3).trans rfl
          have f_gr_3 := blk_frozen B_gr.out 3
          have x_gr_4 : wr.cell? ⟨gr, 4, none⟩ = some (.int .i64 0) := (blk_cell B_gr.out 4).trans rfl
          have f_gr_4 := blk_frozen B_gr.out 4
          have x_gr_5 : wr.cell? ⟨gr, 5, none⟩ = some (.int .i64 0) := (blk_cell B_gr.out 5).trans rfl
          have f_gr_5 := blk_frozen B_gr.out 5
          have x_gs_0 : wr.cell? ⟨gs, 0, none⟩ = some (.int .i64 v0) := (blk_cell B_gs.out 0).trans rfl
          have x_gs_1 : wr.cell? ⟨gs, 1, none⟩ = some (.int .i64 v1) := (blk_cell B_gs.out 1).trans rfl
          have x_gs_2 : wr.cell? ⟨gs, 2, none⟩ = some (.int .i64 v2) := (blk_cell B_gs.out 2).trans rfl
          have x_gs_3 : wr.cell? ⟨gs, 3, none⟩ = some (.int .i64 v3) := (blk_cell B_gs.out 3).trans rfl
          have x_gs_4 : wr.cell? ⟨gs, 4, none⟩ = some (.int .i64 v4) := (blk_cell B_gs.out 4).trans rfl
          have x_gs_5 : wr.cell? ⟨gs, 5, none⟩ = some (.int .i64 v5) := (blk_cell B_gs.out 5).trans rfl
          have FIN := Aside0.mk (CF.out rfl)
          clear CT CF
          go_wp2
          obtain ⟨w9, hw_⟩ : ∃ w_ : World, w_ = ((((((wr.setCell ⟨gr, 0, none⟩ (.int .i64 v0)).setCell ⟨gr, 1, none⟩ (.int .i64 v1)).setCell ⟨gr, 2, none⟩ (.int .i64 v2)).setCell ⟨gr, 3, none⟩ (.int .i64 v3)).setCell ⟨gr, 4, none⟩ (.int .i64 v4)).setCell ⟨gr, 5, none⟩ (.int .i64 v5)) := ⟨_, rfl⟩
          rw [← hw_]
          clear x_gb_0 x_gb_1 x_gb_2 x_gr_0 f_gr_0 x_gr_1 f_gr_1 x_gr_2 f_gr_2 x_gr_3 f_gr_3 x_gr_4 f_gr_4 x_gr_5 f_gr_5 x_gs_0 x_gs_1 x_gs_2 x_gs_3 x_gs_4 x_gs_5
          have m0_ := Aside0.mk (show Below w.heap.size w w9 by rw [hw_]; exact (below_set (below_set (below_set (below_set (below_set (below_set HB.out GE_gr.out) GE_gr.out) GE_gr.out) GE_gr.out) GE_gr.out) GE_gr.out))
          have m_gb := Aside0.mk (show w9.heap[gb]? = some (.cells #[.int .i64 a0, .int .i64 a1, .slice A l.length c] 30 (0, 0)) by rw [hw_]; exact (blk_far (blk_far (blk_far (blk_far (blk_far (blk_far B_gb.out NE_gb_gr.out _) NE_gb_gr.out _) NE_gb_gr.out _) NE_gb_gr.out _) NE_gb_gr.out _) NE_gb_gr.out _))
          have m_gr := Aside0.mk (show w9.heap[gr]? = some (.cells #[.int .i64 v0, .int .i64 v1, .int .i64 v2, .int .i64 v3, .int .i64 v4, .int .i64 v5] 49 (0, 0)) by rw [hw_]; exact (blk_put (cs := #[.int .i64 v0, .int .i64 v1, .int .i64 v2, .int .i64 v3, .int .i64 v4, .int .i64 0]) (blk_put (cs := #[.int .i64 v0, .int .i64 v1, .int .i64 v2, .int .i64 v3, .int .i64 0, .int .i64 0]) (blk_put (cs := #[.int .i64 v0, .int .i64 v1, .int .i64 v2, .int .i64 0, .int .i64 0, .int .i64 0]) (blk_put (cs := #[.int .i64 v0, .int .i64 v1, .int .i64 0, .int .i64 0, .int .i64 0, .int .i64 0]) (blk_put (cs := #[.int .i64 v0, .int .i64 0, .int .i64 0, .int .i64 0, .int .i64 0, .int .i64 0]) (blk_put (cs := #[.int .i64 0, .int .i64 0, .int .i64 0, .int .i64 0, .int .i64 0, .int .i64 0]) B_gr.out 0 _ rfl) 1 _ rfl) 2 _ rfl) 3 _ rfl) 4 _ rfl) 5 _ rfl))
          have m_gs := Aside0.mk (show w9.heap[gs]? = some (.cells #[.int .i64 v0, .int .i64 v1, .int .i64 v2, .int .i64 v3, .int .i64 v4, .int .i64 v5] 49 (0, 0)) by rw [hw_]; exact (blk_far (blk_far (blk_far (blk_far (blk_far (blk_far B_gs.out (Ne.symm NE_gr_gs.out) _) (Ne.symm NE_gr_gs.out) _) (Ne.symm NE_gr_gs.out) _) (Ne.symm NE_gr_gs.out) _) (Ne.symm NE_gr_gs.out) _) (Ne.symm NE_gr_gs.out) _))
          clear HB hw_ B_gb B_gr B_gs
          have HB := m0_
          have B_gb := m_gb
          have B_gr := m_gr
          have B_gs := m_gs
          clear m0_ m_gb m_gr m_gs
          have x_gr_0 : w9.cell? ⟨gr, 0, none⟩ = some (.int .i64 v0) := (blk_cell B_gr.out 0).trans rfl
          have x_gr_1 : w9.cell? ⟨gr, 1, none⟩ = some (.int .i64 v1) := (blk_cell B_gr.out 1).trans rfl
          have x_gr_2 : w9.cell? ⟨gr, 2, none⟩ = some (.int .i64 v2) := (blk_cell B_gr.out 2).trans rfl
          have x_gr_3 : w9.cell? ⟨gr, 3, none⟩ = some (.int .i64 v3) := (blk_cell B_gr.out 3).trans rfl
          have x_gr_4 : w9.cell? ⟨gr, 4, none⟩ = some (.int .i64 v4) := (blk_cell B_gr.out 4).trans rfl
          have x_gr_5 : w9.cell? ⟨gr, 5, none⟩ = some (.int .i64 v5) := (blk_cell B_gr.out 5).trans rfl
          refine bodyPost_ret (v := .agg #[.int .i64 v0, .int .i64 v1, .int .i64 v2, .int .i64 v3, .int .i64 v4, .int .i64 v5]) (by simp [results, Try.results39, go_sem, x_gr_0, x_gr_1, x_gr_2, x_gr_3, x_gr_4, x_gr_5]) rfl ⟨⟨v0, v1, v2, v3, v4, v5, rfl, FIN.out.symm⟩, HB.out⟩
        | true =>
          have x_gb_0 : wr.cell? ⟨gb, 0, none⟩ = some (.int .i64 a0) := (blk_cell B_gb.out 0).trans rfl
          have x_gb_1 : wr.cell? ⟨gb, 1, none⟩ = some (.int .i64 a1) := (blk_cell B_gb.out 1).trans rfl
          have x_gb_2 : wr.cell? ⟨gb, 2, none⟩ = some (.slice A l.length c) := (blk_cell B_gb.out 2).trans rfl
          have CL := Aside0.mk (CT.out rfl)
          clear CT CF
          obtain ⟨s0, hs0⟩ : ∃ s0 : List Int, s0 = [v0, v1, v2, v3, v4, v5] := ⟨_, rfl⟩
          rw [← hs0] at CL
          have PQ := Aside0.mk (show passL l (s0, false) = passL (l.drop 0) ([v0, v1, v2, v3, v4, v5], false) by rw [hs0]; rfl)
          clear hs0
          go_wp2
          go_loopg [5, 22] l.length (fun gg s5 s22 wr => ∃ (kk : Nat) (v0 v1 v2 v3 v4 v5 : Int) (ag : Bool), kk ≤ l.length ∧ l.length - kk ≤ gg ∧ s22 = .int .i64 kk ∧ s5 = .bool ag ∧ Aside0 (passL l (s0, false) = passL (l.drop kk) ([v0, v1, v2, v3, v4, v5], ag)) ∧ Aside0 (wr.heap[gb]? = some (.cells #[.int .i64 a0, .int .i64 a1, .slice A l.length c] 30 (0, 0))) ∧ Aside0 (wr.heap[gr]? = some (.cells #[.int .i64 0, .int .i64 0, .int .i64 0, .int .i64 0, .int .i64 0, .int .i64 0] 49 (0, 0))) ∧ Aside0 (wr.heap[gs]? = some (.cells #[.int .i64 v0, .int .i64 v1, .int .i64 v2, .int .i64 v3, .int .i64 v4, .int .i64 v5] 49 (0, 0))) ∧ Aside0 (Below w.heap.size w wr))
          case atStart => exact ⟨0, _, _, _, _, _, _, false, Nat.zero_le _, by omega, rfl, rfl, PQ, B_gb, B_gr, B_gs, HB⟩
          case round =>
            clear B_gb B_gr B_gs HB PQ x_gb_0 x_gb_1 x_gb_2
            obtain ⟨kk, v0, v1, v2, v3, v4, v5, ag, hkk, hg, rfl, rfl, PQ, B_gb, B_gr, B_gs, HB⟩ := hrel
            by_cases hlt : kk < l.length
            · have hd : decide (kk < l.length) = true := decide_eq_true hlt
              obtain ⟨ad, A1, c1, e, hx0, hx1, hl1, hi1⟩ := at_T47 HR.out (kk : Int) (by omega) (by omega)
              subst e
              replace hx0 := (HB.out.cell (World.block_lt_of_cell? w _ hx0)).trans hx0
              replace hx1 := (HB.out.cell (World.block_lt_of_cell? w _ hx1)).trans hx1
              have hx2 : wr.cell? (ad.add (kk * 2)) = some (.int .i64 (rd_T47 l kk).f0) := by simpa using hx0
              have hx3 : wr.cell? ⟨(ad.add (kk * 2)).block, (ad.add (kk * 2)).off + 1, none⟩ = some (.slice A1 (rd_T47 l kk).f1.length c1) := by simpa using hx1
              clear hx0 hx1
              have HI := Aside0.mk hi1
              have HL := Aside0.mk hl1
              have hmy := hi1.2.1
              have L := Aside0.mk hlt
              have OK := Aside0.mk (HOK.out kk hlt)
              have PD := Aside0.mk (show passL (l.drop kk) ([v0, v1, v2, v3, v4, v5], ag) = passL (l.drop (kk + 1)) (stepL (rd_T47 l kk) ([v0, v1, v2, v3, v4, v5], ag)) by rw [getD_drop l kk z47 hlt]; rfl)
              clear hi1 hl1
              generalize rd_T47 l kk = y at hx2 hx3 HI HL OK PD hmy
              go_upto_region 13 with (first | ((with_reducible refine gate_dst (N := 7) rfl ?_); refine box_event ?hg (N := 7) ?hd (cs := #[.int .i64 0, .slice none 0 0]) (t := 47) ?hr ?_; (case hd => rfl); (case hg => rfl); (case hr => first | (go_simp; done) | (go_simp; rfl)); intro gc hg_ w5 hbox_ hb_; have GE_gc := Aside0.mk (show w.heap.size ≤ gc by rw [hg_]; exact below_size (by repeat (first | (with_reducible first | exact HB.out | apply below_alloc | apply pw_below_drewN | apply below_drew1) | exact HB.out))); have NE_gb_gc := Aside0.mk (show gb ≠ gc by rw [hg_]; exact Nat.ne_of_lt (blk_lt (by (with_reducible repeat (first | refine blk_drewN ?_ _ | refine blk_drew ?_ | refine blk_alloc ?_ _)); exact B_gb.out))); have NE_gr_gc := Aside0.mk (show gr ≠ gc by rw [hg_]; exact Nat.ne_of_lt (blk_lt (by (with_reducible repeat (first | refine blk_drewN ?_ _ | refine blk_drew ?_ | refine blk_alloc ?_ _)); exact B_gr.out))); have NE_gs_gc := Aside0.mk (show gs ≠ gc by rw [hg_]; exact Nat.ne_of_lt (blk_lt (by (with_reducible repeat (first | refine blk_drewN ?_ _ | refine blk_drew ?_ | refine blk_alloc ?_ _)); exact B_gs.out))); have n0_ := Aside0.mk (below_step (by repeat (first | (with_reducible first | exact HB.out | apply below_alloc | apply pw_below_drewN | apply below_drew1) | exact HB.out)) hb_); have n_gb := Aside0.mk (blk_below (by (with_reducible repeat (first | refine blk_drewN ?_ _ | refine blk_drew ?_ | refine blk_alloc ?_ _)); exact B_gb.out) hb_); have n_gr := Aside0.mk (blk_below (by (with_reducible repeat (first | refine blk_drewN ?_ _ | refine blk_drew ?_ | refine blk_alloc ?_ _)); exact B_gr.out) hb_); have n_gs := Aside0.mk (blk_below (by (with_reducible repeat (first | refine blk_drewN ?_ _ | refine blk_drew ?_ | refine blk_alloc ?_ _)); exact B_gs.out) hb_); clear HB B_gb B_gr B_gs; have HB := n0_; have B_gb := n_gb; have B_gr := n_gr; have B_gs := n_gs; clear n0_ n_gb n_gr n_gs; have B_gc := Aside0.mk hbox_; clear hb_ hbox_ hg_; have x_gc_0 : w5.cell? ⟨gc, 0, none⟩ = some (.int .i64 0) := (blk_cell B_gc.out 0).trans rfl; have f_gc_0 := blk_frozen B_gc.out 0; have x_gc_1 : w5.cell? ⟨gc, 1, none⟩ = some (.slice none 0 0) := (blk_cell B_gc.out 1).trans rfl; have f_gc_1 := blk_frozen B_gc.out 1))
              obtain ⟨w6, hw_⟩ : ∃ w_ : World, w_ = ((w5.setCell ⟨gc, 0, none⟩ (.int .i64 y.f0)).setCell ⟨gc, 1, none⟩ (.slice A1 y.f1.length c1)) := ⟨_, rfl⟩
              rw [← hw_]
              clear x_gc_0 f_gc_0 x_gc_1 f_gc_1
              have m0_ := Aside0.mk (show Below w.heap.size w w6 by rw [hw_]; exact (below_set (below_set HB.out GE_gc.out) GE_gc.out))
              have m_gb := Aside0.mk (show w6.heap[gb]? = some (.cells #[.int .i64 a0, .int .i64 a1, .slice (some ad) l.length c] 30 (0, 0)) by rw [hw_]; exact (blk_far (blk_far B_gb.out NE_gb_gc.out _) NE_gb_gc.out _))
              have m_gr := Aside0.mk (show w6.heap[gr]? = some (.cells #[.int .i64 0, .int .i64 0, .int .i64 0, .int .i64 0, .int .i64 0, .int .i64 0] 49 (0, 0)) by rw [hw_]; exact (blk_far (blk_far B_gr.out NE_gr_gc.out _) NE_gr_gc.out _))
              have m_gs := Aside0.mk (show w6.heap[gs]? = some (.cells #[.int .i64 v0, .int .i64 v1, .int .i64 v2, .int .i64 v3, .int .i64 v4, .int .i64 v5] 49 (0, 0)) by rw [hw_]; exact (blk_far (blk_far B_gs.out NE_gs_gc.out _) NE_gs_gc.out _))
              have m_gc := Aside0.mk (show w6.heap[gc]? = some (.cells #[.int .i64 y.f0, .slice A1 y.f1.length c1] 47 (0, 0)) by rw [hw_]; exact (blk_put (cs := #[.int .i64 y.f0, .slice none 0 0]) (blk_put (cs := #[.int .i64 0, .slice none 0 0]) B_gc.out 0 _ rfl) 1 _ rfl))
              clear HB hw_ B_gb B_gr B_gs B_gc
              have HB := m0_
              have B_gb := m_gb
              have B_gr := m_gr
              have B_gs := m_gs
              have B_gc := m_gc
              clear m0_ m_gb m_gr m_gs m_gc
              have x_gc_0 : w6.cell? ⟨gc, 0, none⟩ = some (.int .i64 y.f0) := (blk_cell B_gc.out 0).trans rfl
              have x_gc_1 : w6.cell? ⟨gc, 1, none⟩ = some (.slice A1 y.f1.length c1) := (blk_cell B_gc.out 1).trans rfl
              clear hx2 hx3
              have hy0 : 0 ≤ y.f0 := OK.out.1.1
              have hy1 : y.f0 < 6 := OK.out.1.2
              have hyn : y.f0.toNat < 6 := by omega
              have SQ := Aside0.mk (show sumL [v0, v1, v2, v3, v4, v5] y.f1 0 = sumL [v0, v1, v2, v3, v4, v5] (y.f1.drop 0) 0 from rfl)
              clear hd
              go_wp2
              go_loopg [8, 29] y.f1.length (fun gg s8 s29 wr => ∃ (jj : Nat) (m : Int), jj ≤ y.f1.length ∧ y.f1.length - jj ≤ gg ∧ s29 = .int .i64 jj ∧ s8 = .int .i64 m ∧ Aside0 (sumL [v0, v1, v2, v3, v4, v5] y.f1 0 = sumL [v0, v1, v2, v3, v4, v5] (y.f1.drop jj) m) ∧ Aside0 (wr.heap[gb]? = some (.cells #[.int .i64 a0, .int .i64 a1, .slice (some ad) l.length c] 30 (0, 0))) ∧ Aside0 (wr.heap[gr]? = some (.cells #[.int .i64 0, .int .i64 0, .int .i64 0, .int .i64 0, .int .i64 0, .int .i64 0] 49 (0, 0))) ∧ Aside0 (wr.heap[gs]? = some (.cells #[.int .i64 v0, .int .i64 v1, .int .i64 v2, .int .i64 v3, .int .i64 v4, .int .i64 v5] 49 (0, 0))) ∧ Aside0 (wr.heap[gc]? = some (.cells #[.int .i64 y.f0, .slice A1 y.f1.length c1] 47 (0, 0))) ∧ Aside0 (Below w.heap.size w wr))
              case atStart => exact ⟨0, 0, Nat.zero_le _, by omega, rfl, rfl, SQ, B_gb, B_gr, B_gs, B_gc, HB⟩
              case round =>
                clear B_gb B_gr B_gs B_gc HB SQ x_gc_0 x_gc_1
                obtain ⟨jj, m, hjj, hg2, rfl, rfl, SQ, B_gb, B_gr, B_gs, B_gc, HB⟩ := hrel
                by_cases hlt2 : jj < y.f1.length
                · have hd2 : decide (jj < y.f1.length) = true := decide_eq_true hlt2
                  obtain ⟨ay, e, hy9⟩ := Kd.at_int HI.out (jj : Int) (by omega) (by omega)
                  subst e
                  have hy8 : wr.cell? (ay.add jj) = some (.int .i64 (rd y.f1 jj)) := (HB.out.cell (World.block_lt_of_cell? w _ (by simpa using hy9))).trans (by simpa using hy9)
                  have L2 := Aside0.mk hlt2
                  have hx6 := OK.out.2 jj hlt2
                  clear hy9
                  have SD := Aside0.mk (show sumL [v0, v1, v2, v3, v4, v5] (y.f1.drop jj) m = sumL [v0, v1, v2, v3, v4, v5] (y.f1.drop (jj + 1)) (stepS [v0, v1, v2, v3, v4, v5] m (rd y.f1 jj)) by rw [getD_drop y.f1 jj 0 hlt2]; rfl)
                  generalize rd y.f1 jj = x at hy8 hx6 SD
                  have SE := Aside0.mk (show stepS [v0, v1, v2, v3, v4, v5] m x = if m < 0 then m else if x < 0 then wrap64 (m + 1) else if [v0, v1, v2, v3, v4, v5].getD x.toNat 0 < 0 then -1 else wrap64 (m + [v0, v1, v2, v3, v4, v5].getD x.toNat 0) from rfl)
                  by_cases c1_ : m < 0
                  · have e1 : decide (m < 0) = true := decide_eq_true c1_
                    have SN := Aside0.mk (show sumL [v0, v1, v2, v3, v4, v5] y.f1 0 = sumL [v0, v1, v2, v3, v4, v5] (y.f1.drop (jj + 1)) m by rw [SQ.out, SD.out, SE.out, if_pos c1_])
                    clear SE
                    go_wp2
                    go_roundg (y.f1.length - (jj + 1))
                    case measure => have := L2.out; omega
                    case rel => exact ⟨jj + 1, _, by have := L2.out; omega, by omega, by go_num, rfl, SN, B_gb, B_gr, B_gs, B_gc, HB⟩
                  · have e1 : decide (m < 0) = false := decide_eq_false c1_
                    by_cases c2_ : x < 0
                    · have e2 : decide (x < 0) = true := decide_eq_true c2_
                      have SN := Aside0.mk (show sumL [v0, v1, v2, v3, v4, v5] y.f1 0 = sumL [v0, v1, v2, v3, v4, v5] (y.f1.drop (jj + 1)) (wrap64 (m + 1)) by rw [SQ.out, SD.out, SE.out, if_neg c1_, if_pos c2_])
                      clear SE
                      go_wp2
                      go_roundg (y.f1.length - (jj + 1))
                      case measure => have := L2.out; omega
                      case rel => exact ⟨jj + 1, _, by have := L2.out; omega, by omega, by go_num, rfl, SN, B_gb, B_gr, B_gs, B_gc, HB⟩
                    · have e2 : decide (x < 0) = false := decide_eq_false c2_
                      have h0x : 0 ≤ x := by omega
                      have hxn : x.toNat < 6 := by omega
                      have hcx : wr.cell? ⟨gs, x.toNat, none⟩ = some (.int .i64 ([v0, v1, v2, v3, v4, v5].getD x.toNat 0)) := (blk_cell B_gs.out x.toNat).trans (ints_get6 v0 v1 v2 v3 v4 v5 x.toNat hxn)
                      generalize [v0, v1, v2, v3, v4, v5].getD x.toNat 0 = z at hcx SE
                      by_cases c3_ : z < 0
                      · have e3 : decide (z < 0) = true := decide_eq_true c3_
                        have SN := Aside0.mk (show sumL [v0, v1, v2, v3, v4, v5] y.f1 0 = sumL [v0, v1, v2, v3, v4, v5] (y.f1.drop (jj + 1)) (-1) by rw [SQ.out, SD.out, SE.out, if_neg c1_, if_neg c2_, if_pos c3_])
                        clear SE
                        go_wp2
                        go_roundg (y.f1.length - (jj + 1))
                        case measure => have := L2.out; omega
                        case rel => exact ⟨jj + 1, _, by have := L2.out; omega, by omega, by go_num, rfl, SN, B_gb, B_gr, B_gs, B_gc, HB⟩
                      · have e3 : decide (z < 0) = false := decide_eq_false c3_
                        have SN := Aside0.mk (show sumL [v0, v1, v2, v3, v4, v5] y.f1 0 = sumL [v0, v1, v2, v3, v4, v5] (y.f1.drop (jj + 1)) (wrap64 (m + z)) by rw [SQ.out, SD.out, SE.out, if_neg c1_, if_neg c2_, if_neg c3_])
                        clear SE
                        go_wp2
                        go_roundg (y.f1.length - (jj + 1))
                        case measure => have := L2.out; omega
                        case rel => exact ⟨jj + 1, _, by have := L2.out; omega, by omega, by go_num, rfl, SN, B_gb, B_gr, B_gs, B_gc, HB⟩
                · have hd2 : decide (jj < y.f1.length) = false := decide_eq_false hlt2
                  have SF := Aside0.mk (show sumL [v0, v1, v2, v3, v4, v5] y.f1 0 = m by rw [SQ.out, List.drop_of_length_le (show y.f1.length ≤ jj by omega)]; rfl)
                  have EL := Aside0.mk (show stepL y ([v0, v1, v2, v3, v4, v5], ag) = if (decide (0 ≤ m) && (decide ([v0, v1, v2, v3, v4, v5].getD y.f0.toNat 0 < 0) || decide (m < [v0, v1, v2, v3, v4, v5].getD y.f0.toNat 0))) = true then ([v0, v1, v2, v3, v4, v5].set y.f0.toNat m, true) else ([v0, v1, v2, v3, v4, v5], ag) by rw [← SF.out]; rfl)
                  clear hlt2 SQ
                  have x_gc_0 : wr.cell? ⟨gc, 0, none⟩ = some (.int .i64 y.f0) := (blk_cell B_gc.out 0).trans rfl
                  have x_gc_1 : wr.cell? ⟨gc, 1, none⟩ = some (.slice A1 y.f1.length c1) := (blk_cell B_gc.out 1).trans rfl
                  have hcf : wr.cell? ⟨gs, y.f0.toNat, none⟩ = some (.int .i64 ([v0, v1, v2, v3, v4, v5].getD y.f0.toNat 0)) := (blk_cell B_gs.out y.f0.toNat).trans (ints_get6 v0 v1 v2 v3 v4 v5 y.f0.toNat hyn)
                  have hff := blk_frozen B_gs.out y.f0.toNat
                  generalize hz_ : [v0, v1, v2, v3, v4, v5].getD y.f0.toNat 0 = z at hcf EL
                  clear hz_
                  by_cases c1_ : 0 ≤ m
                  · have e1 : decide (0 ≤ m) = true := decide_eq_true c1_
                    by_cases c2_ : z < 0
                    · have e2 : decide (z < 0) = true := decide_eq_true c2_
                      obtain ⟨d0, d1, d2, d3, d4, d5, hset⟩ := sixI ([v0, v1, v2, v3, v4, v5].set y.f0.toNat m) (by rw [List.length_set]; rfl)
                      have ST := Aside0.mk hset
                      have PN := Aside0.mk (show passL l (s0, false) = passL (l.drop (kk + 1)) ([d0, d1, d2, d3, d4, d5], true) by rw [PQ.out, PD.out, EL.out, if_pos (by simp [*]; try omega), hset])
                      clear hset EL
                      go_wp2
                      obtain ⟨w8, hw_⟩ : ∃ w_ : World, w_ = (wr.setCell ⟨gs, y.f0.toNat, none⟩ (.int .i64 m)) := ⟨_, rfl⟩
                      rw [← hw_]
                      clear x_gc_0 x_gc_1
                      have m0_ := Aside0.mk (show Below w.heap.size w w8 by rw [hw_]; exact (below_set HB.out GE_gs.out))
                      have m_gb := Aside0.mk (show w8.heap[gb]? = some (.cells #[.int .i64 a0, .int .i64 a1, .slice (some ad) l.length c] 30 (0, 0)) by rw [hw_]; exact (blk_far B_gb.out NE_gb_gs.out _))
                      have m_gr := Aside0.mk (show w8.heap[gr]? = some (.cells #[.int .i64 0, .int .i64 0, .int .i64 0, .int .i64 0, .int .i64 0, .int .i64 0] 49 (0, 0)) by rw [hw_]; exact (blk_far B_gr.out NE_gr_gs.out _))
                      have m_gs := Aside0.mk (show w8.heap[gs]? = some (.cells #[.int .i64 d0, .int .i64 d1, .int .i64 d2, .int .i64 d3, .int .i64 d4, .int .i64 d5] 49 (0, 0)) by rw [hw_]; exact blk_put (cs := #[.int .i64 v0, .int .i64 v1, .int .i64 v2, .int .i64 v3, .int .i64 v4, .int .i64 v5]) B_gs.out y.f0.toNat _ (ints_set6 v0 v1 v2 v3 v4 v5 y.f0.toNat m d0 d1 d2 d3 d4 d5 ST.out))
                      have m_gc := Aside0.mk (show w8.heap[gc]? = some (.cells #[.int .i64 y.f0, .slice A1 y.f1.length c1] 47 (0, 0)) by rw [hw_]; exact (blk_far B_gc.out (Ne.symm NE_gs_gc.out) _))
                      clear HB hw_ B_gb B_gr B_gs B_gc
                      have HB := m0_
                      have B_gb := m_gb
                      have B_gr := m_gr
                      have B_gs := m_gs
                      have B_gc := m_gc
                      clear m0_ m_gb m_gr m_gs m_gc
                      go_roundg (l.length - (kk + 1))
                      case measure => have := L.out; omega
                      case rel => exact ⟨kk + 1, _, _, _, _, _, _, true, by have := L.out; omega, by omega, by go_num, rfl, PN, B_gb, B_gr, B_gs, HB⟩
                    · have e2 : decide (z < 0) = false := decide_eq_false c2_
                      by_cases c3_ : m < z
                      · have e3 : decide (m < z) = true := decide_eq_true c3_
                        obtain ⟨d0, d1, d2, d3, d4, d5, hset⟩ := sixI ([v0, v1, v2, v3, v4, v5].set y.f0.toNat m) (by rw [List.length_set]; rfl)
                        have ST := Aside0.mk hset
                        have PN := Aside0.mk (show passL l (s0, false) = passL (l.drop (kk + 1)) ([d0, d1, d2, d3, d4, d5], true) by rw [PQ.out, PD.out, EL.out, if_pos (by simp [*]; try omega), hset])
                        clear hset EL
                        go_wp2
                        obtain ⟨w8, hw_⟩ : ∃ w_ : World, w_ = (wr.setCell ⟨gs, y.f0.toNat, none⟩ (.int .i64 m)) := ⟨_, rfl⟩
                        rw [← hw_]
                        clear x_gc_0 x_gc_1
                        have m0_ := Aside0.mk (show Below w.heap.size w w8 by rw [hw_]; exact (below_set HB.out GE_gs.out))
                        have m_gb := Aside0.mk (show w8.heap[gb]? = some (.cells #[.int .i64 a0, .int .i64 a1, .slice (some ad) l.length c] 30 (0, 0)) by rw [hw_]; exact (blk_far B_gb.out NE_gb_gs.out _))
                        have m_gr := Aside0.mk (show w8.heap[gr]? = some (.cells #[.int .i64 0, .int .i64 0, .int .i64 0, .int .i64 0, .int .i64 0, .int .i64 0] 49 (0, 0)) by rw [hw_]; exact (blk_far B_gr.out NE_gr_gs.out _))
                        have m_gs := Aside0.mk (show w8.heap[gs]? = some (.cells #[.int .i64 d0, .int .i64 d1, .int .i64 d2, .int .i64 d3, .int .i64 d4, .int .i64 d5] 49 (0, 0)) by rw [hw_]; exact blk_put (cs := #[.int .i64 v0, .int .i64 v1, .int .i64 v2, .int .i64 v3, .int .i64 v4, .int .i64 v5]) B_gs.out y.f0.toNat _ (ints_set6 v0 v1 v2 v3 v4 v5 y.f0.toNat m d0 d1 d2 d3 d4 d5 ST.out))
                        have m_gc := Aside0.mk (show w8.heap[gc]? = some (.cells #[.int .i64 y.f0, .slice A1 y.f1.length c1] 47 (0, 0)) by rw [hw_]; exact (blk_far B_gc.out (Ne.symm NE_gs_gc.out) _))
                        clear HB hw_ B_gb B_gr B_gs B_gc
                        have HB := m0_
                        have B_gb := m_gb
                        have B_gr := m_gr
                        have B_gs := m_gs
                        have B_gc := m_gc
                        clear m0_ m_gb m_gr m_gs m_gc
                        go_roundg (l.length - (kk + 1))
                        case measure => have := L.out; omega
                        case rel => exact ⟨kk + 1, _, _, _, _, _, _, true, by have := L.out; omega, by omega, by go_num, rfl, PN, B_gb, B_gr, B_gs, HB⟩
                      · have e3 : decide (m < z) = false := decide_eq_false c3_
                        have PN := Aside0.mk (show passL l (s0, false) = passL (l.drop (kk + 1)) ([v0, v1, v2, v3, v4, v5], ag) by rw [PQ.out, PD.out, EL.out, if_neg (by simp [*]; try omega)])
                        clear EL
                        go_wp2
                        go_roundg (l.length - (kk + 1))
                        case measure => have := L.out; omega
                        case rel => exact ⟨kk + 1, _, _, _, _, _, _, ag, by have := L.out; omega, by omega, by go_num, rfl, PN, B_gb, B_gr, B_gs, HB⟩
                  · have e1 : decide (0 ≤ m) = false := decide_eq_false c1_
                    have PN := Aside0.mk (show passL l (s0, false) = passL (l.drop (kk + 1)) ([v0, v1, v2, v3, v4, v5], ag) by rw [PQ.out, PD.out, EL.out, if_neg (by simp [*]; try omega)])
                    clear EL
                    go_wp2
                    go_roundg (l.length - (kk + 1))
                    case measure => have := L.out; omega
                    case rel => exact ⟨kk + 1, _, _, _, _, _, _, ag, by have := L.out; omega, by omega, by go_num, rfl, PN, B_gb, B_gr, B_gs, HB⟩
            · have hd : decide (kk < l.length) = false := decide_eq_false hlt
              have PE := Aside0.mk (show passL l (s0, false) = ([v0, v1, v2, v3, v4, v5], ag) by rw [PQ.out, List.drop_of_length_le (by omega)]; rfl)
              clear hlt
              cases n with
              | zero => exact absurd CL.out (by unfold leastO; exact fun h => by cases h)
              | succ n =>
                have FN := Aside0.mk (show (if ag = true then leastO l n [v0, v1, v2, v3, v4, v5] else some [v0, v1, v2, v3, v4, v5]) = some R by rw [← CL.out]; show _ = (if (passL l (s0, false)).2 = true then leastO l n (passL l (s0, false)).1 else some (passL l (s0, false)).1); rw [PE.out])
                go_wp2
                go_roundg n
                case measure => omega
                case rel => exact ⟨n, _, _, _, _, _, _, ag, rfl, Nat.le_refl _, ⟨fun h => by have := FN.out; rw [if_pos h] at this; exact this⟩, ⟨fun h => by have := FN.out; rw [if_neg (by rw [h]; exact Bool.false_ne_true)] at this; exact Option.some.inj this⟩, B_gb, B_gr, B_gs, HB⟩
theorem leastO_mono (l : List S47) : ∀ n s, LeO (leastO l n s) (leastO l (n + 1) s)
  | 0, s => LeO.none _
  | n + 1, s => by
    show LeO (if (passL l (s, false)).2 = true then leastO l n (passL l (s, false)).1 else some (passL l (s, false)).1) (if (passL l (s, false)).2 = true then leastO l (n + 1) (passL l (s, false)).1 else some (passL l (s, false)).1)
    exact LeO.ite (leastO_mono l n _) (LeO.refl _)
def impl_LeastLong.f (k : Nat) (a0_0 a0_1 : Int) (l0_2 : List S47) : Option (Int × Bool) := if goodG a0_0 a0_1 l0_2 = true then (leastO l0_2 k [-1, -1, -1, -1, -1, -1]).bind (fun R => some (if R.getD 0 0 < 0 then (0, false) else (R.getD 0 0, true))) else some (0, false)
theorem impl_LeastLong.mono : ∀ a0 a1 a2 k, LeO (impl_LeastLong.f k a0 a1 a2) (impl_LeastLong.f (k + 1) a0 a1 a2) := fun a0 a1 a2 k => by
  unfold impl_LeastLong.f
  exact LeO.ite (LeO.bind (leastO_mono a2 k _) (fun _ => LeO.refl _)) (LeO.refl _)
set_option maxHeartbeats 2000000 in
theorem impl_LeastLong.calls (k : Nat) (a0_0 a0_1 : Int) (A0_2 : Option Addr) (c0_2 : Nat) (l0_2 : List S47) (r1 : Int) (r2 : Bool) (w : World) (hr0_2 : Kd.C k47 w A0_2 l0_2.length l0_2) (hc0_2 : l0_2.length ≤ c0_2) (h : impl_LeastLong.f k a0_0 a0_1 l0_2 = some (r1, r2)) :
    Calls Try.prog 14 #[.agg #[.int .i64 a0_0, .int .i64 a0_1, .slice A0_2 l0_2.length c0_2]] w fun e w' => e = .returned (.tuple #[.int .i64 r1, .bool r2]) ∧ Below w.heap.size w w' := by
  have hu := Try.underlying30
  have CI := fun (W : World) (hW : Below w.heap.size w W) => impl_isGrammar.calls a0_0 a0_1 A0_2 c0_2 l0_2 (goodG a0_0 a0_1 l0_2) W (Kd.C_below hr0_2 hW) hc0_2 rfl
  have HB := Aside0.mk (Below.refl w.heap.size w)
  have tok1 : True := trivial
  cases hg : goodG a0_0 a0_1 l0_2 with
  | true =>
    rw [hg] at CI
    unfold impl_LeastLong.f at h
    rw [hg, if_pos rfl] at h
    obtain ⟨R, hR, h2⟩ := Option.bind_eq_some_iff.mp h
    have CN := fun (W : World) (hW : Below w.heap.size w W) => leastLong_calls k R a0_0 a0_1 A0_2 c0_2 l0_2 W (Kd.C_below hr0_2 hW) hc0_2 (fun j hj => goodG_okR6 hg j hj) hR
    have H2 := Aside0.mk (Option.some.inj h2)
    clear h h2 hR hr0_2
    go_enter Try.func14, Try.ntmps14
    go_upto_region 4 with (first | ((with_reducible refine gate_dst (N := 1) rfl ?_); refine box_event ?hg (N := 1) ?hd (cs := #[.int .i64 a0_0, .int .i64 a0_1, .slice A0_2 l0_2.length c0_2]) (t := 30) ?hr ?_; (case hd => rfl); (case hg => rfl); (case hr => first | (go_simp; done) | (go_simp; rfl)); intro gb hg_ w1 hbox_ hb_; have GE_gb := Aside0.mk (show w.heap.size ≤ gb by rw [hg_]; exact below_size (by repeat (first | (with_reducible first | exact HB.out | apply below_alloc | apply pw_below_drewN | apply below_drew1) | exact HB.out))); have n0_ := Aside0.mk (below_step (by repeat (first | (with_reducible first | exact HB.out | apply below_alloc | apply pw_below_drewN | apply below_drew1) | exact HB.out)) hb_); clear HB; have HB := n0_; clear n0_; have B_gb := Aside0.mk hbox_; clear hb_ hbox_ hg_; have x_gb_0 : w1.cell? ⟨gb, 0, none⟩ = some (.int .i64 a0_0) := (blk_cell B_gb.out 0).trans rfl; have x_gb_1 : w1.cell? ⟨gb, 1, none⟩ = some (.int .i64 a0_1) := (blk_cell B_gb.out 1).trans rfl; have x_gb_2 : w1.cell? ⟨gb, 2, none⟩ = some (.slice A0_2 l0_2.length c0_2) := (blk_cell B_gb.out 2).trans rfl) | (have _t := tok1; go_at_call 38; (with_reducible refine (CI _ HB.out).mono ?_); rintro e w2 ⟨rfl, hb_⟩; clear x_gb_0 x_gb_1 x_gb_2; have n0_ := Aside0.mk (below_step (by repeat (first | (with_reducible first | exact HB.out | apply below_alloc | apply pw_below_drewN | apply below_drew1) | exact HB.out)) hb_); have n_gb := Aside0.mk (blk_below (by (with_reducible repeat (first | refine blk_drewN ?_ _ | refine blk_drew ?_ | refine blk_alloc ?_ _)); exact B_gb.out) hb_); clear HB B_gb; have HB := n0_; have B_gb := n_gb; clear n0_ n_gb; clear hb_; have x_gb_0 : w2.cell? ⟨gb, 0, none⟩ = some (.int .i64 a0_0) := (blk_cell B_gb.out 0).trans rfl; have x_gb_1 : w2.cell? ⟨gb, 1, none⟩ = some (.int .i64 a0_1) := (blk_cell B_gb.out 1).trans rfl; have x_gb_2 : w2.cell? ⟨gb, 2, none⟩ = some (.slice A0_2 l0_2.length c0_2) := (blk_cell B_gb.out 2).trans rfl; clear CI tok1) | (go_at_call 39; (with_reducible refine (CN _ HB.out).mono ?_); rintro e w3 ⟨⟨v0, v1, v2, v3, v4, v5, rfl, hF⟩, hb_⟩; clear x_gb_0 x_gb_1 x_gb_2; have n0_ := Aside0.mk (below_step (by repeat (first | (with_reducible first | exact HB.out | apply below_alloc | apply pw_below_drewN | apply below_drew1) | exact HB.out)) hb_); have n_gb := Aside0.mk (blk_below (by (with_reducible repeat (first | refine blk_drewN ?_ _ | refine blk_drew ?_ | refine blk_alloc ?_ _)); exact B_gb.out) hb_); clear HB B_gb; have HB := n0_; have B_gb := n_gb; clear n0_ n_gb; clear hb_; have FF := Aside0.mk hF; clear hF CN) | ((with_reducible refine gate_dst (N := 4) rfl ?_); refine box_event ?hg (N := 4) ?hd (cs := #[.int .i64 0, .int .i64 0, .int .i64 0, .int .i64 0, .int .i64 0, .int .i64 0]) (t := 49) ?hr ?_; (case hd => rfl); (case hg => rfl); (case hr => first | (go_simp; done) | (go_simp; rfl)); intro gl hg_ w4 hbox_ hb_; have GE_gl := Aside0.mk (show w.heap.size ≤ gl by rw [hg_]; exact below_size (by repeat (first | (with_reducible first | exact HB.out | apply below_alloc | apply pw_below_drewN | apply below_drew1) | exact HB.out))); have NE_gb_gl := Aside0.mk (show gb ≠ gl by rw [hg_]; exact Nat.ne_of_lt (blk_lt (by (with_reducible repeat (first | refine blk_drewN ?_ _ | refine blk_drew ?_ | refine blk_alloc ?_ _)); exact B_gb.out))); have n0_ := Aside0.mk (below_step (by repeat (first | (with_reducible first | exact HB.out | apply below_alloc | apply pw_below_drewN | apply below_drew1) | exact HB.out)) hb_); have n_gb := Aside0.mk (blk_below (by (with_reducible repeat (first | refine blk_drewN ?_ _ | refine blk_drew ?_ | refine blk_alloc ?_ _)); exact B_gb.out) hb_); clear HB B_gb; have HB := n0_; have B_gb := n_gb; clear n0_ n_gb; have B_gl := Aside0.mk hbox_; clear hb_ hbox_ hg_; have x_gl_0 : w4.cell? ⟨gl, 0, none⟩ = some (.int .i64 0) := (blk_cell B_gl.out 0).trans rfl; have f_gl_0 := blk_frozen B_gl.out 0; have x_gl_1 : w4.cell? ⟨gl, 1, none⟩ = some (.int .i64 0) := (blk_cell B_gl.out 1).trans rfl; have f_gl_1 := blk_frozen B_gl.out 1; have x_gl_2 : w4.cell? ⟨gl, 2, none⟩ = some (.int .i64 0) := (blk_cell B_gl.out 2).trans rfl; have f_gl_2 := blk_frozen B_gl.out 2; have x_gl_3 : w4.cell? ⟨gl, 3, none⟩ = some (.int .i64 0) := (blk_cell B_gl.out 3).trans rfl; have f_gl_3 := blk_frozen B_gl.out 3; have x_gl_4 : w4.cell? ⟨gl, 4, none⟩ = some (.int .i64 0) := (blk_cell B_gl.out 4).trans rfl; have f_gl_4 := blk_frozen B_gl.out 4; have x_gl_5 : w4.cell? ⟨gl, 5, none⟩ = some (.int .i64 0) := (blk_cell B_gl.out 5).trans rfl; have f_gl_5 := blk_frozen B_gl.out 5))
    obtain ⟨w5, hw_⟩ : ∃ w_ : World, w_ = ((((((w4.setCell ⟨gl, 0, none⟩ (.int .i64 v0)).setCell ⟨gl, 1, none⟩ (.int .i64 v1)).setCell ⟨gl, 2, none⟩ (.int .i64 v2)).setCell ⟨gl, 3, none⟩ (.int .i64 v3)).setCell ⟨gl, 4, none⟩ (.int .i64 v4)).setCell ⟨gl, 5, none⟩ (.int .i64 v5)) := ⟨_, rfl⟩
    rw [← hw_]
    clear x_gl_0 f_gl_0 x_gl_1 f_gl_1 x_gl_2 f_gl_2 x_gl_3 f_gl_3 x_gl_4 f_gl_4 x_gl_5 f_gl_5
    have m0_ := Aside0.mk (show Below w.heap.size w w5 by rw [hw_]; exact (below_set (below_set (below_set (below_set (below_set (below_set HB.out GE_gl.out) GE_gl.out) GE_gl.out) GE_gl.out) GE_gl.out) GE_gl.out))
    have m_gb := Aside0.mk (show w5.heap[gb]? = some (.cells #[.int .i64 a0_0, .int .i64 a0_1, .slice A0_2 l0_2.length c0_2] 30 (0, 0)) by rw [hw_]; exact (blk_far (blk_far (blk_far (blk_far (blk_far (blk_far B_gb.out NE_gb_gl.out _) NE_gb_gl.out _) NE_gb_gl.out _) NE_gb_gl.out _) NE_gb_gl.out _) NE_gb_gl.out _))
    have m_gl := Aside0.mk (show w5.heap[gl]? = some (.cells #[.int .i64 v0, .int .i64 v1, .int .i64 v2, .int .i64 v3, .int .i64 v4, .int .i64 v5] 49 (0, 0)) by rw [hw_]; exact (blk_put (cs := #[.int .i64 v0, .int .i64 v1, .int .i64 v2, .int .i64 v3, .int .i64 v4, .int .i64 0]) (blk_put (cs := #[.int .i64 v0, .int .i64 v1, .int .i64 v2, .int .i64 v3, .int .i64 0, .int .i64 0]) (blk_put (cs := #[.int .i64 v0, .int .i64 v1, .int .i64 v2, .int .i64 0, .int .i64 0, .int .i64 0]) (blk_put (cs := #[.int .i64 v0, .int .i64 v1, .int .i64 0, .int .i64 0, .int .i64 0, .int .i64 0]) (blk_put (cs := #[.int .i64 v0, .int .i64 0, .int .i64 0, .int .i64 0, .int .i64 0, .int .i64 0]) (blk_put (cs := #[.int .i64 0, .int .i64 0, .int .i64 0, .int .i64 0, .int .i64 0, .int .i64 0]) B_gl.out 0 _ rfl) 1 _ rfl) 2 _ rfl) 3 _ rfl) 4 _ rfl) 5 _ rfl))
    clear HB hw_ B_gb B_gl
    have HB := m0_
    have B_gb := m_gb
    have B_gl := m_gl
    clear m0_ m_gb m_gl
    have x_gl_0 : w5.cell? ⟨gl, 0, none⟩ = some (.int .i64 v0) := (blk_cell B_gl.out 0).trans rfl
    have x_gl_1 : w5.cell? ⟨gl, 1, none⟩ = some (.int .i64 v1) := (blk_cell B_gl.out 1).trans rfl
    have x_gl_2 : w5.cell? ⟨gl, 2, none⟩ = some (.int .i64 v2) := (blk_cell B_gl.out 2).trans rfl
    have x_gl_3 : w5.cell? ⟨gl, 3, none⟩ = some (.int .i64 v3) := (blk_cell B_gl.out 3).trans rfl
    have x_gl_4 : w5.cell? ⟨gl, 4, none⟩ = some (.int .i64 v4) := (blk_cell B_gl.out 4).trans rfl
    have x_gl_5 : w5.cell? ⟨gl, 5, none⟩ = some (.int .i64 v5) := (blk_cell B_gl.out 5).trans rfl
    have H3 := Aside0.mk (show (if v0 < 0 then ((0 : Int), false) else (v0, true)) = (r1, r2) by rw [← H2.out, FF.out]; rfl)
    by_cases h0 : v0 < 0
    · have d0 : decide (v0 < 0) = true := decide_eq_true h0
      have e := H3.out
      rw [if_pos h0] at e
      obtain ⟨e1, e2⟩ := Prod.mk.inj e
      subst e1 e2
      clear e h0
      go_wp2
      go_ret2
      exact ⟨rfl, HB.out⟩
    · have d0 : decide (v0 < 0) = false := decide_eq_false h0
      have e := H3.out
      rw [if_neg h0] at e
      obtain ⟨e1, e2⟩ := Prod.mk.inj e
      subst e1 e2
      clear e h0
      go_wp2
      go_ret2
      exact ⟨rfl, HB.out⟩
  | false =>
    rw [hg] at CI
    have hf : ((0 : Int), false) = (r1, r2) := by unfold impl_LeastLong.f at h; rw [hg, if_neg (by decide)] at h; exact Option.some.inj h
    obtain ⟨e1, e2⟩ := Prod.mk.inj hf
    subst e1 e2
    clear h hf hr0_2
    go_enter Try.func14, Try.ntmps14
    go_wp2_with (first | ((with_reducible refine gate_dst (N := 1) rfl ?_); refine box_event ?hg (N := 1) ?hd (cs := #[.int .i64 a0_0, .int .i64 a0_1, .slice A0_2 l0_2.length c0_2]) (t := 30) ?hr ?_; (case hd => rfl); (case hg => rfl); (case hr => first | (go_simp; done) | (go_simp; rfl)); intro gb hg_ w1 hbox_ hb_; have GE_gb := Aside0.mk (show w.heap.size ≤ gb by rw [hg_]; exact below_size (by repeat (first | (with_reducible first | exact HB.out | apply below_alloc | apply pw_below_drewN | apply below_drew1) | exact HB.out))); have n0_ := Aside0.mk (below_step (by repeat (first | (with_reducible first | exact HB.out | apply below_alloc | apply pw_below_drewN | apply below_drew1) | exact HB.out)) hb_); clear HB; have HB := n0_; clear n0_; have B_gb := Aside0.mk hbox_; clear hb_ hbox_ hg_; have x_gb_0 : w1.cell? ⟨gb, 0, none⟩ = some (.int .i64 a0_0) := (blk_cell B_gb.out 0).trans rfl; have x_gb_1 : w1.cell? ⟨gb, 1, none⟩ = some (.int .i64 a0_1) := (blk_cell B_gb.out 1).trans rfl; have x_gb_2 : w1.cell? ⟨gb, 2, none⟩ = some (.slice A0_2 l0_2.length c0_2) := (blk_cell B_gb.out 2).trans rfl) | (have _t := tok1; go_at_call 38; (with_reducible refine (CI _ HB.out).mono ?_); rintro e w2 ⟨rfl, hb_⟩; clear x_gb_0 x_gb_1 x_gb_2; have n0_ := Aside0.mk (below_step (by repeat (first | (with_reducible first | exact HB.out | apply below_alloc | apply pw_below_drewN | apply below_drew1) | exact HB.out)) hb_); have n_gb := Aside0.mk (blk_below (by (with_reducible repeat (first | refine blk_drewN ?_ _ | refine blk_drew ?_ | refine blk_alloc ?_ _)); exact B_gb.out) hb_); clear HB B_gb; have HB := n0_; have B_gb := n_gb; clear n0_ n_gb; clear hb_; have x_gb_0 : w2.cell? ⟨gb, 0, none⟩ = some (.int .i64 a0_0) := (blk_cell B_gb.out 0).trans rfl; have x_gb_1 : w2.cell? ⟨gb, 1, none⟩ = some (.int .i64 a0_1) := (blk_cell B_gb.out 1).trans rfl; have x_gb_2 : w2.cell? ⟨gb, 2, none⟩ = some (.slice A0_2 l0_2.length c0_2) := (blk_cell B_gb.out 2).trans rfl; clear CI tok1))
    go_ret2
    exact ⟨rfl, HB.out⟩
end Go.Proofs.Ytohbdjdjjbieeaa.P

