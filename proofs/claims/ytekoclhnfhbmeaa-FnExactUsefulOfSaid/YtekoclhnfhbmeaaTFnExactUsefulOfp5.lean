/- A part of the proof of the law FnExactUsefulOf (words of the print and texts of this session, without what this law does not use). -/
import Derived.Below
import Derived.Deep.Draws
import Derived.Deep.AppendLies
import Derived.Maps.AppendAt
import Derived.OwnWalk
import Derived.Laws.BytesArg
import Derived.Laws.MakeOwn
import Derived.Laws.OwnMore
import Derived.Deep.OwnRows
import Derived.Tactics
import Derived.Lib.ConvBytes
import Derived.Laws.Slices
import Derived.WalkKit
import Derived.KernelRfl
import Derived.RowKit3
import Derived.Deep.LoopGhost
import Derived.Deep.QuietTactic
import Derived.BigQuiet
import Derived.WideLaws
import Derived.Deep.DeepCutAuto
import Derived.Deep.CutBlock
import Derived.Deep.RegionHeld3
import Derived.Laws.Rows
import Derived.Lib.AppendStr
import Derived.ArgAppend
import Derived.Laws.IdiomCopy
import Derived.RowKit
import Derived.OrdersHeld
import Derived.Laws.BitsLemmas
import Derived.Laws.StructEq
import Derived.Test.YtekoclhnfhbmeaaProg
import Derived.Shelf.Abstract
import Derived.Lib.SliceRun
import Derived.Orders
import Derived.DataReads
import Derived.Deep.Slices
import Derived.OpenShut
import Derived.Test.YtekoclhnfhbmeaaRows
import Derived.ProofKit
import Derived.ShutString
import Derived.ChangeOld
import Derived.SizedLaws
import Derived.Test.YtekoclhnfhbmeaaTFnExactUsefulOfp4
namespace Go.Proofs.Ytekoclhnfhbmeaa.P
open Go.RowKit Go.Proofs.YtekoclhnfhbmeaaW.PrintWords Go.Proofs.YtekoclhnfhbmeaaW.PrintLast Go.Proofs.YtekoclhnfhbmeaaW.PrintMore
attribute [local go_sem] max2_int min2_int max_two min_two max_three min_three max_four min_four
set_option linter.unusedVariables false
set_option linter.unusedSimpArgs false
mutual
def spec_l3Growing.l0 : Nat → List Int → List Int → Bool → Int → Int → List (S87) → Option (List Int)
  | 0, _, _, _, _, _, _ => none
  | k + 1, x3, x4, x5, x102000, x102001, x102002 => if x5 = true then (spec_l3Growing.l1 k x3 x4 false x102002 (x102002.length : Int) 0 x102000 x102001 x102002) else (some x4)
def spec_l3Growing.l1 : Nat → List Int → List Int → Bool → List (S87) → Int → Int → Int → Int → List (S87) → Option (List Int)
  | 0, _, _, _, _, _, _, _, _, _ => none
  | k + 1, x3, x4, x5, x16, x17, x18, x102000, x102001, x102002 => if x18 < x17 then (if 0 ≤ x18 then (if x18 < (x16.length : Int) then (spec_l3Growing.l2 k x3 x4 x5 true false x16 x17 x18 ((rd_T87 x16 x18).f1) (((rd_T87 x16 x18).f1).length : Int) 0 x102000 x102001 x102002 ((rd_T87 x16 x18).f0) ((rd_T87 x16 x18).f1)) else (none)) else (none)) else (spec_l3Growing.l0 k x3 x4 x5 x102000 x102001 x102002)
def spec_l3Growing.l2 : Nat → List Int → List Int → Bool → Bool → Bool → List (S87) → Int → Int → List Int → Int → Int → Int → Int → List (S87) → Int → List Int → Option (List Int)
  | 0, _, _, _, _, _, _, _, _, _, _, _, _, _, _, _, _ => none
  | k + 1, x3, x4, x5, x8, x9, x16, x17, x18, x23, x24, x25, x102000, x102001, x102002, x107000, x107001 => if x25 < x24 then (if 0 ≤ x25 then (if x25 < (x23.length : Int) then (if x8 = true then (if (rd x23 x25) < 0 then (if x9 = true then (spec_l3Growing.l2 k x3 x4 x5 true true x16 x17 x18 x23 x24 (wrap64 (x25 + 1)) x102000 x102001 x102002 x107000 x107001) else (spec_l3Growing.l2 k x3 x4 x5 true true x16 x17 x18 x23 x24 (wrap64 (x25 + 1)) x102000 x102001 x102002 x107000 x107001)) else ((spec_l1Has.f k x3 (rd x23 x25)).bind fun t108 => (if x9 = true then (spec_l3Growing.l2 k x3 x4 x5 t108 true x16 x17 x18 x23 x24 (wrap64 (x25 + 1)) x102000 x102001 x102002 x107000 x107001) else ((spec_l1Has.f k x4 (rd x23 x25)).bind fun t109 => (spec_l3Growing.l2 k x3 x4 x5 t108 t109 x16 x17 x18 x23 x24 (wrap64 (x25 + 1)) x102000 x102001 x102002 x107000 x107001))))) else (if x9 = true then (spec_l3Growing.l2 k x3 x4 x5 false true x16 x17 x18 x23 x24 (wrap64 (x25 + 1)) x102000 x102001 x102002 x107000 x107001) else (if (rd x23 x25) < 0 then (spec_l3Growing.l2 k x3 x4 x5 false true x16 x17 x18 x23 x24 (wrap64 (x25 + 1)) x102000 x102001 x102002 x107000 x107001) else ((spec_l1Has.f k x4 (rd x23 x25)).bind fun t110 => (spec_l3Growing.l2 k x3 x4 x5 false t110 x16 x17 x18 x23 x24 (wrap64 (x25 + 1)) x102000 x102001 x102002 x107000 x107001))))) else (none)) else (none)) else (if x8 = true then (if x9 = true then ((spec_l1Has.f k x4 x107000).bind fun t111 => (if t111 = true then (spec_l3Growing.l1 k x3 x4 x5 x16 x17 (wrap64 (x18 + 1)) x102000 x102001 x102002) else ((spec_l1Put.f k x4 x107000).bind fun t112 => (spec_l3Growing.l1 k x3 t112 true x16 x17 (wrap64 (x18 + 1)) x102000 x102001 x102002)))) else (spec_l3Growing.l1 k x3 x4 x5 x16 x17 (wrap64 (x18 + 1)) x102000 x102001 x102002)) else (spec_l3Growing.l1 k x3 x4 x5 x16 x17 (wrap64 (x18 + 1)) x102000 x102001 x102002))
end
def spec_l3Growing.f (k : Nat) (a0_0 : Int) (a0_1 : Int) (l0_2 : List (S87)) : Option (List Int) := (spec_l3Close.f k a0_0 a0_1 l0_2 true).bind fun t102 => (spec_l3Growing.l0 k t102 ([] : List Int) true a0_0 a0_1 l0_2)
set_option maxHeartbeats 8000000 in
set_option maxRecDepth 100000 in
theorem spec_l3Growing.calls (k : Nat) (a0_0 : Int) (a0_1 : Int) (A0_2 : Option Addr) (c0_2 : Nat) (l0_2 : List (S87)) (r : List Int) (w : World) (hr0_2 : Kd.C k87 w A0_2 l0_2.length l0_2) (hc0_2 : l0_2.length ≤ c0_2) (h : spec_l3Growing.f k a0_0 a0_1 l0_2 = some r) :
    Calls Try.prog 127 #[.agg #[.int .i64 a0_0, .int .i64 a0_1, .slice A0_2 l0_2.length c0_2]] w fun e w' => ∃ v0_ : Value, e = .returned (v0_) ∧ Kd.R (Kd.int .i64) 3 w' w.heap.size (fun _ => True) v0_ r ∧ Below w.heap.size w w' := by
  have hu28 := Try.underlying28
  have hu87 := Try.underlying87
  have HR0_2 := Aside0.mk hr0_2
  have HC0_2 := Aside0.mk hc0_2
  clear hr0_2 hc0_2
  have HB := Aside0.mk (Below.refl w.heap.size w)
  have H : ((spec_l3Close.f k a0_0 a0_1 l0_2 true).bind fun t102 => (spec_l3Growing.l0 k t102 ([] : List Int) true a0_0 a0_1 l0_2)) = some r := h
  clear h
  replace H := Option.bind_eq_some_iff.mp H
  obtain ⟨t102, A20, H⟩ := H
  replace H : (spec_l3Growing.l0 k t102 ([] : List Int) true a0_0 a0_1 l0_2) = some r := H
  have A2 := Aside0.mk A20
  clear A20
  have H' := Aside0.mk H
  clear H
  go_enter Try.func127, Try.ntmps127
  go_wp2_with (first | ((with_reducible refine gate_dst (N := 1) rfl ?_); refine box_event ?hg (N := 1) ?hd (cs := #[.int .i64 a0_0, .int .i64 a0_1, .slice A0_2 l0_2.length c0_2]) (t := 28) ?hr ?_; (case hd => rfl); (case hg => rfl); (case hr => first | (go_simp; done) | (go_simp; rfl)); intro gb101 hg w3 hbox hb; have n0_ := Aside0.mk (below_step (by repeat (first | (with_reducible first | exact HB.out | apply below_alloc | apply pw_below_drewN | apply below_drew1) | exact HB.out)) hb); have n1_ := Aside0.mk (hbox); have n2_ := Aside0.mk ((by rw [hg]; exact (below_size (by repeat (first | (with_reducible first | exact HB.out | apply below_alloc | apply pw_below_drewN | apply below_drew1) | exact HB.out))) : w.heap.size ≤ gb101)); have n3_ := Aside0.mk ((by rw [hg]; exact (below_size (by repeat (first | (with_reducible first | exact HB.out | apply below_alloc | apply pw_below_drewN | apply below_drew1) | exact HB.out))) : w.heap.size ≤ gb101)); clear HB; have HB := n0_; have BK101 := n1_; have GW101 := n2_; have GE101 := n3_; clear n0_ n1_ n2_ n3_; clear hb hbox hg; have hcz4_0 : w3.cell? ⟨gb101, 0, none⟩ = some (.int .i64 a0_0) := (blk_cell BK101.out 0).trans rfl; have hcz4_1 : w3.cell? ⟨gb101, 1, none⟩ = some (.int .i64 a0_1) := (blk_cell BK101.out 1).trans rfl; have hcz4_2 : w3.cell? ⟨gb101, 2, none⟩ = some (.slice A0_2 l0_2.length c0_2) := (blk_cell BK101.out 2).trans rfl; have hfz4_0 := blk_frozen BK101.out 0; have hfz4_1 := blk_frozen BK101.out 1; have hfz4_2 := blk_frozen BK101.out 2) | ((with_reducible refine gate_callee (f := 91) rfl ?_); refine goesL_ (some 13) rfl rfl Try.func91 (by kernel_rfl) rfl #[.agg #[.int .i64 a0_0, .int .i64 a0_1, .slice A0_2 l0_2.length c0_2], .bool true] rfl (by (try simp only [List.map_toArray, List.map_cons, List.map_nil]); first | done | rfl | (simp only [List.length_drop, List.length_take]; rfl)) ?_; (with_reducible refine (spec_l3Close.calls k a0_0 a0_1 _ _ l0_2 true t102 _ ?side1 ?side2 A2.out).mono ?_); (case side1 => repeat (first | exact (Kd.C_below HR0_2.out HB.out) | (with_reducible refine Kd.C_alloc ?_ _) | (with_reducible refine Kd.C_drewN ?_ _) | (with_reducible refine Kd.C_drew ?_))); (case side2 => exact HC0_2.out); rintro e w5 ⟨v103, rfl, ho0, hb⟩; refine ⟨_, rfl, ?_⟩; have n0_ := Aside0.mk (Kd.R_lower ho0 (below_size (by repeat (first | (with_reducible first | exact HB.out | apply below_alloc | apply pw_below_drewN | apply below_drew1 | refine below_set ?_ GE101.out) | exact HB.out)))); have n1_ := Aside0.mk (blk_below (g := gb101) (o := .cells #[.int .i64 a0_0, .int .i64 a0_1, .slice A0_2 l0_2.length c0_2] 28 (0, 0)) (by (with_reducible repeat (first | refine blk_drewN ?_ _ | refine blk_drew ?_ | refine blk_alloc ?_ _)); exact BK101.out) hb); have n2_ := Aside0.mk (below_step (by repeat (first | (with_reducible first | exact HB.out | apply below_alloc | apply pw_below_drewN | apply below_drew1 | refine below_set ?_ GE101.out) | exact HB.out)) hb); clear BK101; clear HB; have HO104 := n0_; have BK101 := n1_; have HB := n2_; clear n0_ n1_ n2_; (try clear hb); (try clear hb2); (try clear hk); (try clear hi); (try clear ho0)))
  go_loopg [4, 5] k (fun kq v4 v5 w' => ∃ (x4_1 : List Int) (x5_1 : Bool), v5 = .bool x5_1 ∧ Aside0 (spec_l3Growing.l0 kq t102 x4_1 x5_1 a0_0 a0_1 l0_2 = some r) ∧ Aside0 (kq ≤ k) ∧ Aside0 (Kd.R (Kd.int .i64) 3 w' w.heap.size (fun k_ => some k_ ≠ (v4 : Value).ownBlock) v103 t102) ∧ Aside0 (Kd.R (Kd.int .i64) 3 w' w.heap.size (fun k_ => some k_ ≠ (v103 : Value).ownBlock) v4 x4_1) ∧ Aside0 (w'.heap[gb101]? = some (.cells #[.int .i64 a0_0, .int .i64 a0_1, (.slice A0_2 l0_2.length c0_2)] 28 (0, 0))) ∧ Aside0 (Below w.heap.size w w'))
  case atStart => exact ⟨(([] : List Int)), (true), (by first | rfl | (simp; done) | (simp [*]; done)), H', ⟨Nat.le_refl _⟩, ⟨by (with_reducible repeat (first | apply Kd.R_alloc | apply Kd.R_drewN | apply Kd.R_drew)); exact Kd.R_mono HO104.out (fun _ hk => (by simp [Value.ownBlock]))⟩, ⟨by first | exact Kd.R_nil _ _ _ _ _ | exact Kd.N_nil _ _ _ _ _ | exact Kd.V_nil _ _ _ _ _ | exact Kd.Q_nil _ _ _ _ _ | exact Kd.S_nil _ _ _ _ _⟩, ⟨by (with_reducible repeat (first | refine blk_drewN ?_ _ | refine blk_drew ?_ | refine blk_alloc ?_ _)); exact BK101.out⟩, ⟨by repeat (first | (with_reducible first | exact HB.out | apply below_alloc | apply pw_below_drewN | apply below_drew1 | refine below_set ?_ GE101.out) | exact HB.out)⟩⟩
  case round =>
    clear H'
    try clear c1
    try clear p2
    try clear hcz4_0
    try clear hcz4_1
    try clear hcz4_2
    try clear hfz4_0
    try clear hfz4_1
    try clear hfz4_2
    obtain ⟨x4_1, x5_1, rfl, HA, HK1, HO_3, HO_4, BK101, HB⟩ := hrel
    cases gk with
    | zero => exact absurd HA.out (by simp [spec_l3Growing.l0])
    | succ k1 =>
      have H := HA.out
      clear HA
      simp only [spec_l3Growing.l0] at H
      by_cases c6 : x5_1 = true
      · subst c6
        have H1 : (spec_l3Growing.l1 k1 t102 x4_1 false l0_2 (l0_2.length : Int) 0 a0_0 a0_1 l0_2) = some r := by rw [if_pos rfl] at H; exact H
        clear H
        have H := H1
        clear H1
        have H' := Aside0.mk H
        clear H
        have hcz7_0 : wr.cell? ⟨gb101, 0, none⟩ = some (.int .i64 a0_0) := (blk_cell BK101.out 0).trans rfl
        have hcz7_1 : wr.cell? ⟨gb101, 1, none⟩ = some (.int .i64 a0_1) := (blk_cell BK101.out 1).trans rfl
        have hcz7_2 : wr.cell? ⟨gb101, 2, none⟩ = some (.slice A0_2 l0_2.length c0_2) := (blk_cell BK101.out 2).trans rfl
        have hfz7_0 := blk_frozen BK101.out 0
        have hfz7_1 := blk_frozen BK101.out 1
        have hfz7_2 := blk_frozen BK101.out 2
        go_wp2
        go_loopg [4, 5, 18] k1 (fun kq v4 v5 v18 w' => ∃ (x4_2 : List Int) (x5_2 : Bool) (x18_2 : Int), v5 = .bool x5_2 ∧ v18 = .int .i64 x18_2 ∧ Aside0 (spec_l3Growing.l1 kq t102 x4_2 x5_2 l0_2 (l0_2.length : Int) x18_2 a0_0 a0_1 l0_2 = some r) ∧ Aside0 (kq ≤ k1) ∧ Aside0 (Kd.R (Kd.int .i64) 3 w' w.heap.size (fun k_ => some k_ ≠ (v4 : Value).ownBlock) v103 t102) ∧ Aside0 (Kd.R (Kd.int .i64) 3 w' w.heap.size (fun k_ => some k_ ≠ (v103 : Value).ownBlock) v4 x4_2) ∧ Aside0 (w'.heap[gb101]? = some (.cells #[.int .i64 a0_0, .int .i64 a0_1, (.slice A0_2 l0_2.length c0_2)] 28 (0, 0))) ∧ Aside0 (Below w.heap.size w w'))
        case atStart => exact ⟨(x4_1), (false), (0), (by first | rfl | (simp; done) | (simp [*]; done)), (by first | rfl | (simp; done) | (simp [*]; done)), H', ⟨Nat.le_refl _⟩, ⟨by (with_reducible repeat (first | apply Kd.R_alloc | apply Kd.R_drewN | apply Kd.R_drew)); exact HO_3.out⟩, ⟨by (with_reducible repeat (first | apply Kd.R_alloc | apply Kd.R_drewN | apply Kd.R_drew)); exact HO_4.out⟩, ⟨by (with_reducible repeat (first | refine blk_drewN ?_ _ | refine blk_drew ?_ | refine blk_alloc ?_ _)); exact BK101.out⟩, ⟨by repeat (first | (with_reducible first | exact HB.out | apply below_alloc | apply pw_below_drewN | apply below_drew1 | refine below_set ?_ GE101.out) | exact HB.out)⟩⟩
        case round =>
          clear H'
          try clear c1
          try clear p2
          try clear c6
          try clear hcz4_0
          try clear hcz4_1
          try clear hcz4_2
          try clear hcz7_0
          try clear hcz7_1
          try clear hcz7_2
          try clear hfz4_0
          try clear hfz4_1
          try clear hfz4_2
          try clear hfz7_0
          try clear hfz7_1
          try clear hfz7_2
          try clear p2
          obtain ⟨x4_2, x5_2, x18_2, rfl, rfl, HA, HK2, HO_3, HO_4, BK101, HB⟩ := hrel
          cases gk with
          | zero => exact absurd HA.out (by simp [spec_l3Growing.l1])
          | succ k2 =>
            have H := HA.out
            clear HA
            simp only [spec_l3Growing.l1] at H
            by_cases c8 : x18_2 < (l0_2.length : Int)
            · rw [if_pos c8] at H
              have c8b0 : decide (x18_2 < (l0_2.length : Int)) = true := decide_eq_true c8
              clear c8
              by_cases c9 : 0 ≤ x18_2
              · rw [if_pos c9] at H
                have c9b0 : decide (0 ≤ x18_2) = true := decide_eq_true c9
                clear c9
                by_cases c10 : x18_2 < (l0_2.length : Int)
                · rw [if_pos c10] at H
                  have c10b0 : decide (x18_2 < (l0_2.length : Int)) = true := decide_eq_true c10
                  clear c10
                  have H' := Aside0.mk H
                  clear H
                  have p105 : 0 ≤ (x18_2 : Int) := of_decide_eq_true (by first | (with_reducible assumption) | assumption)
                  have q105 : x18_2 < (l0_2.length : Int) := of_decide_eq_true (by first | (with_reducible assumption) | assumption)
                  obtain ⟨ad105, A105_1, c105_1, e105, hx105_0, hx105_1, hl105_1, hi105_1⟩ := at_T87 HR0_2.out x18_2 p105 q105
                  cases e105
                  replace hx105_0 := (HB.out.cell (World.block_lt_of_cell? w _ hx105_0)).trans hx105_0
                  replace hx105_1 := (HB.out.cell (World.block_lt_of_cell? w _ hx105_1)).trans hx105_1
                  have HR105_1 := Aside0.mk hi105_1
                  have HC105_1 := Aside0.mk hl105_1
                  clear hi105_1 hl105_1
                  replace p105 := eq_true p105
                  replace q105 := eq_true q105
                  go_wp2_with (first | ((with_reducible refine gate_dst (N := 7) rfl ?_); refine box_event ?hg (N := 7) ?hd (cs := #[.int .i64 0, .slice none 0 0]) (t := 87) ?hr ?_; (case hd => rfl); (case hg => rfl); (case hr => first | (go_simp; done) | (go_simp; rfl)); intro gb106 hg w11 hbox hb; have n0_ := Aside0.mk (Kd.R_below (by (with_reducible repeat (first | apply Kd.R_alloc | apply Kd.R_drewN | apply Kd.R_drew)); exact HO_3.out) hb); have n1_ := Aside0.mk (Kd.R_below (by (with_reducible repeat (first | apply Kd.R_alloc | apply Kd.R_drewN | apply Kd.R_drew)); exact HO_4.out) hb); have n2_ := Aside0.mk (blk_below (g := gb101) (o := .cells #[.int .i64 a0_0, .int .i64 a0_1, .slice (some ad105) l0_2.length c0_2] 28 (0, 0)) (by (with_reducible repeat (first | refine blk_drewN ?_ _ | refine blk_drew ?_ | refine blk_alloc ?_ _)); exact BK101.out) hb); have n3_ := Aside0.mk (below_step (by repeat (first | (with_reducible first | exact HB.out | apply below_alloc | apply pw_below_drewN | apply below_drew1 | refine below_set ?_ GE101.out) | exact HB.out)) hb); have n4_ := Aside0.mk (hbox); have n5_ := Aside0.mk ((by rw [hg]; exact (below_size (by repeat (first | (with_reducible first | exact HB.out | apply below_alloc | apply pw_below_drewN | apply below_drew1 | refine below_set ?_ GE101.out) | exact HB.out))) : w.heap.size ≤ gb106)); have n6_ := Aside0.mk ((by rw [hg]; exact (below_size (by repeat (first | (with_reducible first | exact HB.out | apply below_alloc | apply pw_below_drewN | apply below_drew1 | refine below_set ?_ GE101.out) | exact HB.out))) : w.heap.size ≤ gb106)); have n7_ := Aside0.mk ((by rw [hg]; exact Nat.ne_of_lt (blk_lt (g := gb101) (o := .cells #[.int .i64 a0_0, .int .i64 a0_1, .slice (some ad105) l0_2.length c0_2] 28 (0, 0)) (by (with_reducible repeat (first | refine blk_drewN ?_ _ | refine blk_drew ?_ | refine blk_alloc ?_ _)); exact BK101.out)) : gb101 ≠ gb106)); have n8_ := Aside0.mk ((by rw [hg]; exact Nat.ne_of_gt (blk_lt (g := gb101) (o := .cells #[.int .i64 a0_0, .int .i64 a0_1, .slice (some ad105) l0_2.length c0_2] 28 (0, 0)) (by (with_reducible repeat (first | refine blk_drewN ?_ _ | refine blk_drew ?_ | refine blk_alloc ?_ _)); exact BK101.out)) : gb106 ≠ gb101)); clear HO_3; clear HO_4; clear BK101; clear HB; have HO_3 := n0_; have HO_4 := n1_; have BK101 := n2_; have HB := n3_; have BK106 := n4_; have GW106 := n5_; have GE106 := n6_; have NB101_106 := n7_; have NB106_101 := n8_; clear n0_ n1_ n2_ n3_ n4_ n5_ n6_ n7_ n8_; clear hb hbox hg; have hnb12 := NB106_101.out; have hnc12 := NB101_106.out; have hcz13_0 : w11.cell? ⟨gb106, 0, none⟩ = some (.int .i64 0) := (blk_cell BK106.out 0).trans rfl; have hcz13_1 : w11.cell? ⟨gb106, 1, none⟩ = some (.slice none 0 0) := (blk_cell BK106.out 1).trans rfl; have hfz13_0 := blk_frozen BK106.out 0; have hfz13_1 := blk_frozen BK106.out 1))
                  go_loopg [8, 9, 25] k2 (fun kq v8 v9 v25 w' => ∃ (x8_3 : Bool) (x9_3 : Bool) (x25_3 : Int), v8 = .bool x8_3 ∧ v9 = .bool x9_3 ∧ v25 = .int .i64 x25_3 ∧ Aside0 (spec_l3Growing.l2 kq t102 x4_2 x5_2 x8_3 x9_3 l0_2 (l0_2.length : Int) x18_2 ((rd_T87 l0_2 x18_2).f1) (((rd_T87 l0_2 x18_2).f1).length : Int) x25_3 a0_0 a0_1 l0_2 ((rd_T87 l0_2 x18_2).f0) ((rd_T87 l0_2 x18_2).f1) = some r) ∧ Aside0 (kq ≤ k2) ∧ Aside0 (Kd.R (Kd.int .i64) 3 w' w.heap.size (fun k_ => some k_ ≠ (u4 : Value).ownBlock) v103 t102) ∧ Aside0 (Kd.R (Kd.int .i64) 3 w' w.heap.size (fun k_ => some k_ ≠ (v103 : Value).ownBlock) u4 x4_2) ∧ Aside0 (w'.heap[gb101]? = some (.cells #[.int .i64 a0_0, .int .i64 a0_1, (.slice (some ad105) l0_2.length c0_2)] 28 (0, 0))) ∧ Aside0 (w'.heap[gb106]? = some (.cells #[.int .i64 ((rd_T87 l0_2 x18_2).f0), (.slice A105_1 ((rd_T87 l0_2 x18_2).f1).length c105_1)] 87 (0, 0))) ∧ Aside0 (Below w.heap.size w w'))
                  case atStart => exact ⟨(true), (false), (0), (by first | rfl | (simp; done) | (simp [*]; done)), (by first | rfl | (simp; done) | (simp [*]; done)), (by first | rfl | (simp; done) | (simp [*]; done)), H', ⟨Nat.le_refl _⟩, ⟨by (with_reducible repeat (first | apply Kd.R_alloc | apply Kd.R_drewN | apply Kd.R_drew)); exact Kd.R_mono (Kd.R_far (p := ⟨gb106, 1, none⟩) (Kd.R_far (p := ⟨gb106, 0, none⟩) (Kd.R_types HO_3.out BK106.out (by decide)) (fun _ hk => hk.2) (.int .i64 ((rd_T87 l0_2 x18_2).f0))) (fun _ hk => hk.2) (.slice A105_1 ((rd_T87 l0_2 x18_2).f1).length c105_1)) (fun _ hk => hk.1)⟩, ⟨by (with_reducible repeat (first | apply Kd.R_alloc | apply Kd.R_drewN | apply Kd.R_drew)); exact Kd.R_mono (Kd.R_far (p := ⟨gb106, 1, none⟩) (Kd.R_far (p := ⟨gb106, 0, none⟩) (Kd.R_types HO_4.out BK106.out (by decide)) (fun _ hk => hk.2) (.int .i64 ((rd_T87 l0_2 x18_2).f0))) (fun _ hk => hk.2) (.slice A105_1 ((rd_T87 l0_2 x18_2).f1).length c105_1)) (fun _ hk => hk.1)⟩, ⟨by (with_reducible repeat (first | refine blk_drewN ?_ _ | refine blk_drew ?_ | refine blk_alloc ?_ _)); refine blk_far ?_ NB101_106.out _; (with_reducible repeat (first | refine blk_drewN ?_ _ | refine blk_drew ?_ | refine blk_alloc ?_ _)); refine blk_far ?_ NB101_106.out _; (with_reducible repeat (first | refine blk_drewN ?_ _ | refine blk_drew ?_ | refine blk_alloc ?_ _)); exact BK101.out⟩, ⟨by (with_reducible repeat (first | refine blk_drewN ?_ _ | refine blk_drew ?_ | refine blk_alloc ?_ _)); refine blk_put (cs := #[.int .i64 ((rd_T87 l0_2 x18_2).f0), .slice none 0 0]) ?_ 1 _ rfl; (with_reducible repeat (first | refine blk_drewN ?_ _ | refine blk_drew ?_ | refine blk_alloc ?_ _)); refine blk_put (cs := #[.int .i64 0, .slice none 0 0]) ?_ 0 _ rfl; (with_reducible repeat (first | refine blk_drewN ?_ _ | refine blk_drew ?_ | refine blk_alloc ?_ _)); exact BK106.out⟩, ⟨by repeat (first | (with_reducible first | exact HB.out | apply below_alloc | apply pw_below_drewN | apply below_drew1 | refine below_set ?_ GE101.out | refine below_set ?_ GE106.out) | exact HB.out)⟩⟩
                  case round =>
                    clear H'
                    try clear c1
                    try clear p1
                    try clear q1
                    try clear hx1
                    try clear p2
                    try clear c6
                    try clear c8
                    try clear c8b0
                    try clear c9
                    try clear c9b0
                    try clear c10
                    try clear c10b0
                    try clear p10
                    try clear q10
                    try clear hx10
                    try clear c12
                    try clear hcz13_0
                    try clear hcz13_1
                    try clear hcz4_0
                    try clear hcz4_1
                    try clear hcz4_2
                    try clear hcz7_0
                    try clear hcz7_1
                    try clear hcz7_2
                    try clear hfz13_0
                    try clear hfz13_1
                    try clear hfz4_0
                    try clear hfz4_1
                    try clear hfz4_2
                    try clear hfz7_0
                    try clear hfz7_1
                    try clear hfz7_2
                    try clear hx105_0
                    try clear hx105_1
                    try clear p105
                    try clear p2
                    try clear q105
                    obtain ⟨x8_3, x9_3, x25_3, rfl, rfl, rfl, HA, HK3, HO_3, HO_4, BK101, BK106, HB⟩ := hrel
                    cases gk with
                    | zero => exact absurd HA.out (by simp [spec_l3Growing.l2])
                    | succ k3 =>
                      have H := HA.out
                      clear HA
                      simp only [spec_l3Growing.l2] at H
                      by_cases c14 : x25_3 < (((rd_T87 l0_2 x18_2).f1).length : Int)
                      · rw [if_pos c14] at H
                        have c14b0 : decide (x25_3 < (((rd_T87 l0_2 x18_2).f1).length : Int)) = true := decide_eq_true c14
                        clear c14
                        by_cases c15 : 0 ≤ x25_3
                        · rw [if_pos c15] at H
                          have c15b0 : decide (0 ≤ x25_3) = true := decide_eq_true c15
                          clear c15
                          by_cases c16 : x25_3 < (((rd_T87 l0_2 x18_2).f1).length : Int)
                          · rw [if_pos c16] at H
                            have c16b0 : decide (x25_3 < (((rd_T87 l0_2 x18_2).f1).length : Int)) = true := decide_eq_true c16
                            clear c16
                            by_cases c17 : x8_3 = true
                            · subst c17
                              have H1 : (if (rd ((rd_T87 l0_2 x18_2).f1) x25_3) < 0 then (if x9_3 = true then (spec_l3Growing.l2 k3 t102 x4_2 x5_2 true true l0_2 (l0_2.length : Int) x18_2 ((rd_T87 l0_2 x18_2).f1) (((rd_T87 l0_2 x18_2).f1).length : Int) (wrap64 (x25_3 + 1)) a0_0 a0_1 l0_2 ((rd_T87 l0_2 x18_2).f0) ((rd_T87 l0_2 x18_2).f1)) else (spec_l3Growing.l2 k3 t102 x4_2 x5_2 true true l0_2 (l0_2.length : Int) x18_2 ((rd_T87 l0_2 x18_2).f1) (((rd_T87 l0_2 x18_2).f1).length : Int) (wrap64 (x25_3 + 1)) a0_0 a0_1 l0_2 ((rd_T87 l0_2 x18_2).f0) ((rd_T87 l0_2 x18_2).f1))) else ((spec_l1Has.f k3 t102 (rd ((rd_T87 l0_2 x18_2).f1) x25_3)).bind fun t108 => (if x9_3 = true then (spec_l3Growing.l2 k3 t102 x4_2 x5_2 t108 true l0_2 (l0_2.length : Int) x18_2 ((rd_T87 l0_2 x18_2).f1) (((rd_T87 l0_2 x18_2).f1).length : Int) (wrap64 (x25_3 + 1)) a0_0 a0_1 l0_2 ((rd_T87 l0_2 x18_2).f0) ((rd_T87 l0_2 x18_2).f1)) else ((spec_l1Has.f k3 x4_2 (rd ((rd_T87 l0_2 x18_2).f1) x25_3)).bind fun t109 => (spec_l3Growing.l2 k3 t102 x4_2 x5_2 t108 t109 l0_2 (l0_2.length : Int) x18_2 ((rd_T87 l0_2 x18_2).f1) (((rd_T87 l0_2 x18_2).f1).length : Int) (wrap64 (x25_3 + 1)) a0_0 a0_1 l0_2 ((rd_T87 l0_2 x18_2).f0) ((rd_T87 l0_2 x18_2).f1)))))) = some r := by rw [if_pos rfl] at H; exact H
                              clear H
                              have H := H1
                              clear H1
                              by_cases c18 : (rd ((rd_T87 l0_2 x18_2).f1) x25_3) < 0
                              · rw [if_pos c18] at H
                                have c18b0 : decide ((rd ((rd_T87 l0_2 x18_2).f1) x25_3) < 0) = true := decide_eq_true c18
                                clear c18
                                by_cases c19 : x9_3 = true
                                · subst c19
                                  have H1 : (spec_l3Growing.l2 k3 t102 x4_2 x5_2 true true l0_2 (l0_2.length : Int) x18_2 ((rd_T87 l0_2 x18_2).f1) (((rd_T87 l0_2 x18_2).f1).length : Int) (wrap64 (x25_3 + 1)) a0_0 a0_1 l0_2 ((rd_T87 l0_2 x18_2).f0) ((rd_T87 l0_2 x18_2).f1)) = some r := by rw [if_pos rfl] at H; exact H
                                  clear H
                                  have H := H1
                                  clear H1
                                  have H' := Aside0.mk H
                                  clear H
                                  have p107 : 0 ≤ (x25_3 : Int) := of_decide_eq_true (by first | (with_reducible assumption) | assumption)
                                  have q107 : x25_3 < (((rd_T87 l0_2 x18_2).f1).length : Int) := of_decide_eq_true (by first | (with_reducible assumption) | assumption)
                                  obtain ⟨ad107, e107, hx107_0⟩ := Kd.at_int HR105_1.out x25_3 p107 q107
                                  cases e107
                                  replace hx107_0 := (HB.out.cell (World.block_lt_of_cell? w _ hx107_0)).trans hx107_0
                                  replace p107 := eq_true p107
                                  replace q107 := eq_true q107
                                  go_wp2
                                  go_roundg k3
                                  case measure => have := HK1.out; have := HK2.out; have := HK3.out; omega
                                  case rel => exact ⟨(true), (true), (wrap64 (x25_3 + 1)), (by first | rfl | (simp; done) | (simp [*]; done)), (by first | rfl | (simp; done) | (simp [*]; done)), (by first | rfl | (simp; done) | (simp [*]; done)), H', ⟨by have := HK1.out; have := HK2.out; have := HK3.out; omega⟩, ⟨by (with_reducible repeat (first | apply Kd.R_alloc | apply Kd.R_drewN | apply Kd.R_drew)); exact HO_3.out⟩, ⟨by (with_reducible repeat (first | apply Kd.R_alloc | apply Kd.R_drewN | apply Kd.R_drew)); exact HO_4.out⟩, ⟨by (with_reducible repeat (first | refine blk_drewN ?_ _ | refine blk_drew ?_ | refine blk_alloc ?_ _)); exact BK101.out⟩, ⟨by (with_reducible repeat (first | refine blk_drewN ?_ _ | refine blk_drew ?_ | refine blk_alloc ?_ _)); exact BK106.out⟩, ⟨by repeat (first | (with_reducible first | exact HB.out | apply below_alloc | apply pw_below_drewN | apply below_drew1 | refine below_set ?_ GE101.out | refine below_set ?_ GE106.out) | exact HB.out)⟩⟩
                                · replace c19 := Bool.eq_false_iff.mpr c19
                                  subst c19
                                  have H1 : (spec_l3Growing.l2 k3 t102 x4_2 x5_2 true true l0_2 (l0_2.length : Int) x18_2 ((rd_T87 l0_2 x18_2).f1) (((rd_T87 l0_2 x18_2).f1).length : Int) (wrap64 (x25_3 + 1)) a0_0 a0_1 l0_2 ((rd_T87 l0_2 x18_2).f0) ((rd_T87 l0_2 x18_2).f1)) = some r := by rw [if_neg (show ¬ (false = true) by decide)] at H; exact H
                                  clear H
                                  have H := H1
                                  clear H1
                                  have H' := Aside0.mk H
                                  clear H
                                  have p107 : 0 ≤ (x25_3 : Int) := of_decide_eq_true (by first | (with_reducible assumption) | assumption)
                                  have q107 : x25_3 < (((rd_T87 l0_2 x18_2).f1).length : Int) := of_decide_eq_true (by first | (with_reducible assumption) | assumption)
                                  obtain ⟨ad107, e107, hx107_0⟩ := Kd.at_int HR105_1.out x25_3 p107 q107
                                  cases e107
                                  replace hx107_0 := (HB.out.cell (World.block_lt_of_cell? w _ hx107_0)).trans hx107_0
                                  replace p107 := eq_true p107
                                  replace q107 := eq_true q107
                                  go_wp2
                                  go_roundg k3
                                  case measure => have := HK1.out; have := HK2.out; have := HK3.out; omega
                                  case rel => exact ⟨(true), (true), (wrap64 (x25_3 + 1)), (by first | rfl | (simp; done) | (simp [*]; done)), (by first | rfl | (simp; done) | (simp [*]; done)), (by first | rfl | (simp; done) | (simp [*]; done)), H', ⟨by have := HK1.out; have := HK2.out; have := HK3.out; omega⟩, ⟨by (with_reducible repeat (first | apply Kd.R_alloc | apply Kd.R_drewN | apply Kd.R_drew)); exact HO_3.out⟩, ⟨by (with_reducible repeat (first | apply Kd.R_alloc | apply Kd.R_drewN | apply Kd.R_drew)); exact HO_4.out⟩, ⟨by (with_reducible repeat (first | refine blk_drewN ?_ _ | refine blk_drew ?_ | refine blk_alloc ?_ _)); exact BK101.out⟩, ⟨by (with_reducible repeat (first | refine blk_drewN ?_ _ | refine blk_drew ?_ | refine blk_alloc ?_ _)); exact BK106.out⟩, ⟨by repeat (first | (with_reducible first | exact HB.out | apply below_alloc | apply pw_below_drewN | apply below_drew1 | refine below_set ?_ GE101.out | refine below_set ?_ GE106.out) | exact HB.out)⟩⟩
                              · rw [if_neg c18] at H
                                have c18b0 : decide ((rd ((rd_T87 l0_2 x18_2).f1) x25_3) < 0) = false := decide_eq_false c18
                                clear c18
                                replace H := Option.bind_eq_some_iff.mp H
                                obtain ⟨t108, A200, H⟩ := H
                                replace H : (if x9_3 = true then (spec_l3Growing.l2 k3 t102 x4_2 x5_2 t108 true l0_2 (l0_2.length : Int) x18_2 ((rd_T87 l0_2 x18_2).f1) (((rd_T87 l0_2 x18_2).f1).length : Int) (wrap64 (x25_3 + 1)) a0_0 a0_1 l0_2 ((rd_T87 l0_2 x18_2).f0) ((rd_T87 l0_2 x18_2).f1)) else ((spec_l1Has.f k3 x4_2 (rd ((rd_T87 l0_2 x18_2).f1) x25_3)).bind fun t109 => (spec_l3Growing.l2 k3 t102 x4_2 x5_2 t108 t109 l0_2 (l0_2.length : Int) x18_2 ((rd_T87 l0_2 x18_2).f1) (((rd_T87 l0_2 x18_2).f1).length : Int) (wrap64 (x25_3 + 1)) a0_0 a0_1 l0_2 ((rd_T87 l0_2 x18_2).f0) ((rd_T87 l0_2 x18_2).f1)))) = some r := H
                                have A20 := Aside0.mk A200
                                clear A200
                                by_cases c21 : x9_3 = true
                                · subst c21
                                  have H1 : (spec_l3Growing.l2 k3 t102 x4_2 x5_2 t108 true l0_2 (l0_2.length : Int) x18_2 ((rd_T87 l0_2 x18_2).f1) (((rd_T87 l0_2 x18_2).f1).length : Int) (wrap64 (x25_3 + 1)) a0_0 a0_1 l0_2 ((rd_T87 l0_2 x18_2).f0) ((rd_T87 l0_2 x18_2).f1)) = some r := by rw [if_pos rfl] at H; exact H
                                  clear H
                                  have H := H1
                                  clear H1
                                  have H' := Aside0.mk H
                                  clear H
                                  have p107 : 0 ≤ (x25_3 : Int) := of_decide_eq_true (by first | (with_reducible assumption) | assumption)
                                  have q107 : x25_3 < (((rd_T87 l0_2 x18_2).f1).length : Int) := of_decide_eq_true (by first | (with_reducible assumption) | assumption)
                                  obtain ⟨ad107, e107, hx107_0⟩ := Kd.at_int HR105_1.out x25_3 p107 q107
                                  cases e107
                                  replace hx107_0 := (HB.out.cell (World.block_lt_of_cell? w _ hx107_0)).trans hx107_0
                                  replace p107 := eq_true p107
                                  replace q107 := eq_true q107
                                  obtain ⟨Ao22, co22, eo22⟩ := Kd.R_slice HO_3.out
                                  subst eo22
                                  go_wp2_with (first | (go_at_call 86; (with_reducible refine (spec_l1Has.calls k3 _ _ t102 (rd ((rd_T87 l0_2 x18_2).f1) x25_3) t108 _ ?side1 ?side2 A20.out).mono ?_); (case side1 => repeat (first | exact (Kd.R_reads' HO_3.out).2.2 | (with_reducible refine Kd.C_alloc ?_ _) | (with_reducible refine Kd.C_drewN ?_ _) | (with_reducible refine Kd.C_drew ?_))); (case side2 => exact (Kd.R_reads' HO_3.out).2.1); rintro e w' ⟨rfl, ⟨nd, rfl⟩⟩))
                                  go_roundg k3
                                  case measure => have := HK1.out; have := HK2.out; have := HK3.out; omega
                                  case rel => exact ⟨(t108), (true), (wrap64 (x25_3 + 1)), (by first | rfl | (simp; done) | (simp [*]; done)), (by first | rfl | (simp; done) | (simp [*]; done)), (by first | rfl | (simp; done) | (simp [*]; done)), H', ⟨by have := HK1.out; have := HK2.out; have := HK3.out; omega⟩, ⟨by (with_reducible repeat (first | apply Kd.R_alloc | apply Kd.R_drewN | apply Kd.R_drew)); exact HO_3.out⟩, ⟨by (with_reducible repeat (first | apply Kd.R_alloc | apply Kd.R_drewN | apply Kd.R_drew)); exact HO_4.out⟩, ⟨by (with_reducible repeat (first | refine blk_drewN ?_ _ | refine blk_drew ?_ | refine blk_alloc ?_ _)); exact BK101.out⟩, ⟨by (with_reducible repeat (first | refine blk_drewN ?_ _ | refine blk_drew ?_ | refine blk_alloc ?_ _)); exact BK106.out⟩, ⟨by repeat (first | (with_reducible first | exact HB.out | apply below_alloc | apply pw_below_drewN | apply below_drew1 | refine below_set ?_ GE101.out | refine below_set ?_ GE106.out) | exact HB.out)⟩⟩
                                · replace c21 := Bool.eq_false_iff.mpr c21
                                  subst c21
                                  have H1 : ((spec_l1Has.f k3 x4_2 (rd ((rd_T87 l0_2 x18_2).f1) x25_3)).bind fun t109 => (spec_l3Growing.l2 k3 t102 x4_2 x5_2 t108 t109 l0_2 (l0_2.length : Int) x18_2 ((rd_T87 l0_2 x18_2).f1) (((rd_T87 l0_2 x18_2).f1).length : Int) (wrap64 (x25_3 + 1)) a0_0 a0_1 l0_2 ((rd_T87 l0_2 x18_2).f0) ((rd_T87 l0_2 x18_2).f1))) = some r := by rw [if_neg (show ¬ (false = true) by decide)] at H; exact H
                                  clear H
                                  have H := H1
                                  clear H1
                                  replace H := Option.bind_eq_some_iff.mp H
                                  obtain ⟨t109, A230, H⟩ := H
                                  replace H : (spec_l3Growing.l2 k3 t102 x4_2 x5_2 t108 t109 l0_2 (l0_2.length : Int) x18_2 ((rd_T87 l0_2 x18_2).f1) (((rd_T87 l0_2 x18_2).f1).length : Int) (wrap64 (x25_3 + 1)) a0_0 a0_1 l0_2 ((rd_T87 l0_2 x18_2).f0) ((rd_T87 l0_2 x18_2).f1)) = some r := H
                                  have A23 := Aside0.mk A230
                                  clear A230
                                  have H' := Aside0.mk H
                                  clear H
                                  have p107 : 0 ≤ (x25_3 : Int) := of_decide_eq_true (by first | (with_reducible assumption) | assumption)
                                  have q107 : x25_3 < (((rd_T87 l0_2 x18_2).f1).length : Int) := of_decide_eq_true (by first | (with_reducible assumption) | assumption)
                                  obtain ⟨ad107, e107, hx107_0⟩ := Kd.at_int HR105_1.out x25_3 p107 q107
                                  cases e107
                                  replace hx107_0 := (HB.out.cell (World.block_lt_of_cell? w _ hx107_0)).trans hx107_0
                                  replace p107 := eq_true p107
                                  replace q107 := eq_true q107
                                  obtain ⟨Ao24, co24, eo24⟩ := Kd.R_slice HO_3.out
                                  subst eo24
                                  go_wp2_with (first | (go_at_call 86; (with_reducible refine (spec_l1Has.calls k3 _ _ t102 (rd ((rd_T87 l0_2 x18_2).f1) x25_3) t108 _ ?side1 ?side2 A20.out).mono ?_); (case side1 => repeat (first | exact (Kd.R_reads' HO_3.out).2.2 | (with_reducible refine Kd.C_alloc ?_ _) | (with_reducible refine Kd.C_drewN ?_ _) | (with_reducible refine Kd.C_drew ?_))); (case side2 => exact (Kd.R_reads' HO_3.out).2.1); rintro e w' ⟨rfl, ⟨nd, rfl⟩⟩; obtain ⟨Ao25, co25, eo25⟩ := Kd.R_slice HO_4.out; subst eo25) | (go_at_call 86; (with_reducible refine (spec_l1Has.calls k3 _ _ x4_2 (rd ((rd_T87 l0_2 x18_2).f1) x25_3) t109 _ ?side1 ?side2 A23.out).mono ?_); (case side1 => repeat (first | exact (Kd.R_reads' HO_4.out).2.2 | (with_reducible refine Kd.C_alloc ?_ _) | (with_reducible refine Kd.C_drewN ?_ _) | (with_reducible refine Kd.C_drew ?_))); (case side2 => exact (Kd.R_reads' HO_4.out).2.1); rintro e w' ⟨rfl, ⟨nd, rfl⟩⟩))
                                  go_roundg k3
                                  case measure => have := HK1.out; have := HK2.out; have := HK3.out; omega
                                  case rel => exact ⟨(t108), (t109), (wrap64 (x25_3 + 1)), (by first | rfl | (simp; done) | (simp [*]; done)), (by first | rfl | (simp; done) | (simp [*]; done)), (by first | rfl | (simp; done) | (simp [*]; done)), H', ⟨by have := HK1.out; have := HK2.out; have := HK3.out; omega⟩, ⟨by (with_reducible repeat (first | apply Kd.R_alloc | apply Kd.R_drewN | apply Kd.R_drew)); exact HO_3.out⟩, ⟨by (with_reducible repeat (first | apply Kd.R_alloc | apply Kd.R_drewN | apply Kd.R_drew)); exact HO_4.out⟩, ⟨by (with_reducible repeat (first | refine blk_drewN ?_ _ | refine blk_drew ?_ | refine blk_alloc ?_ _)); exact BK101.out⟩, ⟨by (with_reducible repeat (first | refine blk_drewN ?_ _ | refine blk_drew ?_ | refine blk_alloc ?_ _)); exact BK106.out⟩, ⟨by repeat (first | (with_reducible first | exact HB.out | apply below_alloc | apply pw_below_drewN | apply below_drew1 | refine below_set ?_ GE101.out | refine below_set ?_ GE106.out) | exact HB.out)⟩⟩
                            · replace c17 := Bool.eq_false_iff.mpr c17
                              subst c17
                              have H1 : (if x9_3 = true then (spec_l3Growing.l2 k3 t102 x4_2 x5_2 false true l0_2 (l0_2.length : Int) x18_2 ((rd_T87 l0_2 x18_2).f1) (((rd_T87 l0_2 x18_2).f1).length : Int) (wrap64 (x25_3 + 1)) a0_0 a0_1 l0_2 ((rd_T87 l0_2 x18_2).f0) ((rd_T87 l0_2 x18_2).f1)) else (if (rd ((rd_T87 l0_2 x18_2).f1) x25_3) < 0 then (spec_l3Growing.l2 k3 t102 x4_2 x5_2 false true l0_2 (l0_2.length : Int) x18_2 ((rd_T87 l0_2 x18_2).f1) (((rd_T87 l0_2 x18_2).f1).length : Int) (wrap64 (x25_3 + 1)) a0_0 a0_1 l0_2 ((rd_T87 l0_2 x18_2).f0) ((rd_T87 l0_2 x18_2).f1)) else ((spec_l1Has.f k3 x4_2 (rd ((rd_T87 l0_2 x18_2).f1) x25_3)).bind fun t110 => (spec_l3Growing.l2 k3 t102 x4_2 x5_2 false t110 l0_2 (l0_2.length : Int) x18_2 ((rd_T87 l0_2 x18_2).f1) (((rd_T87 l0_2 x18_2).f1).length : Int) (wrap64 (x25_3 + 1)) a0_0 a0_1 l0_2 ((rd_T87 l0_2 x18_2).f0) ((rd_T87 l0_2 x18_2).f1))))) = some r := by rw [if_neg (show ¬ (false = true) by decide)] at H; exact H
                              clear H
                              have H := H1
                              clear H1
                              by_cases c26 : x9_3 = true
                              · subst c26
                                have H1 : (spec_l3Growing.l2 k3 t102 x4_2 x5_2 false true l0_2 (l0_2.length : Int) x18_2 ((rd_T87 l0_2 x18_2).f1) (((rd_T87 l0_2 x18_2).f1).length : Int) (wrap64 (x25_3 + 1)) a0_0 a0_1 l0_2 ((rd_T87 l0_2 x18_2).f0) ((rd_T87 l0_2 x18_2).f1)) = some r := by rw [if_pos rfl] at H; exact H
                                clear H
                                have H := H1
                                clear H1
                                have H' := Aside0.mk H
                                clear H
                                have p107 : 0 ≤ (x25_3 : Int) := of_decide_eq_true (by first | (with_reducible assumption) | assumption)
                                have q107 : x25_3 < (((rd_T87 l0_2 x18_2).f1).length : Int) := of_decide_eq_true (by first | (with_reducible assumption) | assumption)
                                obtain ⟨ad107, e107, hx107_0⟩ := Kd.at_int HR105_1.out x25_3 p107 q107
                                cases e107
                                replace hx107_0 := (HB.out.cell (World.block_lt_of_cell? w _ hx107_0)).trans hx107_0
                                replace p107 := eq_true p107
                                replace q107 := eq_true q107
                                go_wp2
                                go_roundg k3
                                case measure => have := HK1.out; have := HK2.out; have := HK3.out; omega
                                case rel => exact ⟨(false), (true), (wrap64 (x25_3 + 1)), (by first | rfl | (simp; done) | (simp [*]; done)), (by first | rfl | (simp; done) | (simp [*]; done)), (by first | rfl | (simp; done) | (simp [*]; done)), H', ⟨by have := HK1.out; have := HK2.out; have := HK3.out; omega⟩, ⟨by (with_reducible repeat (first | apply Kd.R_alloc | apply Kd.R_drewN | apply Kd.R_drew)); exact HO_3.out⟩, ⟨by (with_reducible repeat (first | apply Kd.R_alloc | apply Kd.R_drewN | apply Kd.R_drew)); exact HO_4.out⟩, ⟨by (with_reducible repeat (first | refine blk_drewN ?_ _ | refine blk_drew ?_ | refine blk_alloc ?_ _)); exact BK101.out⟩, ⟨by (with_reducible repeat (first | refine blk_drewN ?_ _ | refine blk_drew ?_ | refine blk_alloc ?_ _)); exact BK106.out⟩, ⟨by repeat (first | (with_reducible first | exact HB.out | apply below_alloc | apply pw_below_drewN | apply below_drew1 | refine below_set ?_ GE101.out | refine below_set ?_ GE106.out) | exact HB.out)⟩⟩
                              · replace c26 := Bool.eq_false_iff.mpr c26
                                subst c26
                                have H1 : (if (rd ((rd_T87 l0_2 x18_2).f1) x25_3) < 0 then (spec_l3Growing.l2 k3 t102 x4_2 x5_2 false true l0_2 (l0_2.length : Int) x18_2 ((rd_T87 l0_2 x18_2).f1) (((rd_T87 l0_2 x18_2).f1).length : Int) (wrap64 (x25_3 + 1)) a0_0 a0_1 l0_2 ((rd_T87 l0_2 x18_2).f0) ((rd_T87 l0_2 x18_2).f1)) else ((spec_l1Has.f k3 x4_2 (rd ((rd_T87 l0_2 x18_2).f1) x25_3)).bind fun t110 => (spec_l3Growing.l2 k3 t102 x4_2 x5_2 false t110 l0_2 (l0_2.length : Int) x18_2 ((rd_T87 l0_2 x18_2).f1) (((rd_T87 l0_2 x18_2).f1).length : Int) (wrap64 (x25_3 + 1)) a0_0 a0_1 l0_2 ((rd_T87 l0_2 x18_2).f0) ((rd_T87 l0_2 x18_2).f1)))) = some r := by rw [if_neg (show ¬ (false = true) by decide)] at H; exact H
                                clear H
                                have H := H1
                                clear H1
                                by_cases c27 : (rd ((rd_T87 l0_2 x18_2).f1) x25_3) < 0
                                · rw [if_pos c27] at H
                                  have c27b0 : decide ((rd ((rd_T87 l0_2 x18_2).f1) x25_3) < 0) = true := decide_eq_true c27
                                  clear c27
                                  have H' := Aside0.mk H
                                  clear H
                                  have p107 : 0 ≤ (x25_3 : Int) := of_decide_eq_true (by first | (with_reducible assumption) | assumption)
                                  have q107 : x25_3 < (((rd_T87 l0_2 x18_2).f1).length : Int) := of_decide_eq_true (by first | (with_reducible assumption) | assumption)
                                  obtain ⟨ad107, e107, hx107_0⟩ := Kd.at_int HR105_1.out x25_3 p107 q107
                                  cases e107
                                  replace hx107_0 := (HB.out.cell (World.block_lt_of_cell? w _ hx107_0)).trans hx107_0
                                  replace p107 := eq_true p107
                                  replace q107 := eq_true q107
                                  go_wp2
                                  go_roundg k3
                                  case measure => have := HK1.out; have := HK2.out; have := HK3.out; omega
                                  case rel => exact ⟨(false), (true), (wrap64 (x25_3 + 1)), (by first | rfl | (simp; done) | (simp [*]; done)), (by first | rfl | (simp; done) | (simp [*]; done)), (by first | rfl | (simp; done) | (simp [*]; done)), H', ⟨by have := HK1.out; have := HK2.out; have := HK3.out; omega⟩, ⟨by (with_reducible repeat (first | apply Kd.R_alloc | apply Kd.R_drewN | apply Kd.R_drew)); exact HO_3.out⟩, ⟨by (with_reducible repeat (first | apply Kd.R_alloc | apply Kd.R_drewN | apply Kd.R_drew)); exact HO_4.out⟩, ⟨by (with_reducible repeat (first | refine blk_drewN ?_ _ | refine blk_drew ?_ | refine blk_alloc ?_ _)); exact BK101.out⟩, ⟨by (with_reducible repeat (first | refine blk_drewN ?_ _ | refine blk_drew ?_ | refine blk_alloc ?_ _)); exact BK106.out⟩, ⟨by repeat (first | (with_reducible first | exact HB.out | apply below_alloc | apply pw_below_drewN | apply below_drew1 | refine below_set ?_ GE101.out | refine below_set ?_ GE106.out) | exact HB.out)⟩⟩
                                · rw [if_neg c27] at H
                                  have c27b0 : decide ((rd ((rd_T87 l0_2 x18_2).f1) x25_3) < 0) = false := decide_eq_false c27
                                  clear c27
                                  replace H := Option.bind_eq_some_iff.mp H
                                  obtain ⟨t110, A280, H⟩ := H
                                  replace H : (spec_l3Growing.l2 k3 t102 x4_2 x5_2 false t110 l0_2 (l0_2.length : Int) x18_2 ((rd_T87 l0_2 x18_2).f1) (((rd_T87 l0_2 x18_2).f1).length : Int) (wrap64 (x25_3 + 1)) a0_0 a0_1 l0_2 ((rd_T87 l0_2 x18_2).f0) ((rd_T87 l0_2 x18_2).f1)) = some r := H
                                  have A28 := Aside0.mk A280
                                  clear A280
                                  have H' := Aside0.mk H
                                  clear H
                                  have p107 : 0 ≤ (x25_3 : Int) := of_decide_eq_true (by first | (with_reducible assumption) | assumption)
                                  have q107 : x25_3 < (((rd_T87 l0_2 x18_2).f1).length : Int) := of_decide_eq_true (by first | (with_reducible assumption) | assumption)
                                  obtain ⟨ad107, e107, hx107_0⟩ := Kd.at_int HR105_1.out x25_3 p107 q107
                                  cases e107
                                  replace hx107_0 := (HB.out.cell (World.block_lt_of_cell? w _ hx107_0)).trans hx107_0
                                  replace p107 := eq_true p107
                                  replace q107 := eq_true q107
                                  obtain ⟨Ao29, co29, eo29⟩ := Kd.R_slice HO_4.out
                                  subst eo29
                                  go_wp2_with (first | (go_at_call 86; (with_reducible refine (spec_l1Has.calls k3 _ _ x4_2 (rd ((rd_T87 l0_2 x18_2).f1) x25_3) t110 _ ?side1 ?side2 A28.out).mono ?_); (case side1 => repeat (first | exact (Kd.R_reads' HO_4.out).2.2 | (with_reducible refine Kd.C_alloc ?_ _) | (with_reducible refine Kd.C_drewN ?_ _) | (with_reducible refine Kd.C_drew ?_))); (case side2 => exact (Kd.R_reads' HO_4.out).2.1); rintro e w' ⟨rfl, ⟨nd, rfl⟩⟩))
                                  go_roundg k3
                                  case measure => have := HK1.out; have := HK2.out; have := HK3.out; omega
                                  case rel => exact ⟨(false), (t110), (wrap64 (x25_3 + 1)), (by first | rfl | (simp; done) | (simp [*]; done)), (by first | rfl | (simp; done) | (simp [*]; done)), (by first | rfl | (simp; done) | (simp [*]; done)), H', ⟨by have := HK1.out; have := HK2.out; have := HK3.out; omega⟩, ⟨by (with_reducible repeat (first | apply Kd.R_alloc | apply Kd.R_drewN | apply Kd.R_drew)); exact HO_3.out⟩, ⟨by (with_reducible repeat (first | apply Kd.R_alloc | apply Kd.R_drewN | apply Kd.R_drew)); exact HO_4.out⟩, ⟨by (with_reducible repeat (first | refine blk_drewN ?_ _ | refine blk_drew ?_ | refine blk_alloc ?_ _)); exact BK101.out⟩, ⟨by (with_reducible repeat (first | refine blk_drewN ?_ _ | refine blk_drew ?_ | refine blk_alloc ?_ _)); exact BK106.out⟩, ⟨by repeat (first | (with_reducible first | exact HB.out | apply below_alloc | apply pw_below_drewN | apply below_drew1 | refine below_set ?_ GE101.out | refine below_set ?_ GE106.out) | exact HB.out)⟩⟩
                          · rw [if_neg c16] at H
                            exact absurd H (by simp)
                        · rw [if_neg c15] at H
                          exact absurd H (by simp)
                      · rw [if_neg c14] at H
                        have c14b0 : decide (x25_3 < (((rd_T87 l0_2 x18_2).f1).length : Int)) = false := decide_eq_false c14
                        clear c14
                        by_cases c30 : x8_3 = true
                        · subst c30
                          have H1 : (if x9_3 = true then ((spec_l1Has.f k3 x4_2 ((rd_T87 l0_2 x18_2).f0)).bind fun t111 => (if t111 = true then (spec_l3Growing.l1 k3 t102 x4_2 x5_2 l0_2 (l0_2.length : Int) (wrap64 (x18_2 + 1)) a0_0 a0_1 l0_2) else ((spec_l1Put.f k3 x4_2 ((rd_T87 l0_2 x18_2).f0)).bind fun t112 => (spec_l3Growing.l1 k3 t102 t112 true l0_2 (l0_2.length : Int) (wrap64 (x18_2 + 1)) a0_0 a0_1 l0_2)))) else (spec_l3Growing.l1 k3 t102 x4_2 x5_2 l0_2 (l0_2.length : Int) (wrap64 (x18_2 + 1)) a0_0 a0_1 l0_2)) = some r := by rw [if_pos rfl] at H; exact H
                          clear H
                          have H := H1
                          clear H1
                          by_cases c31 : x9_3 = true
                          · subst c31
                            have H1 : ((spec_l1Has.f k3 x4_2 ((rd_T87 l0_2 x18_2).f0)).bind fun t111 => (if t111 = true then (spec_l3Growing.l1 k3 t102 x4_2 x5_2 l0_2 (l0_2.length : Int) (wrap64 (x18_2 + 1)) a0_0 a0_1 l0_2) else ((spec_l1Put.f k3 x4_2 ((rd_T87 l0_2 x18_2).f0)).bind fun t112 => (spec_l3Growing.l1 k3 t102 t112 true l0_2 (l0_2.length : Int) (wrap64 (x18_2 + 1)) a0_0 a0_1 l0_2)))) = some r := by rw [if_pos rfl] at H; exact H
                            clear H
                            have H := H1
                            clear H1
                            replace H := Option.bind_eq_some_iff.mp H
                            obtain ⟨t111, A320, H⟩ := H
                            replace H : (if t111 = true then (spec_l3Growing.l1 k3 t102 x4_2 x5_2 l0_2 (l0_2.length : Int) (wrap64 (x18_2 + 1)) a0_0 a0_1 l0_2) else ((spec_l1Put.f k3 x4_2 ((rd_T87 l0_2 x18_2).f0)).bind fun t112 => (spec_l3Growing.l1 k3 t102 t112 true l0_2 (l0_2.length : Int) (wrap64 (x18_2 + 1)) a0_0 a0_1 l0_2))) = some r := H
                            have A32 := Aside0.mk A320
                            clear A320
                            by_cases c33 : t111 = true
                            · subst c33
                              have H1 : (spec_l3Growing.l1 k3 t102 x4_2 x5_2 l0_2 (l0_2.length : Int) (wrap64 (x18_2 + 1)) a0_0 a0_1 l0_2) = some r := by rw [if_pos rfl] at H; exact H
                              clear H
                              have H := H1
                              clear H1
                              have H' := Aside0.mk H
                              clear H
                              have hnb34 := NB106_101.out
                              have hnc34 := NB101_106.out
                              have hcz35_0 : wr.cell? ⟨gb106, 0, none⟩ = some (.int .i64 ((rd_T87 l0_2 x18_2).f0)) := (blk_cell BK106.out 0).trans rfl
                              have hcz35_1 : wr.cell? ⟨gb106, 1, none⟩ = some (.slice A105_1 ((rd_T87 l0_2 x18_2).f1).length c105_1) := (blk_cell BK106.out 1).trans rfl
                              have hfz35_0 := blk_frozen BK106.out 0
                              have hfz35_1 := blk_frozen BK106.out 1
                              obtain ⟨Ao36, co36, eo36⟩ := Kd.R_slice HO_4.out
                              subst eo36
                              go_wp2_with (first | (go_at_call 86; (with_reducible refine (spec_l1Has.calls k3 _ _ x4_2 ((rd_T87 l0_2 x18_2).f0) true _ ?side1 ?side2 A32.out).mono ?_); (case side1 => repeat (first | exact (Kd.R_reads' HO_4.out).2.2 | (with_reducible refine Kd.C_alloc ?_ _) | (with_reducible refine Kd.C_drewN ?_ _) | (with_reducible refine Kd.C_drew ?_))); (case side2 => exact (Kd.R_reads' HO_4.out).2.1); rintro e w' ⟨rfl, ⟨nd, rfl⟩⟩))
                              go_roundg k3
                              case measure => have := HK1.out; have := HK2.out; have := HK3.out; omega
                              case rel => exact ⟨(x4_2), (x5_2), (wrap64 (x18_2 + 1)), (by first | rfl | (simp; done) | (simp [*]; done)), (by first | rfl | (simp; done) | (simp [*]; done)), H', ⟨by have := HK1.out; have := HK2.out; have := HK3.out; omega⟩, ⟨by (with_reducible repeat (first | apply Kd.R_alloc | apply Kd.R_drewN | apply Kd.R_drew)); exact HO_3.out⟩, ⟨by (with_reducible repeat (first | apply Kd.R_alloc | apply Kd.R_drewN | apply Kd.R_drew)); exact HO_4.out⟩, ⟨by (with_reducible repeat (first | refine blk_drewN ?_ _ | refine blk_drew ?_ | refine blk_alloc ?_ _)); exact BK101.out⟩, ⟨by repeat (first | (with_reducible first | exact HB.out | apply below_alloc | apply pw_below_drewN | apply below_drew1 | refine below_set ?_ GE101.out | refine below_set ?_ GE106.out) | exact HB.out)⟩⟩
                            · replace c33 := Bool.eq_false_iff.mpr c33
                              subst c33
                              have H1 : ((spec_l1Put.f k3 x4_2 ((rd_T87 l0_2 x18_2).f0)).bind fun t112 => (spec_l3Growing.l1 k3 t102 t112 true l0_2 (l0_2.length : Int) (wrap64 (x18_2 + 1)) a0_0 a0_1 l0_2)) = some r := by rw [if_neg (show ¬ (false = true) by decide)] at H; exact H
                              clear H
                              have H := H1
                              clear H1
                              replace H := Option.bind_eq_some_iff.mp H
                              obtain ⟨t112, A370, H⟩ := H
                              replace H : (spec_l3Growing.l1 k3 t102 t112 true l0_2 (l0_2.length : Int) (wrap64 (x18_2 + 1)) a0_0 a0_1 l0_2) = some r := H
                              have A37 := Aside0.mk A370
                              clear A370
                              have H' := Aside0.mk H
                              clear H
                              have hnb38 := NB106_101.out
                              have hnc38 := NB101_106.out
                              have hcz39_0 : wr.cell? ⟨gb106, 0, none⟩ = some (.int .i64 ((rd_T87 l0_2 x18_2).f0)) := (blk_cell BK106.out 0).trans rfl
                              have hcz39_1 : wr.cell? ⟨gb106, 1, none⟩ = some (.slice A105_1 ((rd_T87 l0_2 x18_2).f1).length c105_1) := (blk_cell BK106.out 1).trans rfl
                              have hfz39_0 := blk_frozen BK106.out 0
                              have hfz39_1 := blk_frozen BK106.out 1
                              obtain ⟨Ao40, co40, eo40⟩ := Kd.R_slice HO_4.out
                              subst eo40
                              go_wp2_with (first | (go_at_call 86; (with_reducible refine (spec_l1Has.calls k3 _ _ x4_2 ((rd_T87 l0_2 x18_2).f0) false _ ?side1 ?side2 A32.out).mono ?_); (case side1 => repeat (first | exact (Kd.R_reads' HO_4.out).2.2 | (with_reducible refine Kd.C_alloc ?_ _) | (with_reducible refine Kd.C_drewN ?_ _) | (with_reducible refine Kd.C_drew ?_))); (case side2 => exact (Kd.R_reads' HO_4.out).2.1); rintro e w' ⟨rfl, ⟨nd, rfl⟩⟩) | ((with_reducible refine gate_callee (f := 121) rfl ?_); refine goesL_ (some 64) rfl rfl Try.func121 (by kernel_rfl) rfl #[.slice Ao40 x4_2.length co40, .int .i64 ((rd_T87 l0_2 x18_2).f0)] rfl (by (try simp only [List.map_toArray, List.map_cons, List.map_nil]); first | done | rfl | (simp only [List.length_drop, List.length_take]; rfl)) ?_; (with_reducible refine (spec_l1Put.calls k3 (fun k_ => some k_ = (.slice Ao40 x4_2.length co40 : Value).ownBlock) (.slice Ao40 x4_2.length co40) x4_2 ((rd_T87 l0_2 x18_2).f0) t112 w _ ?side1 ?side2 A37.out).mono ?_); (case side1 => repeat (first | (with_reducible first | exact HB.out | apply below_alloc | apply pw_below_drewN | apply below_drew1 | refine below_set ?_ GE101.out | refine below_set ?_ GE106.out) | exact HB.out)); (case side2 => exact Kd.R_tight rfl HO_4.out); rintro e w41 ⟨v113, rfl, ho0, hb, hkp⟩; refine ⟨_, rfl, ?_⟩; have n0_ := Aside0.mk (Kd.R_mono (ok' := fun k_ => some k_ ≠ (v113 : Value).ownBlock) (Kd.R_keptB (HO_3.out) hkp (fun k_ hk_ hs_ => (hk_) hs_)) (fun k_ hk_ => fun e_ => Or.elim (ho0.1 k_ e_.symm) (fun hs_ => hk_.2.1 hs_) (fun hn_ => Nat.not_le.2 hk_.2.2 hn_))); have n1_ := Aside0.mk (blk_kept (by (with_reducible repeat (first | refine blk_drewN ?_ _ | refine blk_drew ?_ | refine blk_alloc ?_ _)); exact BK101.out) hkp (fun hs_ => (fun e_ => (Kd.R_ne HO_4.out BK101.out (by decide)) e_) hs_)); have n2_ := Aside0.mk (blk_kept (by (with_reducible repeat (first | refine blk_drewN ?_ _ | refine blk_drew ?_ | refine blk_alloc ?_ _)); exact BK106.out) hkp (fun hs_ => (fun e_ => (Kd.R_ne HO_4.out BK106.out (by decide)) e_) hs_)); have n3_ := Aside0.mk (Kd.R_mono (ok' := fun k_ => some k_ ≠ (v103 : Value).ownBlock) ho0 (fun k_ hk_ => Or.elim hk_ (fun hs_ => fun e_ => (((HO_3.out).1 k_ e_.symm)) hs_) (fun hn_ => (Kd.fresh' (Kd.R_lt (by (with_reducible repeat (first | apply Kd.R_alloc | apply Kd.R_drewN | apply Kd.R_drew)); exact HO_3.out)) k_ hn_)))); have n4_ := Aside0.mk (hb); clear HO_3; clear BK101; clear BK106; clear HB; clear HO_4; have HO_3 := n0_; have BK101 := n1_; have BK106 := n2_; have HO114 := n3_; have HB := n4_; clear n0_ n1_ n2_ n3_ n4_; (try clear hb); (try clear hkp); (try clear ho0)))
                              go_roundg k3
                              case measure => have := HK1.out; have := HK2.out; have := HK3.out; omega
                              case rel => exact ⟨(t112), (true), (wrap64 (x18_2 + 1)), (by first | rfl | (simp; done) | (simp [*]; done)), (by first | rfl | (simp; done) | (simp [*]; done)), H', ⟨by have := HK1.out; have := HK2.out; have := HK3.out; omega⟩, ⟨by (with_reducible repeat (first | apply Kd.R_alloc | apply Kd.R_drewN | apply Kd.R_drew)); exact HO_3.out⟩, ⟨by (with_reducible repeat (first | apply Kd.R_alloc | apply Kd.R_drewN | apply Kd.R_drew)); exact HO114.out⟩, ⟨by (with_reducible repeat (first | refine blk_drewN ?_ _ | refine blk_drew ?_ | refine blk_alloc ?_ _)); exact BK101.out⟩, ⟨by repeat (first | (with_reducible first | exact HB.out | apply below_alloc | apply pw_below_drewN | apply below_drew1 | refine below_set ?_ GE101.out | refine below_set ?_ GE106.out) | exact HB.out)⟩⟩
                          · replace c31 := Bool.eq_false_iff.mpr c31
                            subst c31
                            have H1 : (spec_l3Growing.l1 k3 t102 x4_2 x5_2 l0_2 (l0_2.length : Int) (wrap64 (x18_2 + 1)) a0_0 a0_1 l0_2) = some r := by rw [if_neg (show ¬ (false = true) by decide)] at H; exact H
                            clear H
                            have H := H1
                            clear H1
                            have H' := Aside0.mk H
                            clear H
                            go_wp2
                            go_roundg k3
                            case measure => have := HK1.out; have := HK2.out; have := HK3.out; omega
                            case rel => exact ⟨(x4_2), (x5_2), (wrap64 (x18_2 + 1)), (by first | rfl | (simp; done) | (simp [*]; done)), (by first | rfl | (simp; done) | (simp [*]; done)), H', ⟨by have := HK1.out; have := HK2.out; have := HK3.out; omega⟩, ⟨by (with_reducible repeat (first | apply Kd.R_alloc | apply Kd.R_drewN | apply Kd.R_drew)); exact HO_3.out⟩, ⟨by (with_reducible repeat (first | apply Kd.R_alloc | apply Kd.R_drewN | apply Kd.R_drew)); exact HO_4.out⟩, ⟨by (with_reducible repeat (first | refine blk_drewN ?_ _ | refine blk_drew ?_ | refine blk_alloc ?_ _)); exact BK101.out⟩, ⟨by repeat (first | (with_reducible first | exact HB.out | apply below_alloc | apply pw_below_drewN | apply below_drew1 | refine below_set ?_ GE101.out | refine below_set ?_ GE106.out) | exact HB.out)⟩⟩
                        · replace c30 := Bool.eq_false_iff.mpr c30
                          subst c30
                          have H1 : (spec_l3Growing.l1 k3 t102 x4_2 x5_2 l0_2 (l0_2.length : Int) (wrap64 (x18_2 + 1)) a0_0 a0_1 l0_2) = some r := by rw [if_neg (show ¬ (false = true) by decide)] at H; exact H
                          clear H
                          have H := H1
                          clear H1
                          have H' := Aside0.mk H
                          clear H
                          go_wp2
                          go_roundg k3
                          case measure => have := HK1.out; have := HK2.out; have := HK3.out; omega
                          case rel => exact ⟨(x4_2), (x5_2), (wrap64 (x18_2 + 1)), (by first | rfl | (simp; done) | (simp [*]; done)), (by first | rfl | (simp; done) | (simp [*]; done)), H', ⟨by have := HK1.out; have := HK2.out; have := HK3.out; omega⟩, ⟨by (with_reducible repeat (first | apply Kd.R_alloc | apply Kd.R_drewN | apply Kd.R_drew)); exact HO_3.out⟩, ⟨by (with_reducible repeat (first | apply Kd.R_alloc | apply Kd.R_drewN | apply Kd.R_drew)); exact HO_4.out⟩, ⟨by (with_reducible repeat (first | refine blk_drewN ?_ _ | refine blk_drew ?_ | refine blk_alloc ?_ _)); exact BK101.out⟩, ⟨by repeat (first | (with_reducible first | exact HB.out | apply below_alloc | apply pw_below_drewN | apply below_drew1 | refine below_set ?_ GE101.out | refine below_set ?_ GE106.out) | exact HB.out)⟩⟩
                · rw [if_neg c10] at H
                  exact absurd H (by simp)
              · rw [if_neg c9] at H
                exact absurd H (by simp)
            · rw [if_neg c8] at H
              have c8b0 : decide (x18_2 < (l0_2.length : Int)) = false := decide_eq_false c8
              clear c8
              have H' := Aside0.mk H
              clear H
              go_wp2
              go_roundg k2
              case measure => have := HK1.out; have := HK2.out; omega
              case rel => exact ⟨(x4_2), (x5_2), (by first | rfl | (simp; done) | (simp [*]; done)), H', ⟨by have := HK1.out; have := HK2.out; omega⟩, ⟨by (with_reducible repeat (first | apply Kd.R_alloc | apply Kd.R_drewN | apply Kd.R_drew)); exact HO_3.out⟩, ⟨by (with_reducible repeat (first | apply Kd.R_alloc | apply Kd.R_drewN | apply Kd.R_drew)); exact HO_4.out⟩, ⟨by (with_reducible repeat (first | refine blk_drewN ?_ _ | refine blk_drew ?_ | refine blk_alloc ?_ _)); exact BK101.out⟩, ⟨by repeat (first | (with_reducible first | exact HB.out | apply below_alloc | apply pw_below_drewN | apply below_drew1 | refine below_set ?_ GE101.out) | exact HB.out)⟩⟩
      · replace c6 := Bool.eq_false_iff.mpr c6
        subst c6
        have H1 : (some x4_1) = some r := by rw [if_neg (show ¬ (false = true) by decide)] at H; exact H
        clear H
        have H := H1
        clear H1
        obtain rfl := Option.some.inj H
        go_wp2
        go_ret
        exact ⟨_, by first | rfl | (simp [errW_none, errW_some] <;> rfl) | (simp [*, errW_none, errW_some] <;> rfl), by (with_reducible repeat (first | apply Kd.R_alloc | apply Kd.R_drewN | apply Kd.R_drew)); exact Kd.R_mono HO_4.out (fun _ hk => trivial), by repeat (first | (with_reducible first | exact HB.out | apply below_alloc | apply pw_below_drewN | apply below_drew1 | refine below_set ?_ GE101.out) | exact HB.out)⟩
end Go.Proofs.Ytekoclhnfhbmeaa.P
namespace Go.Proofs.Ytekoclhnfhbmeaa.P
open Go.RowKit Go.Proofs.YtekoclhnfhbmeaaW.PrintWords
set_option linter.unusedVariables false
set_option linter.unusedSimpArgs false
theorem has_all : ∀ (b0 b1 b2 b3 b4 b5 : Bool) (n : Fin 6), spec_l1Has.f 10 (placesF 0 [b0, b1, b2, b3, b4, b5]) (n.val : Int) = some ([b0, b1, b2, b3, b4, b5].getD n.val false) := by decide +kernel
theorem put_all : ∀ (b0 b1 b2 b3 b4 b5 : Bool) (n : Fin 6), spec_l1Put.f 10 (placesF 0 [b0, b1, b2, b3, b4, b5]) (n.val : Int) = some (placesF 0 ([b0, b1, b2, b3, b4, b5].set n.val true)) := by decide +kernel
theorem has6 (s : List Bool) (hs : s.length = 6) (x : Int) (h0 : 0 ≤ x) (h6 : x < 6) (k : Nat) (hk : 10 ≤ k) : spec_l1Has.f k (placesF 0 s) x = some (s.getD x.toNat false) := by
  obtain ⟨b0, b1, b2, b3, b4, b5, rfl⟩ := six s hs
  have h := has_all b0 b1 b2 b3 b4 b5 ⟨x.toNat, by omega⟩
  rw [show ((⟨x.toNat, by omega⟩ : Fin 6).val : Int) = x by show (x.toNat : Int) = x; omega] at h
  exact at_rounds (g := fun k => spec_l1Has.f k (placesF 0 [b0, b1, b2, b3, b4, b5]) x) (fun k => spec_l1Has.mono _ _ k) hk h
theorem put6 (s : List Bool) (hs : s.length = 6) (x : Int) (h0 : 0 ≤ x) (h6 : x < 6) (k : Nat) (hk : 10 ≤ k) : spec_l1Put.f k (placesF 0 s) x = some (placesF 0 (s.set x.toNat true)) := by
  obtain ⟨b0, b1, b2, b3, b4, b5, rfl⟩ := six s hs
  have h := put_all b0 b1 b2 b3 b4 b5 ⟨x.toNat, by omega⟩
  rw [show ((⟨x.toNat, by omega⟩ : Fin 6).val : Int) = x by show (x.toNat : Int) = x; omega] at h
  exact at_rounds (g := fun k => spec_l1Put.f k (placesF 0 [b0, b1, b2, b3, b4, b5]) x) (fun k => spec_l1Put.mono _ _ k) hk h
theorem stepC_cnt (mk : S87 → List Bool → Bool) (x : S87) (hx : 0 ≤ x.f0 ∧ x.f0 < 6) (q : List Bool × Bool) (h : q.1.length = 6) :
    cntF (stepC mk x q).1 ≤ cntF q.1 ∧ ((stepC mk x q).2 = true → q.2 = true ∨ cntF (stepC mk x q).1 < cntF q.1) := by
  unfold stepC
  split
  · rename_i hc
    simp only [Bool.and_eq_true, Bool.not_eq_true'] at hc
    have := cntF_set q.1 x.f0.toNat (by omega) hc.1
    exact ⟨by dsimp only; omega, fun _ => .inr (by dsimp only; omega)⟩
  · exact ⟨Nat.le_refl _, fun h => .inl h⟩
theorem passC_cnt (mk : S87 → List Bool → Bool) (l : List S87) (hl : ∀ x, x ∈ l → 0 ≤ x.f0 ∧ x.f0 < 6) : ∀ q : List Bool × Bool, q.1.length = 6 →
    (passC mk l q).1.length = 6 ∧ cntF (passC mk l q).1 ≤ cntF q.1 ∧ ((passC mk l q).2 = true → q.2 = true ∨ cntF (passC mk l q).1 < cntF q.1) := by
  induction l with
  | nil => intro q h; exact ⟨h, Nat.le_refl _, fun h => .inl h⟩
  | cons x l ih =>
    intro q h
    obtain ⟨h1, h2, h3⟩ := ih (fun y hy => hl y (List.mem_cons_of_mem _ hy)) (stepC mk x q) (stepC_len mk x q h)
    obtain ⟨h4, h5⟩ := stepC_cnt mk x (hl x List.mem_cons_self) q h
    refine ⟨h1, Nat.le_trans h2 h4, fun h6 => ?_⟩
    rcases h3 h6 with h7 | h7
    · rcases h5 h7 with h8 | h8
      · exact .inl h8
      · exact .inr (Nat.lt_of_le_of_lt h2 h8)
    · exact .inr (Nat.lt_of_lt_of_le h7 h4)
theorem rd_mem {l : List S87} {x : S87} (h : x ∈ l) : ∃ j : Nat, j < l.length ∧ rd_T87 l j = x := by
  obtain ⟨j, hj, rfl⟩ := List.getElem_of_mem h
  refine ⟨j, hj, ?_⟩
  unfold rd_T87
  rw [List.getD_eq_getElem?_getD, Int.toNat_natCast, List.getElem?_eq_getElem hj]; rfl
def okL (l : List S87) : Prop := l.length ≤ 16 ∧ ∀ j : Nat, j < l.length → okR6 (rd_T87 l j) ∧ (rd_T87 l j).f1.length ≤ 4
theorem goodG_okL {nons toks : Int} {l : List S87} (h : goodG nons toks l = true) : okL l := by
  have hn := goodG_nons h
  exact ⟨hn.2.2, fun j hj => ⟨goodG_okR6 h j hj, (okR_parts hn.1.1 hn.1.2 (goodG_ok h j hj)).2.1⟩⟩
theorem okL_f0 {l : List S87} (h : okL l) : ∀ x, x ∈ l → 0 ≤ x.f0 ∧ x.f0 < 6 := fun x hx => by
  obtain ⟨j, hj, rfl⟩ := rd_mem hx
  exact (h.2 j hj).1.1
def allT (tok : Bool) (s : List Bool) (l : List Int) : Bool := l.all fun x => if x < 0 then tok else s.getD x.toNat false
def mkT (tok : Bool) (r : S87) (s : List Bool) : Bool := allT tok s r.f1
theorem mkT_pro : mkT true = mkPro := by
  funext r s
  unfold mkT mkPro allT
  induction r.f1 with
  | nil => rfl
  | cons x l ih =>
    rw [List.all_cons, ih, List.any_cons, Bool.not_or]
    congr 1
    unfold proP
    by_cases h : x < 0
    · rw [if_pos h, decide_eq_false (by omega)]; rfl
    · rw [if_neg h, decide_eq_true (by omega)]; simp
theorem close_l2 (tok : Bool) (a0 a1 : Int) (l : List S87) (s : List Bool) (hs : s.length = 6) (ag : Bool) (i : Int) (y : S87) (hy : okR6 y) (hyl : y.f1.length ≤ 4) (X : List Int) (d : Nat) : ∀ (j : Nat) (x9 : Bool), j ≤ y.f1.length → y.f1.length - j = d →
    ((x9 && allT tok s (y.f1.drop j)) = true → Ev (fun k => spec_l3Close.l1 k tok (placesF 0 (s.set y.f0.toNat true)) true l l.length (wrap64 (i + 1)) a0 a1 l) X) →
    ((x9 && allT tok s (y.f1.drop j)) = false → Ev (fun k => spec_l3Close.l1 k tok (placesF 0 s) ag l l.length (wrap64 (i + 1)) a0 a1 l) X) →
    Ev (fun k => spec_l3Close.l2 k tok (placesF 0 s) ag x9 l l.length i y.f1 y.f1.length j a0 a1 l y.f0 y.f1) X := by
  induction d with
  | zero =>
    intro j x9 h1 hd hT hF
    rw [List.drop_of_length_le (by omega)] at hT hF
    cases x9 with
    | true =>
      obtain ⟨K, h⟩ := hT rfl
      dsimp only at h
      refine ⟨K + 11, fun k hk => ?_⟩
      dsimp only
      obtain ⟨k, rfl⟩ : ∃ m, k = m + 1 := ⟨k - 1, by omega⟩
      simp only [spec_l3Close.l2]
      rw [if_neg (by omega), if_pos trivial, put6 s hs y.f0 hy.1.1 hy.1.2 k (by omega)]
      exact h k (by omega)
    | false =>
      obtain ⟨K, h⟩ := hF rfl
      dsimp only at h
      refine ⟨K + 1, fun k hk => ?_⟩
      dsimp only
      obtain ⟨k, rfl⟩ : ∃ m, k = m + 1 := ⟨k - 1, by omega⟩
      simp only [spec_l3Close.l2]
      rw [if_neg (by omega), if_neg (by decide)]
      exact h k (by omega)
  | succ d ih =>
    intro j x9 h1 hd hT hF
    have hj : j < y.f1.length := by omega
    have hx6 := hy.2 j hj
    have hdj : y.f1.drop j = rd y.f1 j :: y.f1.drop (j + 1) := getD_drop y.f1 j 0 hj
    have ew : wrap64 ((j : Int) + 1) = ((j + 1 : Nat) : Int) := by unfold wrap64; omega
    have eall : allT tok s (y.f1.drop j) = ((if rd y.f1 j < 0 then tok else s.getD (rd y.f1 j).toNat false) && allT tok s (y.f1.drop (j + 1))) := by rw [hdj]; rfl
    rw [eall, ← Bool.and_assoc] at hT hF
    obtain ⟨K, h⟩ := ih (j + 1) (x9 && (if rd y.f1 j < 0 then tok else s.getD (rd y.f1 j).toNat false)) (by omega) (by omega) hT hF
    dsimp only at h
    refine ⟨K + 11, fun k hk => ?_⟩
    dsimp only
    obtain ⟨k, rfl⟩ : ∃ m, k = m + 1 := ⟨k - 1, by omega⟩
    have hk2 := h k (by omega)
    simp only [spec_l3Close.l2]
    rw [if_pos (by omega), if_pos (by omega), if_pos (by omega), ew]
    cases x9 with
    | false => rw [if_neg (by decide)]; simpa using hk2
    | true =>
      rw [if_pos rfl]
      by_cases hn : rd y.f1 j < 0
      · rw [if_pos hn] at hk2 ⊢
        cases tok with
        | true => rw [if_pos rfl]; simpa using hk2
        | false => rw [if_neg (by decide), if_neg (by omega)]; simpa using hk2
      · rw [if_neg hn] at hk2 ⊢
        rw [if_pos (by omega), has6 s hs (rd y.f1 j) (by omega) hx6 k (by omega)]
        simpa using hk2
theorem close_l1 (tok : Bool) (a0 a1 : Int) (l : List S87) (hl : okL l) (X : List Int) (d : Nat) : ∀ (i : Nat) (s : List Bool) (ag : Bool), s.length = 6 → i ≤ l.length → l.length - i = d →
    Ev (fun k => spec_l3Close.l0 k tok (placesF 0 (passC (mkT tok) (l.drop i) (s, ag)).1) (passC (mkT tok) (l.drop i) (s, ag)).2 a0 a1 l) X →
    Ev (fun k => spec_l3Close.l1 k tok (placesF 0 s) ag l l.length i a0 a1 l) X := by
  have hb := hl.1
  induction d with
  | zero =>
    intro i s ag hs h1 hd h0
    rw [List.drop_of_length_le (by omega)] at h0
    obtain ⟨K, h⟩ := h0
    dsimp only at h
    refine ⟨K + 1, fun k hk => ?_⟩
    dsimp only
    obtain ⟨k, rfl⟩ : ∃ m, k = m + 1 := ⟨k - 1, by omega⟩
    simp only [spec_l3Close.l1]
    rw [if_neg (by omega)]
    exact h k (by omega)
  | succ d ih =>
    intro i s ag hs h1 hd h0
    have hi : i < l.length := by omega
    obtain ⟨hy, hyl⟩ := hl.2 i hi
    have hdi : l.drop i = rd_T87 l i :: l.drop (i + 1) := getD_drop l i z87 hi
    rw [hdi] at h0
    have ew : wrap64 ((i : Int) + 1) = ((i + 1 : Nat) : Int) := by unfold wrap64; omega
    have hstep : ∀ q, passC (mkT tok) (rd_T87 l i :: l.drop (i + 1)) q = passC (mkT tok) (l.drop (i + 1)) (stepC (mkT tok) (rd_T87 l i) q) := fun _ => rfl
    rw [hstep] at h0
    obtain ⟨K, h⟩ := close_l2 tok a0 a1 l s hs ag i (rd_T87 l i) hy hyl X (rd_T87 l i).f1.length 0 (!s.getD (rd_T87 l i).f0.toNat false) (by omega) (by omega)
      (fun hc => by
        rw [List.drop_zero] at hc
        have e : stepC (mkT tok) (rd_T87 l i) (s, ag) = (s.set (rd_T87 l i).f0.toNat true, true) := by unfold stepC; exact if_pos hc
        rw [e] at h0
        rw [ew]
        exact ih (i + 1) _ _ (by rw [List.length_set]; exact hs) (by omega) (by omega) h0)
      (fun hc => by
        rw [List.drop_zero] at hc
        have e : stepC (mkT tok) (rd_T87 l i) (s, ag) = (s, ag) := by
          unfold stepC
          exact if_neg (by rw [Bool.eq_false_iff] at hc; exact hc)
        rw [e] at h0
        rw [ew]
        exact ih (i + 1) _ _ hs (by omega) (by omega) h0)
    dsimp only at h
    refine ⟨K + 11, fun k hk => ?_⟩
    dsimp only
    obtain ⟨k, rfl⟩ : ∃ m, k = m + 1 := ⟨k - 1, by omega⟩
    simp only [spec_l3Close.l1]
    rw [if_pos (by omega), if_pos (by omega), if_pos (by omega), has6 s hs _ hy.1.1 hy.1.2 k (by omega)]
    simp only [Option.bind_some]
    exact h k (by omega)
theorem close_l0 (tok : Bool) (a0 a1 : Int) (l : List S87) (hl : okL l) (n : Nat) : ∀ s : List Bool, s.length = 6 → cntF s < n →
    Ev (fun k => spec_l3Close.l0 k tok (placesF 0 s) true a0 a1 l) (placesF 0 (closeN (mkT tok) l n s)) := by
  induction n with
  | zero => intro s _ h; omega
  | succ n ih =>
    intro s hs hc
    obtain ⟨h1, h2, h3⟩ := passC_cnt (mkT tok) l (okL_f0 hl) (s, false) hs
    have key : Ev (fun k => spec_l3Close.l0 k tok (placesF 0 (passC (mkT tok) l (s, false)).1) (passC (mkT tok) l (s, false)).2 a0 a1 l) (placesF 0 (closeN (mkT tok) l (n + 1) s)) := by
      have e : closeN (mkT tok) l (n + 1) s = if (passC (mkT tok) l (s, false)).2 = true then closeN (mkT tok) l n (passC (mkT tok) l (s, false)).1 else (passC (mkT tok) l (s, false)).1 := rfl
      rw [e]
      cases hq : (passC (mkT tok) l (s, false)).2 with
      | true =>
        rw [if_pos rfl]
        refine ih _ h1 ?_
        rcases h3 hq with h4 | h4
        · cases h4
        · have h5 : cntF (passC (mkT tok) l (s, false)).1 < cntF s := h4
          omega
      | false =>
        rw [if_neg (by decide)]
        refine ⟨1, fun k hk => ?_⟩
        dsimp only
        obtain ⟨k, rfl⟩ : ∃ m, k = m + 1 := ⟨k - 1, by omega⟩
        simp only [spec_l3Close.l0]
        rw [if_neg (by decide)]
    obtain ⟨K, h⟩ := close_l1 tok a0 a1 l hl _ l.length 0 s false hs (by omega) (by omega) (by rw [List.drop_zero]; exact key)
    dsimp only at h
    refine ⟨K + 1, fun k hk => ?_⟩
    dsimp only
    obtain ⟨k, rfl⟩ : ∃ m, k = m + 1 := ⟨k - 1, by omega⟩
    simp only [spec_l3Close.l0]
    rw [if_pos trivial]
    exact h k (by omega)
theorem l3Close_ev (tok : Bool) (a0 a1 : Int) (l : List S87) (hl : okL l) : Ev (fun k => spec_l3Close.f k a0 a1 l tok) (placesF 0 (closedF (mkT tok) l)) :=
  close_l0 tok a0 a1 l hl 7 [false, false, false, false, false, false] rfl (by decide)
theorem passC_len (mk : S87 → List Bool → Bool) (l : List S87) (q : List Bool × Bool) (h : q.1.length = 6) : (passC mk l q).1.length = 6 := by
  induction l generalizing q with
  | nil => exact h
  | cons x l ih => exact ih _ (stepC_len mk x q h)
theorem closeN_len (mk : S87 → List Bool → Bool) (l : List S87) (n : Nat) : ∀ s : List Bool, s.length = 6 → (closeN mk l n s).length = 6 := by
  induction n with
  | zero => intro s h; exact h
  | succ n ih =>
    intro s h
    unfold closeN
    split
    · exact ih _ (passC_len mk l (s, false) h)
    · exact passC_len mk l (s, false) h
theorem closedF_len (mk : S87 → List Bool → Bool) (l : List S87) : (closedF mk l).length = 6 := closeN_len mk l 7 _ rfl
end Go.Proofs.Ytekoclhnfhbmeaa.P
namespace Go.Proofs.Ytekoclhnfhbmeaa.P
open Go.RowKit Go.Proofs.YtekoclhnfhbmeaaW.PrintWords Go.Proofs.YtekoclhnfhbmeaaW.PrintLast Go.Proofs.YtekoclhnfhbmeaaW.PrintMore
attribute [local go_sem] max2_int min2_int max_two min_two max_three min_three max_four min_four
set_option linter.unusedVariables false
set_option linter.unusedSimpArgs false
mutual
def spec_l3Reached.l0 : Nat → List Int → Bool → Int → Int → List (S87) → Option (List Int)
  | 0, _, _, _, _, _ => none
  | k + 1, x3, x4, x102000, x102001, x102002 => if x4 = true then (spec_l3Reached.l1 k x3 false x102002 (x102002.length : Int) 0 x102000 x102001 x102002) else (some x3)
def spec_l3Reached.l1 : Nat → List Int → Bool → List (S87) → Int → Int → Int → Int → List (S87) → Option (List Int)
  | 0, _, _, _, _, _, _, _, _ => none
  | k + 1, x3, x4, x12, x13, x14, x102000, x102001, x102002 => if x14 < x13 then (if 0 ≤ x14 then (if x14 < (x12.length : Int) then (spec_l3Reached.l2 k x3 x4 x12 x13 x14 ((rd_T87 x12 x14).f1) (((rd_T87 x12 x14).f1).length : Int) 0 x102000 x102001 x102002 ((rd_T87 x12 x14).f0) ((rd_T87 x12 x14).f1)) else (none)) else (none)) else (spec_l3Reached.l0 k x3 x4 x102000 x102001 x102002)
def spec_l3Reached.l2 : Nat → List Int → Bool → List (S87) → Int → Int → List Int → Int → Int → Int → Int → List (S87) → Int → List Int → Option (List Int)
  | 0, _, _, _, _, _, _, _, _, _, _, _, _, _ => none
  | k + 1, x3, x4, x12, x13, x14, x19, x20, x21, x102000, x102001, x102002, x107000, x107001 => if x21 < x20 then (if 0 ≤ x21 then (if x21 < (x19.length : Int) then (if (rd x19 x21) ≥ 0 then ((spec_l1Has.f k x3 x107000).bind fun t108 => (if t108 = true then ((spec_l1Has.f k x3 (rd x19 x21)).bind fun t109 => (if t109 = true then (spec_l3Reached.l2 k x3 x4 x12 x13 x14 x19 x20 (wrap64 (x21 + 1)) x102000 x102001 x102002 x107000 x107001) else ((spec_l1Put.f k x3 (rd x19 x21)).bind fun t110 => (spec_l3Reached.l2 k t110 true x12 x13 x14 x19 x20 (wrap64 (x21 + 1)) x102000 x102001 x102002 x107000 x107001)))) else (spec_l3Reached.l2 k x3 x4 x12 x13 x14 x19 x20 (wrap64 (x21 + 1)) x102000 x102001 x102002 x107000 x107001))) else (spec_l3Reached.l2 k x3 x4 x12 x13 x14 x19 x20 (wrap64 (x21 + 1)) x102000 x102001 x102002 x107000 x107001)) else (none)) else (none)) else (spec_l3Reached.l1 k x3 x4 x12 x13 (wrap64 (x14 + 1)) x102000 x102001 x102002)
end
def spec_l3Reached.f (k : Nat) (a0_0 : Int) (a0_1 : Int) (l0_2 : List (S87)) : Option (List Int) := spec_l3Reached.l0 k (([0] : List Int)) true a0_0 a0_1 l0_2
set_option maxHeartbeats 8000000 in
set_option maxRecDepth 100000 in
theorem spec_l3Reached.calls (k : Nat) (a0_0 : Int) (a0_1 : Int) (A0_2 : Option Addr) (c0_2 : Nat) (l0_2 : List (S87)) (r : List Int) (w : World) (hr0_2 : Kd.C k87 w A0_2 l0_2.length l0_2) (hc0_2 : l0_2.length ≤ c0_2) (h : spec_l3Reached.f k a0_0 a0_1 l0_2 = some r) :
    Calls Try.prog 92 #[.agg #[.int .i64 a0_0, .int .i64 a0_1, .slice A0_2 l0_2.length c0_2]] w fun e w' => ∃ v0_ : Value, e = .returned (v0_) ∧ Kd.R (Kd.int .i64) 3 w' w.heap.size (fun _ => True) v0_ r ∧ Below w.heap.size w w' := by
  have hu28 := Try.underlying28
  have hu87 := Try.underlying87
  have HR0_2 := Aside0.mk hr0_2
  have HC0_2 := Aside0.mk hc0_2
  clear hr0_2 hc0_2
  have HB := Aside0.mk (Below.refl w.heap.size w)
  have H : (spec_l3Reached.l0 k (([0] : List Int)) true a0_0 a0_1 l0_2) = some r := h
  clear h
  obtain ⟨y102, hy102⟩ : ∃ y_ : List Int, y_ = (([0] : List Int)) := ⟨_, rfl⟩
  replace H : (spec_l3Reached.l0 k y102 true a0_0 a0_1 l0_2) = some r := by first | (rw [hy102]; with_reducible exact H) | (have H2_ := (Option.bind_some _ _).symm.trans H; rw [hy102]; with_reducible exact H2_) | (have H2_ := (Option.bind_some _ _).symm.trans H; with_reducible exact H2_) | with_reducible exact H | (rw [hy102]; exact H) | exact H
  have Ny102 := Aside0.mk hy102
  clear hy102
  have H' := Aside0.mk H
  clear H
  go_enter Try.func92, Try.ntmps92
  go_wp2_with (first | ((with_reducible refine gate_dst (N := 1) rfl ?_); refine box_event ?hg (N := 1) ?hd (cs := #[.int .i64 a0_0, .int .i64 a0_1, .slice A0_2 l0_2.length c0_2]) (t := 28) ?hr ?_; (case hd => rfl); (case hg => rfl); (case hr => first | (go_simp; done) | (go_simp; rfl)); intro gb101 hg w2 hbox hb; have n0_ := Aside0.mk (below_step (by repeat (first | (with_reducible first | exact HB.out | apply below_alloc | apply pw_below_drewN | apply below_drew1) | exact HB.out)) hb); have n1_ := Aside0.mk (hbox); have n2_ := Aside0.mk ((by rw [hg]; exact (below_size (by repeat (first | (with_reducible first | exact HB.out | apply below_alloc | apply pw_below_drewN | apply below_drew1) | exact HB.out))) : w.heap.size ≤ gb101)); have n3_ := Aside0.mk ((by rw [hg]; exact (below_size (by repeat (first | (with_reducible first | exact HB.out | apply below_alloc | apply pw_below_drewN | apply below_drew1) | exact HB.out))) : w.heap.size ≤ gb101)); clear HB; have HB := n0_; have BK101 := n1_; have GW101 := n2_; have GE101 := n3_; clear n0_ n1_ n2_ n3_; clear hb hbox hg) | ((with_reducible refine gate_dst (N := 9) rfl ?_); refine Kd.R_lit (Kd.int .i64) _ 3 ?hg (N := 9) ?hd (xs := ([0] : List Int)) (inner := [.int .i64 0]) (ok := fun _ => True) (okp := fun _ => True) ?hr ?hp (fun _ hk => hk) trivial (Below.refl _ _) (Nat.le_refl _) (by simp) ?_; (case hd => rfl); (case hg => rfl); (case hr => first | (go_simp; done) | (go_simp; rfl)); (case hp => exact (Reps.one (show Kd.M (Kd.int .i64) _ _ _ 0 [.int .i64 0] from rfl) (Reps.none _ _))); intro v103 w3 ho4 hb hg_ hnew_; clear hg_ hnew_; (first | rw [← Ny102.out] at ho4 | (simp only [Int.reduceToNat] at ho4; rw [← Ny102.out] at ho4)); have n0_ := Aside0.mk (Kd.R_lower ho4 (below_size (by repeat (first | (with_reducible first | exact HB.out | apply below_alloc | apply pw_below_drewN | apply below_drew1 | refine below_set ?_ GE101.out) | exact HB.out)))); have n1_ := Aside0.mk (blk_below (g := gb101) (o := .cells #[.int .i64 a0_0, .int .i64 a0_1, .slice A0_2 l0_2.length c0_2] 28 (0, 0)) (by (with_reducible repeat (first | refine blk_drewN ?_ _ | refine blk_drew ?_ | refine blk_alloc ?_ _)); exact BK101.out) hb); have n2_ := Aside0.mk (below_step (by repeat (first | (with_reducible first | exact HB.out | apply below_alloc | apply pw_below_drewN | apply below_drew1 | refine below_set ?_ GE101.out) | exact HB.out)) hb); clear BK101; clear HB; have HO104 := n0_; have BK101 := n1_; have HB := n2_; clear n0_ n1_ n2_; clear hb ho4))
  go_loopg [3, 4] k (fun kq v3 v4 w' => ∃ (x3_1 : List Int) (x4_1 : Bool), v4 = .bool x4_1 ∧ Aside0 (spec_l3Reached.l0 kq x3_1 x4_1 a0_0 a0_1 l0_2 = some r) ∧ Aside0 (kq ≤ k) ∧ Aside0 (Kd.R (Kd.int .i64) 3 w' w.heap.size (fun _ => True) v3 x3_1) ∧ Aside0 (w'.heap[gb101]? = some (.cells #[.int .i64 a0_0, .int .i64 a0_1, (.slice A0_2 l0_2.length c0_2)] 28 (0, 0))) ∧ Aside0 (Below w.heap.size w w'))
  case atStart => exact ⟨(y102), (true), (by first | rfl | (simp; done) | (simp [*]; done)), H', ⟨Nat.le_refl _⟩, ⟨by (with_reducible repeat (first | apply Kd.R_alloc | apply Kd.R_drewN | apply Kd.R_drew)); exact HO104.out⟩, ⟨by (with_reducible repeat (first | refine blk_drewN ?_ _ | refine blk_drew ?_ | refine blk_alloc ?_ _)); exact BK101.out⟩, ⟨by repeat (first | (with_reducible first | exact HB.out | apply below_alloc | apply pw_below_drewN | apply below_drew1 | refine below_set ?_ GE101.out) | exact HB.out)⟩⟩
  case round =>
    clear H'
    try clear p2
    obtain ⟨x3_1, x4_1, rfl, HA, HK1, HO_3, BK101, HB⟩ := hrel
    cases gk with
    | zero => exact absurd HA.out (by simp [spec_l3Reached.l0])
    | succ k1 =>
      have H := HA.out
      clear HA
      simp only [spec_l3Reached.l0] at H
      by_cases c5 : x4_1 = true
      · subst c5
        have H1 : (spec_l3Reached.l1 k1 x3_1 false l0_2 (l0_2.length : Int) 0 a0_0 a0_1 l0_2) = some r := by rw [if_pos rfl] at H; exact H
        clear H
        have H := H1
        clear H1
        have H' := Aside0.mk H
        clear H
        have hcz6_0 : wr.cell? ⟨gb101, 0, none⟩ = some (.int .i64 a0_0) := (blk_cell BK101.out 0).trans rfl
        have hcz6_1 : wr.cell? ⟨gb101, 1, none⟩ = some (.int .i64 a0_1) := (blk_cell BK101.out 1).trans rfl
        have hcz6_2 : wr.cell? ⟨gb101, 2, none⟩ = some (.slice A0_2 l0_2.length c0_2) := (blk_cell BK101.out 2).trans rfl
        have hfz6_0 := blk_frozen BK101.out 0
        have hfz6_1 := blk_frozen BK101.out 1
        have hfz6_2 := blk_frozen BK101.out 2
        go_wp2
        go_loopg [3, 4, 14] k1 (fun kq v3 v4 v14 w' => ∃ (x3_2 : List Int) (x4_2 : Bool) (x14_2 : Int), v4 = .bool x4_2 ∧ v14 = .int .i64 x14_2 ∧ Aside0 (spec_l3Reached.l1 kq x3_2 x4_2 l0_2 (l0_2.length : Int) x14_2 a0_0 a0_1 l0_2 = some r) ∧ Aside0 (kq ≤ k1) ∧ Aside0 (Kd.R (Kd.int .i64) 3 w' w.heap.size (fun _ => True) v3 x3_2) ∧ Aside0 (w'.heap[gb101]? = some (.cells #[.int .i64 a0_0, .int .i64 a0_1, (.slice A0_2 l0_2.length c0_2)] 28 (0, 0))) ∧ Aside0 (Below w.heap.size w w'))
        case atStart => exact ⟨(x3_1), (false), (0), (by first | rfl | (simp; done) | (simp [*]; done)), (by first | rfl | (simp; done) | (simp [*]; done)), H', ⟨Nat.le_refl _⟩, ⟨by (with_reducible repeat (first | apply Kd.R_alloc | apply Kd.R_drewN | apply Kd.R_drew)); exact HO_3.out⟩, ⟨by (with_reducible repeat (first | refine blk_drewN ?_ _ | refine blk_drew ?_ | refine blk_alloc ?_ _)); exact BK101.out⟩, ⟨by repeat (first | (with_reducible first | exact HB.out | apply below_alloc | apply pw_below_drewN | apply below_drew1 | refine below_set ?_ GE101.out) | exact HB.out)⟩⟩
        case round =>
          clear H'
          try clear p2
          try clear c5
          try clear hcz6_0
          try clear hcz6_1
          try clear hcz6_2
          try clear hfz6_0
          try clear hfz6_1
          try clear hfz6_2
          try clear p2
          obtain ⟨x3_2, x4_2, x14_2, rfl, rfl, HA, HK2, HO_3, BK101, HB⟩ := hrel
          cases gk with
          | zero => exact absurd HA.out (by simp [spec_l3Reached.l1])
          | succ k2 =>
            have H := HA.out
            clear HA
            simp only [spec_l3Reached.l1] at H
            by_cases c7 : x14_2 < (l0_2.length : Int)
            · rw [if_pos c7] at H
              have c7b0 : decide (x14_2 < (l0_2.length : Int)) = true := decide_eq_true c7
              clear c7
              by_cases c8 : 0 ≤ x14_2
              · rw [if_pos c8] at H
                have c8b0 : decide (0 ≤ x14_2) = true := decide_eq_true c8
                clear c8
                by_cases c9 : x14_2 < (l0_2.length : Int)
                · rw [if_pos c9] at H
                  have c9b0 : decide (x14_2 < (l0_2.length : Int)) = true := decide_eq_true c9
                  clear c9
                  have H' := Aside0.mk H
                  clear H
                  have p105 : 0 ≤ (x14_2 : Int) := of_decide_eq_true (by first | (with_reducible assumption) | assumption)
                  have q105 : x14_2 < (l0_2.length : Int) := of_decide_eq_true (by first | (with_reducible assumption) | assumption)
                  obtain ⟨ad105, A105_1, c105_1, e105, hx105_0, hx105_1, hl105_1, hi105_1⟩ := at_T87 HR0_2.out x14_2 p105 q105
                  cases e105
                  replace hx105_0 := (HB.out.cell (World.block_lt_of_cell? w _ hx105_0)).trans hx105_0
                  replace hx105_1 := (HB.out.cell (World.block_lt_of_cell? w _ hx105_1)).trans hx105_1
                  have HR105_1 := Aside0.mk hi105_1
                  have HC105_1 := Aside0.mk hl105_1
                  clear hi105_1 hl105_1
                  replace p105 := eq_true p105
                  replace q105 := eq_true q105
                  go_wp2_with (first | ((with_reducible refine gate_dst (N := 6) rfl ?_); refine box_event ?hg (N := 6) ?hd (cs := #[.int .i64 0, .slice none 0 0]) (t := 87) ?hr ?_; (case hd => rfl); (case hg => rfl); (case hr => first | (go_simp; done) | (go_simp; rfl)); intro gb106 hg w10 hbox hb; have n0_ := Aside0.mk (Kd.R_below (by (with_reducible repeat (first | apply Kd.R_alloc | apply Kd.R_drewN | apply Kd.R_drew)); exact HO_3.out) hb); have n1_ := Aside0.mk (blk_below (g := gb101) (o := .cells #[.int .i64 a0_0, .int .i64 a0_1, .slice (some ad105) l0_2.length c0_2] 28 (0, 0)) (by (with_reducible repeat (first | refine blk_drewN ?_ _ | refine blk_drew ?_ | refine blk_alloc ?_ _)); exact BK101.out) hb); have n2_ := Aside0.mk (below_step (by repeat (first | (with_reducible first | exact HB.out | apply below_alloc | apply pw_below_drewN | apply below_drew1 | refine below_set ?_ GE101.out) | exact HB.out)) hb); have n3_ := Aside0.mk (hbox); have n4_ := Aside0.mk ((by rw [hg]; exact (below_size (by repeat (first | (with_reducible first | exact HB.out | apply below_alloc | apply pw_below_drewN | apply below_drew1 | refine below_set ?_ GE101.out) | exact HB.out))) : w.heap.size ≤ gb106)); have n5_ := Aside0.mk ((by rw [hg]; exact (below_size (by repeat (first | (with_reducible first | exact HB.out | apply below_alloc | apply pw_below_drewN | apply below_drew1 | refine below_set ?_ GE101.out) | exact HB.out))) : w.heap.size ≤ gb106)); have n6_ := Aside0.mk ((by rw [hg]; exact Nat.ne_of_lt (blk_lt (g := gb101) (o := .cells #[.int .i64 a0_0, .int .i64 a0_1, .slice (some ad105) l0_2.length c0_2] 28 (0, 0)) (by (with_reducible repeat (first | refine blk_drewN ?_ _ | refine blk_drew ?_ | refine blk_alloc ?_ _)); exact BK101.out)) : gb101 ≠ gb106)); have n7_ := Aside0.mk ((by rw [hg]; exact Nat.ne_of_gt (blk_lt (g := gb101) (o := .cells #[.int .i64 a0_0, .int .i64 a0_1, .slice (some ad105) l0_2.length c0_2] 28 (0, 0)) (by (with_reducible repeat (first | refine blk_drewN ?_ _ | refine blk_drew ?_ | refine blk_alloc ?_ _)); exact BK101.out)) : gb106 ≠ gb101)); clear HO_3; clear BK101; clear HB; have HO_3 := n0_; have BK101 := n1_; have HB := n2_; have BK106 := n3_; have GW106 := n4_; have GE106 := n5_; have NB101_106 := n6_; have NB106_101 := n7_; clear n0_ n1_ n2_ n3_ n4_ n5_ n6_ n7_; clear hb hbox hg; have hnb11 := NB106_101.out; have hnc11 := NB101_106.out; have hcz12_0 : w10.cell? ⟨gb106, 0, none⟩ = some (.int .i64 0) := (blk_cell BK106.out 0).trans rfl; have hcz12_1 : w10.cell? ⟨gb106, 1, none⟩ = some (.slice none 0 0) := (blk_cell BK106.out 1).trans rfl; have hfz12_0 := blk_frozen BK106.out 0; have hfz12_1 := blk_frozen BK106.out 1))
                  go_loopg [3, 4, 21] k2 (fun kq v3 v4 v21 w' => ∃ (x3_3 : List Int) (x4_3 : Bool) (x21_3 : Int), v4 = .bool x4_3 ∧ v21 = .int .i64 x21_3 ∧ Aside0 (spec_l3Reached.l2 kq x3_3 x4_3 l0_2 (l0_2.length : Int) x14_2 ((rd_T87 l0_2 x14_2).f1) (((rd_T87 l0_2 x14_2).f1).length : Int) x21_3 a0_0 a0_1 l0_2 ((rd_T87 l0_2 x14_2).f0) ((rd_T87 l0_2 x14_2).f1) = some r) ∧ Aside0 (kq ≤ k2) ∧ Aside0 (Kd.R (Kd.int .i64) 3 w' w.heap.size (fun _ => True) v3 x3_3) ∧ Aside0 (w'.heap[gb101]? = some (.cells #[.int .i64 a0_0, .int .i64 a0_1, (.slice (some ad105) l0_2.length c0_2)] 28 (0, 0))) ∧ Aside0 (w'.heap[gb106]? = some (.cells #[.int .i64 ((rd_T87 l0_2 x14_2).f0), (.slice A105_1 ((rd_T87 l0_2 x14_2).f1).length c105_1)] 87 (0, 0))) ∧ Aside0 (Below w.heap.size w w'))
                  case atStart => exact ⟨(x3_2), (x4_2), (0), (by first | rfl | (simp; done) | (simp [*]; done)), (by first | rfl | (simp; done) | (simp [*]; done)), H', ⟨Nat.le_refl _⟩, ⟨by (with_reducible repeat (first | apply Kd.R_alloc | apply Kd.R_drewN | apply Kd.R_drew)); exact Kd.R_mono (Kd.R_far (p := ⟨gb106, 1, none⟩) (Kd.R_far (p := ⟨gb106, 0, none⟩) (Kd.R_types HO_3.out BK106.out (by decide)) (fun _ hk => hk.2) (.int .i64 ((rd_T87 l0_2 x14_2).f0))) (fun _ hk => hk.2) (.slice A105_1 ((rd_T87 l0_2 x14_2).f1).length c105_1)) (fun _ hk => trivial)⟩, ⟨by (with_reducible repeat (first | refine blk_drewN ?_ _ | refine blk_drew ?_ | refine blk_alloc ?_ _)); refine blk_far ?_ NB101_106.out _; (with_reducible repeat (first | refine blk_drewN ?_ _ | refine blk_drew ?_ | refine blk_alloc ?_ _)); refine blk_far ?_ NB101_106.out _; (with_reducible repeat (first | refine blk_drewN ?_ _ | refine blk_drew ?_ | refine blk_alloc ?_ _)); exact BK101.out⟩, ⟨by (with_reducible repeat (first | refine blk_drewN ?_ _ | refine blk_drew ?_ | refine blk_alloc ?_ _)); refine blk_put (cs := #[.int .i64 ((rd_T87 l0_2 x14_2).f0), .slice none 0 0]) ?_ 1 _ rfl; (with_reducible repeat (first | refine blk_drewN ?_ _ | refine blk_drew ?_ | refine blk_alloc ?_ _)); refine blk_put (cs := #[.int .i64 0, .slice none 0 0]) ?_ 0 _ rfl; (with_reducible repeat (first | refine blk_drewN ?_ _ | refine blk_drew ?_ | refine blk_alloc ?_ _)); exact BK106.out⟩, ⟨by repeat (first | (with_reducible first | exact HB.out | apply below_alloc | apply pw_below_drewN | apply below_drew1 | refine below_set ?_ GE101.out | refine below_set ?_ GE106.out) | exact HB.out)⟩⟩
                  case round =>
                    clear H'
                    try clear c1
                    try clear p1
                    try clear q1
                    try clear hx1
                    try clear p2
                    try clear c5
                    try clear c7
                    try clear c7b0
                    try clear c8
                    try clear c8b0
                    try clear c9
                    try clear c9b0
                    try clear c10
                    try clear p10
                    try clear q10
                    try clear hx10
                    try clear c11
                    try clear hcz12_0
                    try clear hcz12_1
                    try clear hcz6_0
                    try clear hcz6_1
                    try clear hcz6_2
                    try clear hfz12_0
                    try clear hfz12_1
                    try clear hfz6_0
                    try clear hfz6_1
                    try clear hfz6_2
                    try clear hx105_0
                    try clear hx105_1
                    try clear p105
                    try clear p2
                    try clear q105
                    obtain ⟨x3_3, x4_3, x21_3, rfl, rfl, HA, HK3, HO_3, BK101, BK106, HB⟩ := hrel
                    cases gk with
                    | zero => exact absurd HA.out (by simp [spec_l3Reached.l2])
                    | succ k3 =>
                      have H := HA.out
                      clear HA
                      simp only [spec_l3Reached.l2] at H
                      by_cases c13 : x21_3 < (((rd_T87 l0_2 x14_2).f1).length : Int)
                      · rw [if_pos c13] at H
                        have c13b0 : decide (x21_3 < (((rd_T87 l0_2 x14_2).f1).length : Int)) = true := decide_eq_true c13
                        clear c13
                        by_cases c14 : 0 ≤ x21_3
                        · rw [if_pos c14] at H
                          have c14b0 : decide (0 ≤ x21_3) = true := decide_eq_true c14
                          clear c14
                          by_cases c15 : x21_3 < (((rd_T87 l0_2 x14_2).f1).length : Int)
                          · rw [if_pos c15] at H
                            have c15b0 : decide (x21_3 < (((rd_T87 l0_2 x14_2).f1).length : Int)) = true := decide_eq_true c15
                            clear c15
                            by_cases c16 : (rd ((rd_T87 l0_2 x14_2).f1) x21_3) ≥ 0
                            · rw [if_pos c16] at H
                              have c16b0 : decide (0 ≤ (rd ((rd_T87 l0_2 x14_2).f1) x21_3)) = true := decide_eq_true c16
                              clear c16
                              replace H := Option.bind_eq_some_iff.mp H
                              obtain ⟨t108, A170, H⟩ := H
                              replace H : (if t108 = true then ((spec_l1Has.f k3 x3_3 (rd ((rd_T87 l0_2 x14_2).f1) x21_3)).bind fun t109 => (if t109 = true then (spec_l3Reached.l2 k3 x3_3 x4_3 l0_2 (l0_2.length : Int) x14_2 ((rd_T87 l0_2 x14_2).f1) (((rd_T87 l0_2 x14_2).f1).length : Int) (wrap64 (x21_3 + 1)) a0_0 a0_1 l0_2 ((rd_T87 l0_2 x14_2).f0) ((rd_T87 l0_2 x14_2).f1)) else ((spec_l1Put.f k3 x3_3 (rd ((rd_T87 l0_2 x14_2).f1) x21_3)).bind fun t110 => (spec_l3Reached.l2 k3 t110 true l0_2 (l0_2.length : Int) x14_2 ((rd_T87 l0_2 x14_2).f1) (((rd_T87 l0_2 x14_2).f1).length : Int) (wrap64 (x21_3 + 1)) a0_0 a0_1 l0_2 ((rd_T87 l0_2 x14_2).f0) ((rd_T87 l0_2 x14_2).f1))))) else (spec_l3Reached.l2 k3 x3_3 x4_3 l0_2 (l0_2.length : Int) x14_2 ((rd_T87 l0_2 x14_2).f1) (((rd_T87 l0_2 x14_2).f1).length : Int) (wrap64 (x21_3 + 1)) a0_0 a0_1 l0_2 ((rd_T87 l0_2 x14_2).f0) ((rd_T87 l0_2 x14_2).f1))) = some r := H
                              have A17 := Aside0.mk A170
                              clear A170
                              by_cases c18 : t108 = true
                              · subst c18
                                have H1 : ((spec_l1Has.f k3 x3_3 (rd ((rd_T87 l0_2 x14_2).f1) x21_3)).bind fun t109 => (if t109 = true then (spec_l3Reached.l2 k3 x3_3 x4_3 l0_2 (l0_2.length : Int) x14_2 ((rd_T87 l0_2 x14_2).f1) (((rd_T87 l0_2 x14_2).f1).length : Int) (wrap64 (x21_3 + 1)) a0_0 a0_1 l0_2 ((rd_T87 l0_2 x14_2).f0) ((rd_T87 l0_2 x14_2).f1)) else ((spec_l1Put.f k3 x3_3 (rd ((rd_T87 l0_2 x14_2).f1) x21_3)).bind fun t110 => (spec_l3Reached.l2 k3 t110 true l0_2 (l0_2.length : Int) x14_2 ((rd_T87 l0_2 x14_2).f1) (((rd_T87 l0_2 x14_2).f1).length : Int) (wrap64 (x21_3 + 1)) a0_0 a0_1 l0_2 ((rd_T87 l0_2 x14_2).f0) ((rd_T87 l0_2 x14_2).f1))))) = some r := by rw [if_pos rfl] at H; exact H
                                clear H
                                have H := H1
                                clear H1
                                replace H := Option.bind_eq_some_iff.mp H
                                obtain ⟨t109, A190, H⟩ := H
                                replace H : (if t109 = true then (spec_l3Reached.l2 k3 x3_3 x4_3 l0_2 (l0_2.length : Int) x14_2 ((rd_T87 l0_2 x14_2).f1) (((rd_T87 l0_2 x14_2).f1).length : Int) (wrap64 (x21_3 + 1)) a0_0 a0_1 l0_2 ((rd_T87 l0_2 x14_2).f0) ((rd_T87 l0_2 x14_2).f1)) else ((spec_l1Put.f k3 x3_3 (rd ((rd_T87 l0_2 x14_2).f1) x21_3)).bind fun t110 => (spec_l3Reached.l2 k3 t110 true l0_2 (l0_2.length : Int) x14_2 ((rd_T87 l0_2 x14_2).f1) (((rd_T87 l0_2 x14_2).f1).length : Int) (wrap64 (x21_3 + 1)) a0_0 a0_1 l0_2 ((rd_T87 l0_2 x14_2).f0) ((rd_T87 l0_2 x14_2).f1)))) = some r := H
                                have A19 := Aside0.mk A190
                                clear A190
                                by_cases c20 : t109 = true
                                · subst c20
                                  have H1 : (spec_l3Reached.l2 k3 x3_3 x4_3 l0_2 (l0_2.length : Int) x14_2 ((rd_T87 l0_2 x14_2).f1) (((rd_T87 l0_2 x14_2).f1).length : Int) (wrap64 (x21_3 + 1)) a0_0 a0_1 l0_2 ((rd_T87 l0_2 x14_2).f0) ((rd_T87 l0_2 x14_2).f1)) = some r := by rw [if_pos rfl] at H; exact H
                                  clear H
                                  have H := H1
                                  clear H1
                                  have H' := Aside0.mk H
                                  clear H
                                  have p107 : 0 ≤ (x21_3 : Int) := of_decide_eq_true (by first | (with_reducible assumption) | assumption)
                                  have q107 : x21_3 < (((rd_T87 l0_2 x14_2).f1).length : Int) := of_decide_eq_true (by first | (with_reducible assumption) | assumption)
                                  obtain ⟨ad107, e107, hx107_0⟩ := Kd.at_int HR105_1.out x21_3 p107 q107
                                  cases e107
                                  replace hx107_0 := (HB.out.cell (World.block_lt_of_cell? w _ hx107_0)).trans hx107_0
                                  replace p107 := eq_true p107
                                  replace q107 := eq_true q107
                                  have hnb21 := NB106_101.out
                                  have hnc21 := NB101_106.out
                                  have hcz22_0 : wr.cell? ⟨gb106, 0, none⟩ = some (.int .i64 ((rd_T87 l0_2 x14_2).f0)) := (blk_cell BK106.out 0).trans rfl
                                  have hcz22_1 : wr.cell? ⟨gb106, 1, none⟩ = some (.slice (some ad107) ((rd_T87 l0_2 x14_2).f1).length c105_1) := (blk_cell BK106.out 1).trans rfl
                                  have hfz22_0 := blk_frozen BK106.out 0
                                  have hfz22_1 := blk_frozen BK106.out 1
                                  obtain ⟨Ao23, co23, eo23⟩ := Kd.R_slice HO_3.out
                                  subst eo23
                                  go_wp2_with (first | (go_at_call 86; (with_reducible refine (spec_l1Has.calls k3 _ _ x3_3 ((rd_T87 l0_2 x14_2).f0) true _ ?side1 ?side2 A17.out).mono ?_); (case side1 => repeat (first | exact (Kd.R_reads' HO_3.out).2.2 | (with_reducible refine Kd.C_alloc ?_ _) | (with_reducible refine Kd.C_drewN ?_ _) | (with_reducible refine Kd.C_drew ?_))); (case side2 => exact (Kd.R_reads' HO_3.out).2.1); rintro e w' ⟨rfl, ⟨nd, rfl⟩⟩) | (go_at_call 86; (with_reducible refine (spec_l1Has.calls k3 _ _ x3_3 (rd ((rd_T87 l0_2 x14_2).f1) x21_3) true _ ?side1 ?side2 A19.out).mono ?_); (case side1 => repeat (first | exact (Kd.R_reads' HO_3.out).2.2 | (with_reducible refine Kd.C_alloc ?_ _) | (with_reducible refine Kd.C_drewN ?_ _) | (with_reducible refine Kd.C_drew ?_))); (case side2 => exact (Kd.R_reads' HO_3.out).2.1); rintro e w' ⟨rfl, ⟨nd, rfl⟩⟩))
                                  go_roundg k3
                                  case measure => have := HK1.out; have := HK2.out; have := HK3.out; omega
                                  case rel => exact ⟨(x3_3), (x4_3), (wrap64 (x21_3 + 1)), (by first | rfl | (simp; done) | (simp [*]; done)), (by first | rfl | (simp; done) | (simp [*]; done)), H', ⟨by have := HK1.out; have := HK2.out; have := HK3.out; omega⟩, ⟨by (with_reducible repeat (first | apply Kd.R_alloc | apply Kd.R_drewN | apply Kd.R_drew)); exact HO_3.out⟩, ⟨by (with_reducible repeat (first | refine blk_drewN ?_ _ | refine blk_drew ?_ | refine blk_alloc ?_ _)); exact BK101.out⟩, ⟨by (with_reducible repeat (first | refine blk_drewN ?_ _ | refine blk_drew ?_ | refine blk_alloc ?_ _)); exact BK106.out⟩, ⟨by repeat (first | (with_reducible first | exact HB.out | apply below_alloc | apply pw_below_drewN | apply below_drew1 | refine below_set ?_ GE101.out | refine below_set ?_ GE106.out) | exact HB.out)⟩⟩
                                · replace c20 := Bool.eq_false_iff.mpr c20
                                  subst c20
                                  have H1 : ((spec_l1Put.f k3 x3_3 (rd ((rd_T87 l0_2 x14_2).f1) x21_3)).bind fun t110 => (spec_l3Reached.l2 k3 t110 true l0_2 (l0_2.length : Int) x14_2 ((rd_T87 l0_2 x14_2).f1) (((rd_T87 l0_2 x14_2).f1).length : Int) (wrap64 (x21_3 + 1)) a0_0 a0_1 l0_2 ((rd_T87 l0_2 x14_2).f0) ((rd_T87 l0_2 x14_2).f1))) = some r := by rw [if_neg (show ¬ (false = true) by decide)] at H; exact H
                                  clear H
                                  have H := H1
                                  clear H1
                                  replace H := Option.bind_eq_some_iff.mp H
                                  obtain ⟨t110, A240, H⟩ := H
                                  replace H : (spec_l3Reached.l2 k3 t110 true l0_2 (l0_2.length : Int) x14_2 ((rd_T87 l0_2 x14_2).f1) (((rd_T87 l0_2 x14_2).f1).length : Int) (wrap64 (x21_3 + 1)) a0_0 a0_1 l0_2 ((rd_T87 l0_2 x14_2).f0) ((rd_T87 l0_2 x14_2).f1)) = some r := H
                                  have A24 := Aside0.mk A240
                                  clear A240
                                  have H' := Aside0.mk H
                                  clear H
                                  have p107 : 0 ≤ (x21_3 : Int) := of_decide_eq_true (by first | (with_reducible assumption) | assumption)
                                  have q107 : x21_3 < (((rd_T87 l0_2 x14_2).f1).length : Int) := of_decide_eq_true (by first | (with_reducible assumption) | assumption)
                                  obtain ⟨ad107, e107, hx107_0⟩ := Kd.at_int HR105_1.out x21_3 p107 q107
                                  cases e107
                                  replace hx107_0 := (HB.out.cell (World.block_lt_of_cell? w _ hx107_0)).trans hx107_0
                                  replace p107 := eq_true p107
                                  replace q107 := eq_true q107
                                  have hnb25 := NB106_101.out
                                  have hnc25 := NB101_106.out
                                  have hcz26_0 : wr.cell? ⟨gb106, 0, none⟩ = some (.int .i64 ((rd_T87 l0_2 x14_2).f0)) := (blk_cell BK106.out 0).trans rfl
                                  have hcz26_1 : wr.cell? ⟨gb106, 1, none⟩ = some (.slice (some ad107) ((rd_T87 l0_2 x14_2).f1).length c105_1) := (blk_cell BK106.out 1).trans rfl
                                  have hfz26_0 := blk_frozen BK106.out 0
                                  have hfz26_1 := blk_frozen BK106.out 1
                                  obtain ⟨Ao27, co27, eo27⟩ := Kd.R_slice HO_3.out
                                  subst eo27
                                  go_wp2_with (first | (go_at_call 86; (with_reducible refine (spec_l1Has.calls k3 _ _ x3_3 ((rd_T87 l0_2 x14_2).f0) true _ ?side1 ?side2 A17.out).mono ?_); (case side1 => repeat (first | exact (Kd.R_reads' HO_3.out).2.2 | (with_reducible refine Kd.C_alloc ?_ _) | (with_reducible refine Kd.C_drewN ?_ _) | (with_reducible refine Kd.C_drew ?_))); (case side2 => exact (Kd.R_reads' HO_3.out).2.1); rintro e w' ⟨rfl, ⟨nd, rfl⟩⟩) | (go_at_call 86; (with_reducible refine (spec_l1Has.calls k3 _ _ x3_3 (rd ((rd_T87 l0_2 x14_2).f1) x21_3) false _ ?side1 ?side2 A19.out).mono ?_); (case side1 => repeat (first | exact (Kd.R_reads' HO_3.out).2.2 | (with_reducible refine Kd.C_alloc ?_ _) | (with_reducible refine Kd.C_drewN ?_ _) | (with_reducible refine Kd.C_drew ?_))); (case side2 => exact (Kd.R_reads' HO_3.out).2.1); rintro e w' ⟨rfl, ⟨nd, rfl⟩⟩) | ((with_reducible refine gate_callee (f := 121) rfl ?_); refine goesL_ (some 41) rfl rfl Try.func121 (by kernel_rfl) rfl #[.slice Ao27 x3_3.length co27, .int .i64 (rd ((rd_T87 l0_2 x14_2).f1) x21_3)] rfl (by (try simp only [List.map_toArray, List.map_cons, List.map_nil]); first | done | rfl | (simp only [List.length_drop, List.length_take]; rfl)) ?_; (with_reducible refine (spec_l1Put.calls k3 (fun k_ => some k_ = (.slice Ao27 x3_3.length co27 : Value).ownBlock) (.slice Ao27 x3_3.length co27) x3_3 (rd ((rd_T87 l0_2 x14_2).f1) x21_3) t110 w _ ?side1 ?side2 A24.out).mono ?_); (case side1 => repeat (first | (with_reducible first | exact HB.out | apply below_alloc | apply pw_below_drewN | apply below_drew1 | refine below_set ?_ GE101.out | refine below_set ?_ GE106.out) | exact HB.out)); (case side2 => exact Kd.R_tight rfl HO_3.out); rintro e w28 ⟨v111, rfl, ho0, hb, hkp⟩; refine ⟨_, rfl, ?_⟩; have n0_ := Aside0.mk (blk_kept (by (with_reducible repeat (first | refine blk_drewN ?_ _ | refine blk_drew ?_ | refine blk_alloc ?_ _)); exact BK101.out) hkp (fun hs_ => (fun e_ => (Kd.R_ne HO_3.out BK101.out (by decide)) e_) hs_)); have n1_ := Aside0.mk (blk_kept (by (with_reducible repeat (first | refine blk_drewN ?_ _ | refine blk_drew ?_ | refine blk_alloc ?_ _)); exact BK106.out) hkp (fun hs_ => (fun e_ => (Kd.R_ne HO_3.out BK106.out (by decide)) e_) hs_)); have n2_ := Aside0.mk (Kd.R_mono (ok' := fun k_ => True) ho0 (fun k_ hk_ => trivial)); have n3_ := Aside0.mk (hb); clear BK101; clear BK106; clear HB; clear HO_3; have BK101 := n0_; have BK106 := n1_; have HO112 := n2_; have HB := n3_; clear n0_ n1_ n2_ n3_; (try clear hb); (try clear hkp); (try clear ho0)))
                                  go_roundg k3
                                  case measure => have := HK1.out; have := HK2.out; have := HK3.out; omega
                                  case rel => exact ⟨(t110), (true), (wrap64 (x21_3 + 1)), (by first | rfl | (simp; done) | (simp [*]; done)), (by first | rfl | (simp; done) | (simp [*]; done)), H', ⟨by have := HK1.out; have := HK2.out; have := HK3.out; omega⟩, ⟨by (with_reducible repeat (first | apply Kd.R_alloc | apply Kd.R_drewN | apply Kd.R_drew)); exact HO112.out⟩, ⟨by (with_reducible repeat (first | refine blk_drewN ?_ _ | refine blk_drew ?_ | refine blk_alloc ?_ _)); exact BK101.out⟩, ⟨by (with_reducible repeat (first | refine blk_drewN ?_ _ | refine blk_drew ?_ | refine blk_alloc ?_ _)); exact BK106.out⟩, ⟨by repeat (first | (with_reducible first | exact HB.out | apply below_alloc | apply pw_below_drewN | apply below_drew1 | refine below_set ?_ GE101.out | refine below_set ?_ GE106.out) | exact HB.out)⟩⟩
                              · replace c18 := Bool.eq_false_iff.mpr c18
                                subst c18
                                have H1 : (spec_l3Reached.l2 k3 x3_3 x4_3 l0_2 (l0_2.length : Int) x14_2 ((rd_T87 l0_2 x14_2).f1) (((rd_T87 l0_2 x14_2).f1).length : Int) (wrap64 (x21_3 + 1)) a0_0 a0_1 l0_2 ((rd_T87 l0_2 x14_2).f0) ((rd_T87 l0_2 x14_2).f1)) = some r := by rw [if_neg (show ¬ (false = true) by decide)] at H; exact H
                                clear H
                                have H := H1
                                clear H1
                                have H' := Aside0.mk H
                                clear H
                                have p107 : 0 ≤ (x21_3 : Int) := of_decide_eq_true (by first | (with_reducible assumption) | assumption)
                                have q107 : x21_3 < (((rd_T87 l0_2 x14_2).f1).length : Int) := of_decide_eq_true (by first | (with_reducible assumption) | assumption)
                                obtain ⟨ad107, e107, hx107_0⟩ := Kd.at_int HR105_1.out x21_3 p107 q107
                                cases e107
                                replace hx107_0 := (HB.out.cell (World.block_lt_of_cell? w _ hx107_0)).trans hx107_0
                                replace p107 := eq_true p107
                                replace q107 := eq_true q107
                                have hnb29 := NB106_101.out
                                have hnc29 := NB101_106.out
                                have hcz30_0 : wr.cell? ⟨gb106, 0, none⟩ = some (.int .i64 ((rd_T87 l0_2 x14_2).f0)) := (blk_cell BK106.out 0).trans rfl
                                have hcz30_1 : wr.cell? ⟨gb106, 1, none⟩ = some (.slice (some ad107) ((rd_T87 l0_2 x14_2).f1).length c105_1) := (blk_cell BK106.out 1).trans rfl
                                have hfz30_0 := blk_frozen BK106.out 0
                                have hfz30_1 := blk_frozen BK106.out 1
                                obtain ⟨Ao31, co31, eo31⟩ := Kd.R_slice HO_3.out
                                subst eo31
                                go_wp2_with (first | (go_at_call 86; (with_reducible refine (spec_l1Has.calls k3 _ _ x3_3 ((rd_T87 l0_2 x14_2).f0) false _ ?side1 ?side2 A17.out).mono ?_); (case side1 => repeat (first | exact (Kd.R_reads' HO_3.out).2.2 | (with_reducible refine Kd.C_alloc ?_ _) | (with_reducible refine Kd.C_drewN ?_ _) | (with_reducible refine Kd.C_drew ?_))); (case side2 => exact (Kd.R_reads' HO_3.out).2.1); rintro e w' ⟨rfl, ⟨nd, rfl⟩⟩))
                                go_roundg k3
                                case measure => have := HK1.out; have := HK2.out; have := HK3.out; omega
                                case rel => exact ⟨(x3_3), (x4_3), (wrap64 (x21_3 + 1)), (by first | rfl | (simp; done) | (simp [*]; done)), (by first | rfl | (simp; done) | (simp [*]; done)), H', ⟨by have := HK1.out; have := HK2.out; have := HK3.out; omega⟩, ⟨by (with_reducible repeat (first | apply Kd.R_alloc | apply Kd.R_drewN | apply Kd.R_drew)); exact HO_3.out⟩, ⟨by (with_reducible repeat (first | refine blk_drewN ?_ _ | refine blk_drew ?_ | refine blk_alloc ?_ _)); exact BK101.out⟩, ⟨by (with_reducible repeat (first | refine blk_drewN ?_ _ | refine blk_drew ?_ | refine blk_alloc ?_ _)); exact BK106.out⟩, ⟨by repeat (first | (with_reducible first | exact HB.out | apply below_alloc | apply pw_below_drewN | apply below_drew1 | refine below_set ?_ GE101.out | refine below_set ?_ GE106.out) | exact HB.out)⟩⟩
                            · rw [if_neg c16] at H
                              have c16b0 : decide (0 ≤ (rd ((rd_T87 l0_2 x14_2).f1) x21_3)) = false := decide_eq_false c16
                              clear c16
                              have H' := Aside0.mk H
                              clear H
                              have p107 : 0 ≤ (x21_3 : Int) := of_decide_eq_true (by first | (with_reducible assumption) | assumption)
                              have q107 : x21_3 < (((rd_T87 l0_2 x14_2).f1).length : Int) := of_decide_eq_true (by first | (with_reducible assumption) | assumption)
                              obtain ⟨ad107, e107, hx107_0⟩ := Kd.at_int HR105_1.out x21_3 p107 q107
                              cases e107
                              replace hx107_0 := (HB.out.cell (World.block_lt_of_cell? w _ hx107_0)).trans hx107_0
                              replace p107 := eq_true p107
                              replace q107 := eq_true q107
                              go_wp2
                              go_roundg k3
                              case measure => have := HK1.out; have := HK2.out; have := HK3.out; omega
                              case rel => exact ⟨(x3_3), (x4_3), (wrap64 (x21_3 + 1)), (by first | rfl | (simp; done) | (simp [*]; done)), (by first | rfl | (simp; done) | (simp [*]; done)), H', ⟨by have := HK1.out; have := HK2.out; have := HK3.out; omega⟩, ⟨by (with_reducible repeat (first | apply Kd.R_alloc | apply Kd.R_drewN | apply Kd.R_drew)); exact HO_3.out⟩, ⟨by (with_reducible repeat (first | refine blk_drewN ?_ _ | refine blk_drew ?_ | refine blk_alloc ?_ _)); exact BK101.out⟩, ⟨by (with_reducible repeat (first | refine blk_drewN ?_ _ | refine blk_drew ?_ | refine blk_alloc ?_ _)); exact BK106.out⟩, ⟨by repeat (first | (with_reducible first | exact HB.out | apply below_alloc | apply pw_below_drewN | apply below_drew1 | refine below_set ?_ GE101.out | refine below_set ?_ GE106.out) | exact HB.out)⟩⟩
                          · rw [if_neg c15] at H
                            exact absurd H (by simp)
                        · rw [if_neg c14] at H
                          exact absurd H (by simp)
                      · rw [if_neg c13] at H
                        have c13b0 : decide (x21_3 < (((rd_T87 l0_2 x14_2).f1).length : Int)) = false := decide_eq_false c13
                        clear c13
                        have H' := Aside0.mk H
                        clear H
                        go_wp2
                        go_roundg k3
                        case measure => have := HK1.out; have := HK2.out; have := HK3.out; omega
                        case rel => exact ⟨(x3_3), (x4_3), (wrap64 (x14_2 + 1)), (by first | rfl | (simp; done) | (simp [*]; done)), (by first | rfl | (simp; done) | (simp [*]; done)), H', ⟨by have := HK1.out; have := HK2.out; have := HK3.out; omega⟩, ⟨by (with_reducible repeat (first | apply Kd.R_alloc | apply Kd.R_drewN | apply Kd.R_drew)); exact HO_3.out⟩, ⟨by (with_reducible repeat (first | refine blk_drewN ?_ _ | refine blk_drew ?_ | refine blk_alloc ?_ _)); exact BK101.out⟩, ⟨by repeat (first | (with_reducible first | exact HB.out | apply below_alloc | apply pw_below_drewN | apply below_drew1 | refine below_set ?_ GE101.out | refine below_set ?_ GE106.out) | exact HB.out)⟩⟩
                · rw [if_neg c9] at H
                  exact absurd H (by simp)
              · rw [if_neg c8] at H
                exact absurd H (by simp)
            · rw [if_neg c7] at H
              have c7b0 : decide (x14_2 < (l0_2.length : Int)) = false := decide_eq_false c7
              clear c7
              have H' := Aside0.mk H
              clear H
              go_wp2
              go_roundg k2
              case measure => have := HK1.out; have := HK2.out; omega
              case rel => exact ⟨(x3_2), (x4_2), (by first | rfl | (simp; done) | (simp [*]; done)), H', ⟨by have := HK1.out; have := HK2.out; omega⟩, ⟨by (with_reducible repeat (first | apply Kd.R_alloc | apply Kd.R_drewN | apply Kd.R_drew)); exact HO_3.out⟩, ⟨by (with_reducible repeat (first | refine blk_drewN ?_ _ | refine blk_drew ?_ | refine blk_alloc ?_ _)); exact BK101.out⟩, ⟨by repeat (first | (with_reducible first | exact HB.out | apply below_alloc | apply pw_below_drewN | apply below_drew1 | refine below_set ?_ GE101.out) | exact HB.out)⟩⟩
      · replace c5 := Bool.eq_false_iff.mpr c5
        subst c5
        have H1 : (some x3_1) = some r := by rw [if_neg (show ¬ (false = true) by decide)] at H; exact H
        clear H
        have H := H1
        clear H1
        obtain rfl := Option.some.inj H
        go_wp2
        go_ret
        exact ⟨_, by first | rfl | (simp [errW_none, errW_some] <;> rfl) | (simp [*, errW_none, errW_some] <;> rfl), by (with_reducible repeat (first | apply Kd.R_alloc | apply Kd.R_drewN | apply Kd.R_drew)); exact HO_3.out, by repeat (first | (with_reducible first | exact HB.out | apply below_alloc | apply pw_below_drewN | apply below_drew1 | refine below_set ?_ GE101.out) | exact HB.out)⟩
end Go.Proofs.Ytekoclhnfhbmeaa.P
namespace Go.Proofs.Ytekoclhnfhbmeaa.P
open Go.RowKit Go.Proofs.YtekoclhnfhbmeaaW.PrintWords
set_option linter.unusedVariables false
set_option linter.unusedSimpArgs false
theorem stepX_len (f x : Int) (q : List Bool × Bool) (h : q.1.length = 6) : (stepX f x q).1.length = 6 := by
  unfold stepX
  split
  · exact set6_len _ _ h
  · exact h
theorem ruleX_len (f : Int) (l : List Int) : ∀ q : List Bool × Bool, q.1.length = 6 → (ruleX f l q).1.length = 6 := by
  induction l with
  | nil => exact fun q h => h
  | cons x l ih => exact fun q h => ih _ (stepX_len f x q h)
theorem stepX_cnt (f x : Int) (hx : x < 6) (q : List Bool × Bool) (h : q.1.length = 6) :
    cntF (stepX f x q).1 ≤ cntF q.1 ∧ ((stepX f x q).2 = true → q.2 = true ∨ cntF (stepX f x q).1 < cntF q.1) := by
  unfold stepX
  split
  · rename_i hc
    simp only [Bool.and_eq_true, Bool.not_eq_true', decide_eq_true_eq] at hc
    have := cntF_set q.1 x.toNat (by omega) hc.2.2
    exact ⟨by dsimp only; omega, fun _ => .inr (by dsimp only; omega)⟩
  · exact ⟨Nat.le_refl _, fun h => .inl h⟩
theorem ruleX_cnt (f : Int) (l : List Int) (hl : ∀ x, x ∈ l → x < 6) : ∀ q : List Bool × Bool, q.1.length = 6 →
    cntF (ruleX f l q).1 ≤ cntF q.1 ∧ ((ruleX f l q).2 = true → q.2 = true ∨ cntF (ruleX f l q).1 < cntF q.1) := by
  induction l with
  | nil => intro q h; exact ⟨Nat.le_refl _, fun h => .inl h⟩
  | cons x l ih =>
    intro q h
    obtain ⟨h2, h3⟩ := ih (fun y hy => hl y (List.mem_cons_of_mem _ hy)) (stepX f x q) (stepX_len f x q h)
    obtain ⟨h4, h5⟩ := stepX_cnt f x (hl x List.mem_cons_self) q h
    refine ⟨Nat.le_trans h2 h4, fun h6 => ?_⟩
    rcases h3 h6 with h7 | h7
    · rcases h5 h7 with h8 | h8
      · exact .inl h8
      · exact .inr (Nat.lt_of_le_of_lt h2 h8)
    · exact .inr (Nat.lt_of_lt_of_le h7 h4)
theorem passX_cnt (l : List S87) (hl : ∀ y, y ∈ l → ∀ x, x ∈ y.f1 → x < 6) : ∀ q : List Bool × Bool, q.1.length = 6 →
    (passX l q).1.length = 6 ∧ cntF (passX l q).1 ≤ cntF q.1 ∧ ((passX l q).2 = true → q.2 = true ∨ cntF (passX l q).1 < cntF q.1) := by
  induction l with
  | nil => intro q h; exact ⟨h, Nat.le_refl _, fun h => .inl h⟩
  | cons y l ih =>
    intro q h
    obtain ⟨h1, h2, h3⟩ := ih (fun z hz => hl z (List.mem_cons_of_mem _ hz)) (ruleX y.f0 y.f1 q) (ruleX_len _ _ q h)
    obtain ⟨h4, h5⟩ := ruleX_cnt y.f0 y.f1 (hl y List.mem_cons_self) q h
    refine ⟨h1, Nat.le_trans h2 h4, fun h6 => ?_⟩
    rcases h3 h6 with h7 | h7
    · rcases h5 h7 with h8 | h8
      · exact .inl h8
      · exact .inr (Nat.lt_of_le_of_lt h2 h8)
    · exact .inr (Nat.lt_of_lt_of_le h7 h4)
theorem okL_sym {l : List S87} (h : okL l) : ∀ y, y ∈ l → ∀ x, x ∈ y.f1 → x < 6 := fun y hy x hx => by
  obtain ⟨j, hj, rfl⟩ := rd_mem hy
  obtain ⟨i, hi, rfl⟩ := List.getElem_of_mem hx
  have := (h.2 j hj).1.2 i hi
  unfold rd at this
  rw [List.getD_eq_getElem?_getD, Int.toNat_natCast, List.getElem?_eq_getElem hi] at this
  exact this
theorem reach_l2 (a0 a1 : Int) (l : List S87) (i : Int) (y : S87) (hy : okR6 y) (hyl : y.f1.length ≤ 4) (X : List Int) (d : Nat) : ∀ (j : Nat) (s : List Bool) (ag : Bool), s.length = 6 → j ≤ y.f1.length → y.f1.length - j = d →
    Ev (fun k => spec_l3Reached.l1 k (placesF 0 (ruleX y.f0 (y.f1.drop j) (s, ag)).1) (ruleX y.f0 (y.f1.drop j) (s, ag)).2 l l.length (wrap64 (i + 1)) a0 a1 l) X →
    Ev (fun k => spec_l3Reached.l2 k (placesF 0 s) ag l l.length i y.f1 y.f1.length j a0 a1 l y.f0 y.f1) X := by
  induction d with
  | zero =>
    intro j s ag hs h1 hd h0
    rw [List.drop_of_length_le (by omega)] at h0
    obtain ⟨K, h⟩ := h0
    dsimp only at h
    refine ⟨K + 1, fun k hk => ?_⟩
    dsimp only
    obtain ⟨k, rfl⟩ : ∃ m, k = m + 1 := ⟨k - 1, by omega⟩
    simp only [spec_l3Reached.l2]
    rw [if_neg (by omega)]
    exact h k (by omega)
  | succ d ih =>
    intro j s ag hs h1 hd h0
    have hj : j < y.f1.length := by omega
    have hx6 := hy.2 j hj
    have hdj : y.f1.drop j = rd y.f1 j :: y.f1.drop (j + 1) := getD_drop y.f1 j 0 hj
    have ew : wrap64 ((j : Int) + 1) = ((j + 1 : Nat) : Int) := by unfold wrap64; omega
    rw [hdj] at h0
    have hstep : ruleX y.f0 (rd y.f1 j :: y.f1.drop (j + 1)) (s, ag) = ruleX y.f0 (y.f1.drop (j + 1)) (stepX y.f0 (rd y.f1 j) (s, ag)) := rfl
    rw [hstep] at h0
    have hlen := stepX_len y.f0 (rd y.f1 j) (s, ag) hs
    obtain ⟨K, h⟩ := ih (j + 1) _ _ hlen (by omega) (by omega) (show Ev (fun k => spec_l3Reached.l1 k (placesF 0 (ruleX y.f0 (y.f1.drop (j + 1)) ((stepX y.f0 (rd y.f1 j) (s, ag)).1, (stepX y.f0 (rd y.f1 j) (s, ag)).2)).1) (ruleX y.f0 (y.f1.drop (j + 1)) ((stepX y.f0 (rd y.f1 j) (s, ag)).1, (stepX y.f0 (rd y.f1 j) (s, ag)).2)).2 l l.length (wrap64 (i + 1)) a0 a1 l) X from h0)
    dsimp only at h
    refine ⟨K + 11, fun k hk => ?_⟩
    dsimp only
    obtain ⟨k, rfl⟩ : ∃ m, k = m + 1 := ⟨k - 1, by omega⟩
    have hk2 := h k (by omega)
    simp only [spec_l3Reached.l2]
    rw [if_pos (by omega), if_pos (by omega), if_pos (by omega), ew]
    by_cases h0 : rd y.f1 j ≥ 0
    · rw [if_pos h0, has6 s hs y.f0 hy.1.1 hy.1.2 k (by omega)]
      simp only [Option.bind_some]
      cases hv : s.getD y.f0.toNat false with
      | true =>
        rw [if_pos rfl, has6 s hs (rd y.f1 j) h0 hx6 k (by omega)]
        simp only [Option.bind_some]
        cases hu : s.getD (rd y.f1 j).toNat false with
        | true =>
          have e : stepX y.f0 (rd y.f1 j) (s, ag) = (s, ag) := by unfold stepX; exact if_neg (by rw [show (s, ag).1 = s from rfl, hv, hu, decide_eq_true (show 0 ≤ rd y.f1 j from h0)]; decide)
          rw [e] at hk2
          rw [if_pos rfl]
          exact hk2
        | false =>
          have e : stepX y.f0 (rd y.f1 j) (s, ag) = (s.set (rd y.f1 j).toNat true, true) := by unfold stepX; exact if_pos (by rw [show (s, ag).1 = s from rfl, hv, hu, decide_eq_true (show 0 ≤ rd y.f1 j from h0)]; rfl)
          rw [e] at hk2
          rw [if_neg (by decide), put6 s hs (rd y.f1 j) h0 hx6 k (by omega)]
          exact hk2
      | false =>
        have e : stepX y.f0 (rd y.f1 j) (s, ag) = (s, ag) := by unfold stepX; exact if_neg (by rw [show (s, ag).1 = s from rfl, hv, Bool.false_and]; decide)
        rw [e] at hk2
        rw [if_neg (by decide)]
        exact hk2
    · have e : stepX y.f0 (rd y.f1 j) (s, ag) = (s, ag) := by unfold stepX; exact if_neg (by rw [decide_eq_false (show ¬ 0 ≤ rd y.f1 j from h0), Bool.false_and, Bool.and_false]; decide)
      rw [e] at hk2
      rw [if_neg h0]
      exact hk2
theorem reach_l1 (a0 a1 : Int) (l : List S87) (hl : okL l) (X : List Int) (d : Nat) : ∀ (i : Nat) (s : List Bool) (ag : Bool), s.length = 6 → i ≤ l.length → l.length - i = d →
    Ev (fun k => spec_l3Reached.l0 k (placesF 0 (passX (l.drop i) (s, ag)).1) (passX (l.drop i) (s, ag)).2 a0 a1 l) X →
    Ev (fun k => spec_l3Reached.l1 k (placesF 0 s) ag l l.length i a0 a1 l) X := by
  have hb := hl.1
  induction d with
  | zero =>
    intro i s ag hs h1 hd h0
    rw [List.drop_of_length_le (by omega)] at h0
    obtain ⟨K, h⟩ := h0
    dsimp only at h
    refine ⟨K + 1, fun k hk => ?_⟩
    dsimp only
    obtain ⟨k, rfl⟩ : ∃ m, k = m + 1 := ⟨k - 1, by omega⟩
    simp only [spec_l3Reached.l1]
    rw [if_neg (by omega)]
    exact h k (by omega)
  | succ d ih =>
    intro i s ag hs h1 hd h0
    have hi : i < l.length := by omega
    obtain ⟨hy, hyl⟩ := hl.2 i hi
    have hdi : l.drop i = rd_T87 l i :: l.drop (i + 1) := getD_drop l i z87 hi
    rw [hdi] at h0
    have ew : wrap64 ((i : Int) + 1) = ((i + 1 : Nat) : Int) := by unfold wrap64; omega
    have hstep : ∀ q, passX (rd_T87 l i :: l.drop (i + 1)) q = passX (l.drop (i + 1)) (ruleX (rd_T87 l i).f0 (rd_T87 l i).f1 q) := fun _ => rfl
    rw [hstep] at h0
    have hlen := ruleX_len (rd_T87 l i).f0 (rd_T87 l i).f1 (s, ag) hs
    obtain ⟨K, h⟩ := reach_l2 a0 a1 l i (rd_T87 l i) hy hyl X (rd_T87 l i).f1.length 0 s ag hs (by omega) (by omega) (by
      rw [List.drop_zero, ew]
      exact ih (i + 1) _ _ hlen (by omega) (by omega) h0)
    dsimp only at h
    refine ⟨K + 1, fun k hk => ?_⟩
    dsimp only
    obtain ⟨k, rfl⟩ : ∃ m, k = m + 1 := ⟨k - 1, by omega⟩
    simp only [spec_l3Reached.l1]
    rw [if_pos (by omega), if_pos (by omega), if_pos (by omega)]
    exact h k (by omega)
theorem reach_l0 (a0 a1 : Int) (l : List S87) (hl : okL l) (n : Nat) : ∀ s : List Bool, s.length = 6 → cntF s < n →
    Ev (fun k => spec_l3Reached.l0 k (placesF 0 s) true a0 a1 l) (placesF 0 (reachN l n s)) := by
  induction n with
  | zero => intro s _ h; omega
  | succ n ih =>
    intro s hs hc
    obtain ⟨h1, h2, h3⟩ := passX_cnt l (okL_sym hl) (s, false) hs
    have key : Ev (fun k => spec_l3Reached.l0 k (placesF 0 (passX l (s, false)).1) (passX l (s, false)).2 a0 a1 l) (placesF 0 (reachN l (n + 1) s)) := by
      have e : reachN l (n + 1) s = if (passX l (s, false)).2 = true then reachN l n (passX l (s, false)).1 else (passX l (s, false)).1 := rfl
      rw [e]
      cases hq : (passX l (s, false)).2 with
      | true =>
        rw [if_pos rfl]
        refine ih _ h1 ?_
        rcases h3 hq with h4 | h4
        · cases h4
        · have h5 : cntF (passX l (s, false)).1 < cntF s := h4
          omega
      | false =>
        rw [if_neg (by decide)]
        refine ⟨1, fun k hk => ?_⟩
        dsimp only
        obtain ⟨k, rfl⟩ : ∃ m, k = m + 1 := ⟨k - 1, by omega⟩
        simp only [spec_l3Reached.l0]
        rw [if_neg (by decide)]
    obtain ⟨K, h⟩ := reach_l1 a0 a1 l hl _ l.length 0 s false hs (by omega) (by omega) (by rw [List.drop_zero]; exact key)
    dsimp only at h
    refine ⟨K + 1, fun k hk => ?_⟩
    dsimp only
    obtain ⟨k, rfl⟩ : ∃ m, k = m + 1 := ⟨k - 1, by omega⟩
    simp only [spec_l3Reached.l0]
    rw [if_pos trivial]
    exact h k (by omega)
theorem l3Reached_ev (a0 a1 : Int) (l : List S87) (hl : okL l) : Ev (fun k => spec_l3Reached.f k a0 a1 l) (placesF 0 (reachF l)) :=
  reach_l0 a0 a1 l hl 7 [true, false, false, false, false, false] rfl (by decide)
theorem passX_len (l : List S87) : ∀ q : List Bool × Bool, q.1.length = 6 → (passX l q).1.length = 6 := by
  induction l with
  | nil => exact fun q h => h
  | cons y l ih => exact fun q h => ih _ (ruleX_len _ _ q h)
theorem reachN_len (l : List S87) (n : Nat) : ∀ s : List Bool, s.length = 6 → (reachN l n s).length = 6 := by
  induction n with
  | zero => intro s h; exact h
  | succ n ih =>
    intro s h
    unfold reachN
    split
    · exact ih _ (passX_len l (s, false) h)
    · exact passX_len l (s, false) h
theorem reachF_len (l : List S87) : (reachF l).length = 6 := reachN_len l 7 _ rfl
end Go.Proofs.Ytekoclhnfhbmeaa.P
namespace Go.Proofs.Ytekoclhnfhbmeaa.P
open Go.RowKit Go.Proofs.YtekoclhnfhbmeaaW.PrintWords Go.Proofs.YtekoclhnfhbmeaaW.PrintLast Go.Proofs.YtekoclhnfhbmeaaW.PrintMore
set_option linter.unusedVariables false
set_option linter.unusedSimpArgs false
def useF1 (P R : List Bool) (x : S87) : Bool := (!R.getD x.f0.toNat false || !P.getD x.f0.toNat false) || x.f1.any (proP P)
def useF2 (R : List Bool) (x : S87) : Bool := !R.getD x.f0.toNat false
def useA (l : List S87) : List S87 := l.filter fun x => !useF1 (closedF mkPro l) (reachF l) x
def usefulF (l : List S87) : List S87 := (useA l).filter fun x => !useF2 (reachF (useA l)) x
theorem mem_rd {l : List S87} {j : Nat} (h : j < l.length) : rd_T87 l j ∈ l := by
  unfold rd_T87
  rw [Int.toNat_natCast, List.getD_eq_getElem?_getD, List.getElem?_eq_getElem h]
  exact List.getElem_mem h
theorem filter_ok {l : List S87} {p : S87 → Bool} (h : ∀ j : Nat, j < l.length → okR6 (rd_T87 l j)) : ∀ j : Nat, j < (l.filter p).length → okR6 (rd_T87 (l.filter p) j) := fun j hj => by
  obtain ⟨i, hi, he⟩ := rd_mem (List.mem_filter.1 (mem_rd hj)).1
  rw [← he]
  exact h i hi
theorem below_grown {w W V : World} {row : Option Nat} (h : Below w.heap.size w W) (hg : W.grownBy V row) (hr : ∀ k, row = some k → w.heap.size ≤ k) : Below w.heap.size w V :=
  ⟨hg.os.trans h.os, hg.tape.trans h.tape, hg.output.trans h.output, Nat.le_trans h.size hg.size, fun k hk => (hg.block k (Nat.lt_of_lt_of_le hk h.size) (fun e => by have := hr k e.symm; omega)).trans (h.block k hk)⟩
theorem S_put {α : Type} {d : Kd α} {e g t base : Nat} {W W' : World} {ok : Nat → Prop} {v : Value} {xs : List α} {cells : Array Value} (h : Kd.S d e W base ok v xs) (hb : W.heap[g]? = some (.cells cells t (0, 0))) (ht : ∀ q, q ∈ e :: d.E → q ≠ t) (hW : ∀ k, k ≠ g → W'.heap[k]? = W.heap[k]?) : Kd.S d e W' base ok v xs :=
  Kd.S_mono (Kd.S_step (Kd.S_types h hb ht) (fun k hk _ => hW k hk.2)) (fun _ hk => hk.1)
set_option maxHeartbeats 2000000 in
theorem pred_use (b0 b1 b2 b3 b4 b5 : Bool) (B : Nat) (w : World) (hB : w.heap[B]? = some (.cells #[.bool b0, .bool b1, .bool b2, .bool b3, .bool b4, .bool b5] 106 (0, 0))) :
    PredID 102 #[.pointer (some ⟨B, 0, none⟩)] (fun x => x < 6) (fun x => decide (0 ≤ x) && ![b0, b1, b2, b3, b4, b5].getD x.toNat false) w := fun W x hb hx => by
  have hB' := blk_below hB hb
  clear hb hB
  show Calls Try.prog 102 #[.int .i64 x, .pointer (some ⟨B, 0, none⟩)] W fun e w' => e = .returned (.bool (decide (0 ≤ x) && ![b0, b1, b2, b3, b4, b5].getD x.toNat false)) ∧ Below W.heap.size W w'
  by_cases h0 : x < 0
  · have d1 : decide (x < 0) = true := decide_eq_true h0
    have d2 : decide (0 ≤ x) = false := decide_eq_false (by omega)
    clear h0 hB'
    go_enter Try.func102, Try.ntmps102
    go_wp2
    go_ret
    exact ⟨by simp [d1, d2], Below.refl _ _⟩
  · have d1 : decide (x < 0) = false := decide_eq_false h0
    have d2 : decide (0 ≤ x) = true := decide_eq_true (by omega)
    have h1 : 0 ≤ x := by omega
    have hn : x.toNat < 6 := by omega
    have hc : W.cell? ⟨B, x.toNat, none⟩ = some (.bool ([b0, b1, b2, b3, b4, b5].getD x.toNat false)) := (blk_cell hB' x.toNat).trans (bools_get b0 b1 b2 b3 b4 b5 x.toNat hn)
    have D := Aside0.mk (And.intro d1 d2)
    clear hB' h0
    generalize [b0, b1, b2, b3, b4, b5].getD x.toNat false = v at hc ⊢
    go_enter Try.func102, Try.ntmps102
    go_wp2
    go_ret
    exact ⟨by cases v <;> rfl, Below.refl _ _⟩
theorem pred_u1 (p0 p1 p2 p3 p4 p5 q0 q1 q2 q3 q4 q5 : Bool) (gp gr : Nat) (row : Option Nat) (w : World) (hP : w.heap[gp]? = some (.cells #[.bool p0, .bool p1, .bool p2, .bool p3, .bool p4, .bool p5] 106 (0, 0))) (hR : w.heap[gr]? = some (.cells #[.bool q0, .bool q1, .bool q2, .bool q3, .bool q4, .bool q5] 106 (0, 0))) (hpa : some gp ≠ row) (hra : some gr ≠ row) :
    PredRG 100 #[.pointer (some ⟨gr, 0, none⟩), .pointer (some ⟨gp, 0, none⟩)] (fun x => okR6 x) (useF1 [p0, p1, p2, p3, p4, p5] [q0, q1, q2, q3, q4, q5]) row w := fun W x A c hb hc hr ok => by
  show Calls Try.prog 100 #[.agg #[.int .i64 x.f0, .slice A x.f1.length c], .pointer (some ⟨gr, 0, none⟩), .pointer (some ⟨gp, 0, none⟩)] W fun e w' => e = .returned (.bool (useF1 [p0, p1, p2, p3, p4, p5] [q0, q1, q2, q3, q4, q5] x)) ∧ Below W.heap.size W w'
  have eg : ∀ args w, (callFunc 102 args).run Try.prog w = .ok (.enter 102 args) w := enters_of Try.func102 (by kernel_rfl) rfl
  have hP2 := blk_grown hP hb hpa
  have hR2 := blk_grown hR hb hra
  have CF := fun (V : World) (hV : Below W.heap.size W V) =>
    containsFunc_intD _ #[.pointer (some ⟨gp, 0, none⟩)] eg (proP [p0, p1, p2, p3, p4, p5]) A c x.f1 V (Kd.C_below hr hV) hc (fun x => x < 6) ok.2 (pred_use p0 p1 p2 p3 p4 p5 gp V (blk_below hP2 hV))
  have hn0 : 0 ≤ x.f0 := ok.1.1
  have hn1 : x.f0 < 6 := ok.1.2
  have hnn : x.f0.toNat < 6 := by omega
  have hcp : W.cell? ⟨gp, x.f0.toNat, none⟩ = some (.bool ([p0, p1, p2, p3, p4, p5].getD x.f0.toNat false)) := (blk_cell hP2 x.f0.toNat).trans (bools_get p0 p1 p2 p3 p4 p5 x.f0.toNat hnn)
  have hcr : W.cell? ⟨gr, x.f0.toNat, none⟩ = some (.bool ([q0, q1, q2, q3, q4, q5].getD x.f0.toNat false)) := (blk_cell hR2 x.f0.toNat).trans (bools_get q0 q1 q2 q3 q4 q5 x.f0.toNat hnn)
  unfold useF1
  have HB := Aside0.mk (Below.refl W.heap.size W)
  have HCP := Aside0.mk hcp
  have HCR := Aside0.mk hcr
  clear hb hr ok eg hP hR hP2 hR2 hcp hcr hpa hra
  generalize x.f1.any (proP [p0, p1, p2, p3, p4, p5]) = v at CF ⊢
  generalize [p0, p1, p2, p3, p4, p5].getD x.f0.toNat false = pv at HCP ⊢
  generalize [q0, q1, q2, q3, q4, q5].getD x.f0.toNat false = rv at HCR ⊢
  cases rv with
  | false =>
    clear CF HCP
    go_enter Try.func100, Try.ntmps100
    go_wp2_with (first | ((with_reducible refine gate_dst (N := 3) rfl ?_); refine box_event ?hg (N := 3) ?hd (cs := #[.int .i64 x.f0, .slice A x.f1.length c]) (t := 87) ?hr ?_; (case hd => rfl); (case hg => rfl); (case hr => first | (go_simp; done) | (go_simp; rfl)); intro gx hg_ w1 hbox_ hb_; have GE_gx := Aside0.mk (show W.heap.size ≤ gx by rw [hg_]; exact below_size (by repeat (first | (with_reducible first | exact HB.out | apply below_alloc | apply pw_below_drewN | apply below_drew1) | exact HB.out))); have n0_ := Aside0.mk (below_step (by repeat (first | (with_reducible first | exact HB.out | apply below_alloc | apply pw_below_drewN | apply below_drew1) | exact HB.out)) hb_); clear HB; have HB := n0_; clear n0_; have B_gx := Aside0.mk hbox_; clear hb_ hbox_ hg_; have x_gx_0 : w1.cell? ⟨gx, 0, none⟩ = some (.int .i64 x.f0) := (blk_cell B_gx.out 0).trans rfl; have x_gx_1 : w1.cell? ⟨gx, 1, none⟩ = some (.slice A x.f1.length c) := (blk_cell B_gx.out 1).trans rfl; have hcr1 := (HB.out.cell (World.block_lt_of_cell? W _ HCR.out)).trans HCR.out))
    go_ret
    exact ⟨rfl, HB.out⟩
  | true =>
    cases pv with
    | false =>
      clear CF
      go_enter Try.func100, Try.ntmps100
      go_wp2_with (first | ((with_reducible refine gate_dst (N := 3) rfl ?_); refine box_event ?hg (N := 3) ?hd (cs := #[.int .i64 x.f0, .slice A x.f1.length c]) (t := 87) ?hr ?_; (case hd => rfl); (case hg => rfl); (case hr => first | (go_simp; done) | (go_simp; rfl)); intro gx hg_ w1 hbox_ hb_; have GE_gx := Aside0.mk (show W.heap.size ≤ gx by rw [hg_]; exact below_size (by repeat (first | (with_reducible first | exact HB.out | apply below_alloc | apply pw_below_drewN | apply below_drew1) | exact HB.out))); have n0_ := Aside0.mk (below_step (by repeat (first | (with_reducible first | exact HB.out | apply below_alloc | apply pw_below_drewN | apply below_drew1) | exact HB.out)) hb_); clear HB; have HB := n0_; clear n0_; have B_gx := Aside0.mk hbox_; clear hb_ hbox_ hg_; have x_gx_0 : w1.cell? ⟨gx, 0, none⟩ = some (.int .i64 x.f0) := (blk_cell B_gx.out 0).trans rfl; have x_gx_1 : w1.cell? ⟨gx, 1, none⟩ = some (.slice A x.f1.length c) := (blk_cell B_gx.out 1).trans rfl; have hcr1 := (HB.out.cell (World.block_lt_of_cell? W _ HCR.out)).trans HCR.out; have hcp1 := (HB.out.cell (World.block_lt_of_cell? W _ HCP.out)).trans HCP.out))
      go_ret
      exact ⟨rfl, HB.out⟩
    | true =>
      go_enter Try.func100, Try.ntmps100
      go_wp2_with (first | ((with_reducible refine gate_dst (N := 3) rfl ?_); refine box_event ?hg (N := 3) ?hd (cs := #[.int .i64 x.f0, .slice A x.f1.length c]) (t := 87) ?hr ?_; (case hd => rfl); (case hg => rfl); (case hr => first | (go_simp; done) | (go_simp; rfl)); intro gx hg_ w1 hbox_ hb_; have GE_gx := Aside0.mk (show W.heap.size ≤ gx by rw [hg_]; exact below_size (by repeat (first | (with_reducible first | exact HB.out | apply below_alloc | apply pw_below_drewN | apply below_drew1) | exact HB.out))); have n0_ := Aside0.mk (below_step (by repeat (first | (with_reducible first | exact HB.out | apply below_alloc | apply pw_below_drewN | apply below_drew1) | exact HB.out)) hb_); clear HB; have HB := n0_; clear n0_; have B_gx := Aside0.mk hbox_; clear hb_ hbox_ hg_; have x_gx_0 : w1.cell? ⟨gx, 0, none⟩ = some (.int .i64 x.f0) := (blk_cell B_gx.out 0).trans rfl; have x_gx_1 : w1.cell? ⟨gx, 1, none⟩ = some (.slice A x.f1.length c) := (blk_cell B_gx.out 1).trans rfl; have hcr1 := (HB.out.cell (World.block_lt_of_cell? W _ HCR.out)).trans HCR.out; have hcp1 := (HB.out.cell (World.block_lt_of_cell? W _ HCP.out)).trans HCP.out) | (go_at_call 101; (with_reducible refine (CF _ HB.out).mono ?_); rintro e w3 ⟨rfl, hb_⟩; clear x_gx_0 x_gx_1 hcr1 hcp1; have n0_ := Aside0.mk (below_step (by repeat (first | (with_reducible first | exact HB.out | apply below_alloc | apply pw_below_drewN | apply below_drew1) | exact HB.out)) hb_); have n_gx := Aside0.mk (blk_below (by (with_reducible repeat (first | refine blk_drewN ?_ _ | refine blk_drew ?_ | refine blk_alloc ?_ _)); exact B_gx.out) hb_); clear HB B_gx; have HB := n0_; have B_gx := n_gx; clear n0_ n_gx; clear hb_))
      go_ret
      exact ⟨by cases v <;> rfl, HB.out⟩
theorem pred_u2 (q0 q1 q2 q3 q4 q5 : Bool) (gr : Nat) (row : Option Nat) (w : World) (hR : w.heap[gr]? = some (.cells #[.bool q0, .bool q1, .bool q2, .bool q3, .bool q4, .bool q5] 106 (0, 0))) (hra : some gr ≠ row) :
    PredRG 103 #[.pointer (some ⟨gr, 0, none⟩)] (fun x => okR6 x) (useF2 [q0, q1, q2, q3, q4, q5]) row w := fun W x A c hb hc hr ok => by
  show Calls Try.prog 103 #[.agg #[.int .i64 x.f0, .slice A x.f1.length c], .pointer (some ⟨gr, 0, none⟩)] W fun e w' => e = .returned (.bool (useF2 [q0, q1, q2, q3, q4, q5] x)) ∧ Below W.heap.size W w'
  have hR2 := blk_grown hR hb hra
  have hn0 : 0 ≤ x.f0 := ok.1.1
  have hn1 : x.f0 < 6 := ok.1.2
  have hnn : x.f0.toNat < 6 := by omega
  have hcr : W.cell? ⟨gr, x.f0.toNat, none⟩ = some (.bool ([q0, q1, q2, q3, q4, q5].getD x.f0.toNat false)) := (blk_cell hR2 x.f0.toNat).trans (bools_get q0 q1 q2 q3 q4 q5 x.f0.toNat hnn)
  unfold useF2
  have HB := Aside0.mk (Below.refl W.heap.size W)
  have HCR := Aside0.mk hcr
  clear hb hr ok hR hR2 hcr hra
  generalize [q0, q1, q2, q3, q4, q5].getD x.f0.toNat false = rv at HCR ⊢
  go_enter Try.func103, Try.ntmps103
  go_wp2_with (first | ((with_reducible refine gate_dst (N := 2) rfl ?_); refine box_event ?hg (N := 2) ?hd (cs := #[.int .i64 x.f0, .slice A x.f1.length c]) (t := 87) ?hr ?_; (case hd => rfl); (case hg => rfl); (case hr => first | (go_simp; done) | (go_simp; rfl)); intro gx hg_ w1 hbox_ hb_; have GE_gx := Aside0.mk (show W.heap.size ≤ gx by rw [hg_]; exact below_size (by repeat (first | (with_reducible first | exact HB.out | apply below_alloc | apply pw_below_drewN | apply below_drew1) | exact HB.out))); have n0_ := Aside0.mk (below_step (by repeat (first | (with_reducible first | exact HB.out | apply below_alloc | apply pw_below_drewN | apply below_drew1) | exact HB.out)) hb_); clear HB; have HB := n0_; clear n0_; have B_gx := Aside0.mk hbox_; clear hb_ hbox_ hg_; have x_gx_0 : w1.cell? ⟨gx, 0, none⟩ = some (.int .i64 x.f0) := (blk_cell B_gx.out 0).trans rfl; have x_gx_1 : w1.cell? ⟨gx, 1, none⟩ = some (.slice A x.f1.length c) := (blk_cell B_gx.out 1).trans rfl; have hcr1 := (HB.out.cell (World.block_lt_of_cell? W _ HCR.out)).trans HCR.out))
  go_ret
  exact ⟨rfl, HB.out⟩
end Go.Proofs.Ytekoclhnfhbmeaa.P
namespace Go.Proofs.Ytekoclhnfhbmeaa.P
open Go.RowKit Go.Proofs.YtekoclhnfhbmeaaW.PrintWords Go.Proofs.YtekoclhnfhbmeaaW.PrintLast Go.Proofs.YtekoclhnfhbmeaaW.PrintMore
attribute [local go_sem] max2_int min2_int max_two min_two max_three min_three max_four min_four
set_option linter.unusedVariables false
set_option linter.unusedSimpArgs false
def spec_l1Own.f (l0 : List Int) : Option (List Int) := (some (([] : List Int) : List Int)).bind fun y101 => (if y101.length + l0.length < 17592186044416 then (some (y101 ++ l0)) else (none))
set_option maxHeartbeats 8000000 in
set_option maxRecDepth 100000 in
theorem spec_l1Own.calls (A0 : Option Addr) (c0 : Nat) (l0 : List Int) (r : List Int) (w : World) (hr0 : Kd.C (Kd.int .i64) w A0 l0.length l0) (hc0 : l0.length ≤ c0) (h : spec_l1Own.f l0 = some r) :
    Calls Try.prog 73 #[.slice A0 l0.length c0] w fun e w' => ∃ v0_ : Value, e = .returned (v0_) ∧ Kd.R (Kd.int .i64) 3 w' w.heap.size (fun _ => True) v0_ r ∧ Below w.heap.size w w' := by
  have HR0 := Aside0.mk hr0
  have HC0 := Aside0.mk hc0
  clear hr0 hc0
  have HB := Aside0.mk (Below.refl w.heap.size w)
  have H : ((some (([] : List Int) : List Int)).bind fun y101 => (if y101.length + l0.length < 17592186044416 then (some (y101 ++ l0)) else (none))) = some r := h
  clear h
  obtain ⟨y101, hy101⟩ : ∃ y_ : List Int, y_ = (([] : List Int)) := ⟨_, rfl⟩
  replace H : (if y101.length + l0.length < 17592186044416 then (some (y101 ++ l0)) else (none)) = some r := by first | (rw [hy101]; with_reducible exact H) | (have H2_ := (Option.bind_some _ _).symm.trans H; rw [hy101]; with_reducible exact H2_) | (have H2_ := (Option.bind_some _ _).symm.trans H; with_reducible exact H2_) | with_reducible exact H | (rw [hy101]; exact H) | exact H
  have Ny101 := Aside0.mk hy101
  clear hy101
  by_cases c2 : y101.length + l0.length < 17592186044416
  · rw [if_pos c2] at H
    have LMc2 := Aside0.mk c2
    clear c2
    obtain ⟨y104, hy104⟩ : ∃ y_ : List Int, y_ = (y101 ++ l0) := ⟨_, rfl⟩
    replace H : (some y104) = some r := by first | (rw [hy104]; with_reducible exact H) | (have H2_ := (Option.bind_some _ _).symm.trans H; rw [hy104]; with_reducible exact H2_) | (have H2_ := (Option.bind_some _ _).symm.trans H; with_reducible exact H2_) | with_reducible exact H | (rw [hy104]; exact H) | exact H
    have Ny104 := Aside0.mk hy104
    clear hy104
    obtain rfl := Option.some.inj H
    go_enter Try.func73, Try.ntmps73
    go_wp2_with (first | ((with_reducible refine gate_dst (N := 3) rfl ?_); refine Kd.R_lit (Kd.int .i64) _ 3 ?hg (N := 3) ?hd (xs := ([] : List Int)) (inner := []) (ok := fun _ => True) (okp := fun _ => True) ?hr ?hp (fun _ hk => hk) trivial (Below.refl _ _) (Nat.le_refl _) (by simp) ?_; (case hd => rfl); (case hg => rfl); (case hr => first | (go_simp; done) | (go_simp; rfl)); (case hp => exact (Reps.none _ _)); intro v102 w3 ho4 hb hg_ hnew_; clear hg_ hnew_; (first | rw [← Ny101.out] at ho4 | (simp only [Int.reduceToNat] at ho4; rw [← Ny101.out] at ho4)); have n0_ := Aside0.mk (Kd.R_lower ho4 (below_size (by repeat (first | (with_reducible first | exact HB.out | apply below_alloc | apply pw_below_drewN | apply below_drew1) | exact HB.out)))); have n1_ := Aside0.mk (below_step (by repeat (first | (with_reducible first | exact HB.out | apply below_alloc | apply pw_below_drewN | apply below_drew1) | exact HB.out)) hb); clear HB; have HO103 := n0_; have HB := n1_; clear n0_ n1_; clear hb ho4) | ((with_reducible refine gate_builtin (b := .append) (xs := #[.tmp 3, .tmp 4]) rfl ?_); at_builtin; refine Kd.R_append_rows (Kd.int .i64) (w0 := w) w.heap.size rfl (.tmp 3) (.tmp 4) 37 3 (.int .i64 0) 8 rfl Try.underlying37 info3 rfl (by decide) (by omega) v102 y101 l0 _ _ _ (fun _ => True) (fun _ => False) rfl rfl ?aO ?aR (fun _ _ h => h) (fun _ h => h.elim) ?aF ?aB ?aS ?aL ?_; (case aR => repeat (first | exact (Kd.C_below HR0.out HB.out) | (with_reducible refine Kd.C_alloc ?_ _) | (with_reducible refine Kd.C_drewN ?_ _) | (with_reducible refine Kd.C_drew ?_))); (case aB => exact (by repeat (first | (with_reducible first | exact HB.out | apply below_alloc | apply pw_below_drewN | apply below_drew1) | exact HB.out))); (case aF => exact (fun _ _ => trivial)); (case aO => exact (by (with_reducible repeat (first | apply Kd.R_alloc | apply Kd.R_drewN | apply Kd.R_drew)); exact HO103.out)); (case aS => exact (below_size (by repeat (first | (with_reducible first | exact HB.out | apply below_alloc | apply pw_below_drewN | apply below_drew1) | exact HB.out)))); (case aL => have := LMc2.out; omega); intro v105 w5 ho hb hg hat; rw [← Ny104.out] at ho; have n0_ := Aside0.mk (hb); have n1_ := Aside0.mk (ho); clear HB; clear HO103; have HB := n0_; have HO106 := n1_; clear n0_ n1_; clear ho hb hg hat))
    go_ret
    exact ⟨_, by first | rfl | (simp [errW_none, errW_some] <;> rfl) | (simp [*, errW_none, errW_some] <;> rfl), by (with_reducible repeat (first | apply Kd.R_alloc | apply Kd.R_drewN | apply Kd.R_drew)); exact HO106.out, by repeat (first | (with_reducible first | exact HB.out | apply below_alloc | apply pw_below_drewN | apply below_drew1) | exact HB.out)⟩
  · rw [if_neg c2] at H
    exact absurd H (by simp)
end Go.Proofs.Ytekoclhnfhbmeaa.P
