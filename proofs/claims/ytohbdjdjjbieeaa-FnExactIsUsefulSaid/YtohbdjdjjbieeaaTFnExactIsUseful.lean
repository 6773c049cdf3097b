/- Proved: for all arguments IsUseful of the program returns what IsUseful of the reference returns; it leaves its arguments as they were, and shares no memory. No condition. -/
import Derived.Below
import Derived.Deep.Draws
import Derived.Deep.AppendLies
import Derived.Maps.AppendAt
import Derived.OwnWalk
import Derived.Laws.BytesArg
import Derived.Laws.MakeOwn
import Derived.Laws.OwnMore
import Derived.Deep.OwnRows
import Derived.Tactics
import Derived.Lib.ConvBytes
import Derived.Laws.Slices
import Derived.WalkKit
import Derived.KernelRfl
import Derived.RowKit3
import Derived.Deep.LoopGhost
import Derived.Deep.QuietTactic
import Derived.BigQuiet
import Derived.WideLaws
import Derived.Deep.DeepCutAuto
import Derived.Deep.CutBlock
import Derived.Deep.RegionHeld3
import Derived.Laws.Rows
import Derived.Lib.AppendStr
import Derived.ArgAppend
import Derived.Laws.IdiomCopy
import Derived.RowKit
import Derived.OrdersHeld
import Derived.Laws.BitsLemmas
import Derived.Laws.StructEq
import Derived.Test.YtohbdjdjjbieeaaProg
import Derived.DataReads
import Derived.Deep.Slices
import Derived.OpenShut
import Derived.Shelf.Abstract
import Derived.Lib.SliceRun
import Derived.Orders
import Derived.Test.YtohbdjdjjbieeaaRows
import Derived.ProofKit
import Derived.ShutString
import Derived.ChangeOld
import Derived.SizedLaws
import Derived.Test.YtohbdjdjjbieeaaTFnExactIsUsefulp5
namespace Go.Proofs.Ytohbdjdjjbieeaa.P
open Go.RowKit Go.Proofs.YtohbdjdjjbieeaaW.PrintWords Go.Proofs.YtohbdjdjjbieeaaW.PrintLast Go.Proofs.YtohbdjdjjbieeaaW.PrintMore
attribute [local go_sem] max2_int min2_int max_two min_two max_three min_three max_four min_four
set_option linter.unusedVariables false
set_option linter.unusedSimpArgs false
def impl_copyGrammar.l0 : Nat → List (S47) → Int → Int → Int → Int → List (S47) → Option (Int × Int × (List (S47)))
  | 0, _, _, _, _, _, _ => none
  | k + 1, x12, x13, x14, x104000, x104001, x104002 => if x14 < x13 then (if 0 ≤ x14 then (if x14 < (x12.length : Int) then ((some (([] : List Int) : List Int)).bind fun y106 => (if y106.length + ((rd_T47 x12 x14).f1).length < 17592186044416 then (if x104002.length < 4398046511104 then (impl_copyGrammar.l0 k x12 x13 (wrap64 (x14 + 1)) x104000 x104001 (x104002 ++ [(⟨(rd_T47 x12 x14).f0, (y106 ++ ((rd_T47 x12 x14).f1))⟩ : S47)])) else (none)) else (none))) else (none)) else (none)) else (some (x104000, x104001, x104002))
def impl_copyGrammar.f (k : Nat) (a0_0 : Int) (a0_1 : Int) (l0_2 : List (S47)) : Option (Int × Int × (List (S47))) := impl_copyGrammar.l0 k l0_2 (l0_2.length : Int) 0 a0_0 a0_1 ([] : List (S47))
def impl_copyGrammar.T5 : Bool × List (List Nat × List Nat) := (true, [([], []), ([0], [0]), ([], []), ([2], [2]), ([], []), ([], []), ([5], [5]), ([4, 6], [4, 6]), ([3, 7], [3, 7]), ([8], [8]), ([1, 9, 7], [1, 9]), ([0, 1, 2, 3, 4, 5, 6, 7, 8, 9, 10], []), ([11, 10, 10, 0, 1, 2, 3, 4, 5, 6, 7, 8, 9, 10], [10, 11])])
def impl_copyGrammar.B5 : List Nat := [0, 1, 0, 4, 0, 0, 32, 112, 252, 508, 1023, 2047, 4095]
theorem impl_copyGrammar.tab5 : rtab .any (opsOf Try.f78 5) = impl_copyGrammar.T5 := by kernel_rfl
theorem impl_copyGrammar.bits5 : waitsOk impl_copyGrammar.T5.2 impl_copyGrammar.B5 = true := by kernel_rfl
set_option maxHeartbeats 8000000 in
set_option maxRecDepth 100000 in
theorem impl_copyGrammar.calls (k : Nat) (a0_0 : Int) (a0_1 : Int) (A0_2 : Option Addr) (c0_2 : Nat) (l0_2 : List (S47)) (r1 : Int) (r2 : Int) (r3 : List (S47)) (w : World) (hr0_2 : Kd.C k47 w A0_2 l0_2.length l0_2) (hc0_2 : l0_2.length ≤ c0_2) (h : impl_copyGrammar.f k a0_0 a0_1 l0_2 = some (r1, r2, r3)) :
    Calls Try.prog 78 #[.agg #[.int .i64 a0_0, .int .i64 a0_1, .slice A0_2 l0_2.length c0_2]] w fun e w' => ∃ v2_ : Value, e = .returned (.agg #[.int .i64 r1, .int .i64 r2, v2_]) ∧ Kd.S k47 47 w' w.heap.size (fun _ => True) v2_ r3 ∧ Below w.heap.size w w' := by
  have hu30 := Try.underlying30
  have hu47 := Try.underlying47
  have HR0_2 := Aside0.mk hr0_2
  have HC0_2 := Aside0.mk hc0_2
  clear hr0_2 hc0_2
  have HB := Aside0.mk (Below.refl w.heap.size w)
  have H : (impl_copyGrammar.l0 k l0_2 (l0_2.length : Int) 0 a0_0 a0_1 ([] : List (S47))) = some (r1, r2, r3) := h
  clear h
  have H' := Aside0.mk H
  clear H
  go_enter Try.func78, Try.ntmps78
  go_wp2_with (first | ((with_reducible refine gate_dst (N := 1) rfl ?_); refine box_event ?hg (N := 1) ?hd (cs := #[.int .i64 a0_0, .int .i64 a0_1, .slice A0_2 l0_2.length c0_2]) (t := 30) ?hr ?_; (case hd => rfl); (case hg => rfl); (case hr => first | (go_simp; done) | (go_simp; rfl)); intro gb101 hg w2 hbox hb; have n0_ := Aside0.mk (below_step (by repeat (first | (with_reducible first | exact HB.out | apply below_alloc | apply pw_below_drewN | apply below_drew1) | exact HB.out)) hb); have n1_ := Aside0.mk (hbox); have n2_ := Aside0.mk ((by rw [hg]; exact (below_size (by repeat (first | (with_reducible first | exact HB.out | apply below_alloc | apply pw_below_drewN | apply below_drew1) | exact HB.out))) : w.heap.size ≤ gb101)); have n3_ := Aside0.mk ((by rw [hg]; exact (below_size (by repeat (first | (with_reducible first | exact HB.out | apply below_alloc | apply pw_below_drewN | apply below_drew1) | exact HB.out))) : w.heap.size ≤ gb101)); clear HB; have HB := n0_; have BK101 := n1_; have GW101 := n2_; have GE101 := n3_; clear n0_ n1_ n2_ n3_; clear hb hbox hg) | ((with_reducible refine gate_dst (N := 2) rfl ?_); refine box_event ?hg (N := 2) ?hd (cs := #[.int .i64 0, .int .i64 0, .slice none 0 0]) (t := 30) ?hr ?_; (case hd => rfl); (case hg => rfl); (case hr => first | (go_simp; done) | (go_simp; rfl)); intro gb102 hg w3 hbox hb; have n0_ := Aside0.mk (blk_below (g := gb101) (o := .cells #[.int .i64 a0_0, .int .i64 a0_1, .slice A0_2 l0_2.length c0_2] 30 (0, 0)) (by (with_reducible repeat (first | refine blk_drewN ?_ _ | refine blk_drew ?_ | refine blk_alloc ?_ _)); exact BK101.out) hb); have n1_ := Aside0.mk (below_step (by repeat (first | (with_reducible first | exact HB.out | apply below_alloc | apply pw_below_drewN | apply below_drew1 | refine below_set ?_ GE101.out) | exact HB.out)) hb); have n2_ := Aside0.mk (hbox); have n3_ := Aside0.mk ((by rw [hg]; exact (below_size (by repeat (first | (with_reducible first | exact HB.out | apply below_alloc | apply pw_below_drewN | apply below_drew1 | refine below_set ?_ GE101.out) | exact HB.out))) : w.heap.size ≤ gb102)); have n4_ := Aside0.mk ((by rw [hg]; exact (below_size (by repeat (first | (with_reducible first | exact HB.out | apply below_alloc | apply pw_below_drewN | apply below_drew1 | refine below_set ?_ GE101.out) | exact HB.out))) : w.heap.size ≤ gb102)); have n5_ := Aside0.mk ((by rw [hg]; exact Nat.ne_of_lt (blk_lt (g := gb101) (o := .cells #[.int .i64 a0_0, .int .i64 a0_1, .slice A0_2 l0_2.length c0_2] 30 (0, 0)) (by (with_reducible repeat (first | refine blk_drewN ?_ _ | refine blk_drew ?_ | refine blk_alloc ?_ _)); exact BK101.out)) : gb101 ≠ gb102)); have n6_ := Aside0.mk ((by rw [hg]; exact Nat.ne_of_gt (blk_lt (g := gb101) (o := .cells #[.int .i64 a0_0, .int .i64 a0_1, .slice A0_2 l0_2.length c0_2] 30 (0, 0)) (by (with_reducible repeat (first | refine blk_drewN ?_ _ | refine blk_drew ?_ | refine blk_alloc ?_ _)); exact BK101.out)) : gb102 ≠ gb101)); clear BK101; clear HB; have BK101 := n0_; have HB := n1_; have BK102 := n2_; have GW102 := n3_; have GE102 := n4_; have NB101_102 := n5_; have NB102_101 := n6_; clear n0_ n1_ n2_ n3_ n4_ n5_ n6_; clear hb hbox hg; have hnb4 := NB101_102.out; have hnc4 := NB102_101.out; have hcz5_0 : w3.cell? ⟨gb101, 0, none⟩ = some (.int .i64 a0_0) := (blk_cell BK101.out 0).trans rfl; have hcz5_1 : w3.cell? ⟨gb101, 1, none⟩ = some (.int .i64 a0_1) := (blk_cell BK101.out 1).trans rfl; have hcz5_2 : w3.cell? ⟨gb101, 2, none⟩ = some (.slice A0_2 l0_2.length c0_2) := (blk_cell BK101.out 2).trans rfl; have hfz5_0 := blk_frozen BK101.out 0; have hfz5_1 := blk_frozen BK101.out 1; have hfz5_2 := blk_frozen BK101.out 2) | ((with_reducible refine gate_dst (N := 3) rfl ?_); refine box_event ?hg (N := 3) ?hd (cs := #[.int .i64 0, .int .i64 0, .slice none 0 0]) (t := 30) ?hr ?_; (case hd => rfl); (case hg => rfl); (case hr => first | (go_simp; done) | (go_simp; rfl)); intro gb103 hg w6 hbox hb; have n0_ := Aside0.mk (blk_below (g := gb101) (o := .cells #[.int .i64 a0_0, .int .i64 a0_1, .slice A0_2 l0_2.length c0_2] 30 (0, 0)) (by (with_reducible repeat (first | refine blk_drewN ?_ _ | refine blk_drew ?_ | refine blk_alloc ?_ _)); exact BK101.out) hb); have n1_ := Aside0.mk (blk_below (g := gb102) (o := .cells #[.int .i64 0, .int .i64 0, .slice none 0 0] 30 (0, 0)) (by (with_reducible repeat (first | refine blk_drewN ?_ _ | refine blk_drew ?_ | refine blk_alloc ?_ _)); exact BK102.out) hb); have n2_ := Aside0.mk (below_step (by repeat (first | (with_reducible first | exact HB.out | apply below_alloc | apply pw_below_drewN | apply below_drew1 | refine below_set ?_ GE101.out | refine below_set ?_ GE102.out) | exact HB.out)) hb); have n3_ := Aside0.mk (hbox); have n4_ := Aside0.mk ((by rw [hg]; exact (below_size (by repeat (first | (with_reducible first | exact HB.out | apply below_alloc | apply pw_below_drewN | apply below_drew1 | refine below_set ?_ GE101.out | refine below_set ?_ GE102.out) | exact HB.out))) : w.heap.size ≤ gb103)); have n5_ := Aside0.mk ((by rw [hg]; exact (below_size (by repeat (first | (with_reducible first | exact HB.out | apply below_alloc | apply pw_below_drewN | apply below_drew1 | refine below_set ?_ GE101.out | refine below_set ?_ GE102.out) | exact HB.out))) : w.heap.size ≤ gb103)); have n6_ := Aside0.mk ((by rw [hg]; exact Nat.ne_of_lt (blk_lt (g := gb101) (o := .cells #[.int .i64 a0_0, .int .i64 a0_1, .slice A0_2 l0_2.length c0_2] 30 (0, 0)) (by (with_reducible repeat (first | refine blk_drewN ?_ _ | refine blk_drew ?_ | refine blk_alloc ?_ _)); exact BK101.out)) : gb101 ≠ gb103)); have n7_ := Aside0.mk ((by rw [hg]; exact Nat.ne_of_gt (blk_lt (g := gb101) (o := .cells #[.int .i64 a0_0, .int .i64 a0_1, .slice A0_2 l0_2.length c0_2] 30 (0, 0)) (by (with_reducible repeat (first | refine blk_drewN ?_ _ | refine blk_drew ?_ | refine blk_alloc ?_ _)); exact BK101.out)) : gb103 ≠ gb101)); have n8_ := Aside0.mk ((by rw [hg]; exact Nat.ne_of_lt (blk_lt (g := gb102) (o := .cells #[.int .i64 0, .int .i64 0, .slice none 0 0] 30 (0, 0)) (by (with_reducible repeat (first | refine blk_drewN ?_ _ | refine blk_drew ?_ | refine blk_alloc ?_ _)); exact BK102.out)) : gb102 ≠ gb103)); have n9_ := Aside0.mk ((by rw [hg]; exact Nat.ne_of_gt (blk_lt (g := gb102) (o := .cells #[.int .i64 0, .int .i64 0, .slice none 0 0] 30 (0, 0)) (by (with_reducible repeat (first | refine blk_drewN ?_ _ | refine blk_drew ?_ | refine blk_alloc ?_ _)); exact BK102.out)) : gb103 ≠ gb102)); clear BK101; clear BK102; clear HB; have BK101 := n0_; have BK102 := n1_; have HB := n2_; have BK103 := n3_; have GW103 := n4_; have GE103 := n5_; have NB101_103 := n6_; have NB103_101 := n7_; have NB102_103 := n8_; have NB103_102 := n9_; clear n0_ n1_ n2_ n3_ n4_ n5_ n6_ n7_ n8_ n9_; clear hb hbox hg; have hnb7 := NB103_101.out; have hnc7 := NB101_103.out; have hnb8 := NB103_102.out; have hnc8 := NB102_103.out; have hcz9_0 : w6.cell? ⟨gb103, 0, none⟩ = some (.int .i64 0) := (blk_cell BK103.out 0).trans rfl; have hcz9_1 : w6.cell? ⟨gb103, 1, none⟩ = some (.int .i64 0) := (blk_cell BK103.out 1).trans rfl; have hcz9_2 : w6.cell? ⟨gb103, 2, none⟩ = some (.slice none 0 0) := (blk_cell BK103.out 2).trans rfl; have hfz9_0 := blk_frozen BK103.out 0; have hfz9_1 := blk_frozen BK103.out 1; have hfz9_2 := blk_frozen BK103.out 2; have hcz10_0 : w6.cell? ⟨gb101, 0, none⟩ = some (.int .i64 a0_0) := (blk_cell BK101.out 0).trans rfl; have hcz10_1 : w6.cell? ⟨gb101, 1, none⟩ = some (.int .i64 a0_1) := (blk_cell BK101.out 1).trans rfl; have hcz10_2 : w6.cell? ⟨gb101, 2, none⟩ = some (.slice A0_2 l0_2.length c0_2) := (blk_cell BK101.out 2).trans rfl; have hfz10_0 := blk_frozen BK101.out 0; have hfz10_1 := blk_frozen BK101.out 1; have hfz10_2 := blk_frozen BK101.out 2))
  go_loopg [14] k (fun kq v14 w' => ∃ (x14_1 : Int) (x104002_1 : List (S47)) (u104002 : Value), v14 = .int .i64 x14_1 ∧ Aside0 (impl_copyGrammar.l0 kq l0_2 (l0_2.length : Int) x14_1 a0_0 a0_1 x104002_1 = some (r1, r2, r3)) ∧ Aside0 (kq ≤ k) ∧ Aside0 (Kd.S k47 47 w' w.heap.size (fun _ => True) u104002 x104002_1) ∧ Aside0 (w'.heap[gb101]? = some (.cells #[.int .i64 a0_0, .int .i64 a0_1, (.slice A0_2 l0_2.length c0_2)] 30 (0, 0))) ∧ Aside0 (w'.heap[gb102]? = some (.cells #[.int .i64 0, .int .i64 0, (.slice none 0 0)] 30 (0, 0))) ∧ Aside0 (w'.heap[gb103]? = some (.cells #[.int .i64 a0_0, .int .i64 a0_1, u104002] 30 (0, 0))) ∧ Aside0 (Below w.heap.size w w'))
  case atStart => exact ⟨(0), (([] : List (S47))), (.slice none 0 0), (by first | rfl | (simp; done) | (simp [*]; done)), H', ⟨Nat.le_refl _⟩, ⟨by first | exact Kd.S_nil _ _ _ _ _ | exact Kd.N_nil _ _ _ _ _ | exact Kd.V_nil _ _ _ _ _ | exact Kd.Q_nil _ _ _ _ _ | exact Kd.R_nil _ _ _ _ _⟩, ⟨by (with_reducible repeat (first | refine blk_drewN ?_ _ | refine blk_drew ?_ | refine blk_alloc ?_ _)); refine blk_far ?_ NB101_103.out _; (with_reducible repeat (first | refine blk_drewN ?_ _ | refine blk_drew ?_ | refine blk_alloc ?_ _)); refine blk_far ?_ NB101_103.out _; (with_reducible repeat (first | refine blk_drewN ?_ _ | refine blk_drew ?_ | refine blk_alloc ?_ _)); refine blk_far ?_ NB101_103.out _; (with_reducible repeat (first | refine blk_drewN ?_ _ | refine blk_drew ?_ | refine blk_alloc ?_ _)); exact BK101.out⟩, ⟨by (with_reducible repeat (first | refine blk_drewN ?_ _ | refine blk_drew ?_ | refine blk_alloc ?_ _)); refine blk_far ?_ NB102_103.out _; (with_reducible repeat (first | refine blk_drewN ?_ _ | refine blk_drew ?_ | refine blk_alloc ?_ _)); refine blk_far ?_ NB102_103.out _; (with_reducible repeat (first | refine blk_drewN ?_ _ | refine blk_drew ?_ | refine blk_alloc ?_ _)); refine blk_far ?_ NB102_103.out _; (with_reducible repeat (first | refine blk_drewN ?_ _ | refine blk_drew ?_ | refine blk_alloc ?_ _)); exact BK102.out⟩, ⟨by (with_reducible repeat (first | refine blk_drewN ?_ _ | refine blk_drew ?_ | refine blk_alloc ?_ _)); refine blk_put (cs := #[.int .i64 a0_0, .int .i64 a0_1, .slice none 0 0]) ?_ 2 _ rfl; (with_reducible repeat (first | refine blk_drewN ?_ _ | refine blk_drew ?_ | refine blk_alloc ?_ _)); refine blk_put (cs := #[.int .i64 a0_0, .int .i64 0, .slice none 0 0]) ?_ 1 _ rfl; (with_reducible repeat (first | refine blk_drewN ?_ _ | refine blk_drew ?_ | refine blk_alloc ?_ _)); refine blk_put (cs := #[.int .i64 0, .int .i64 0, .slice none 0 0]) ?_ 0 _ rfl; (with_reducible repeat (first | refine blk_drewN ?_ _ | refine blk_drew ?_ | refine blk_alloc ?_ _)); exact BK103.out⟩, ⟨by repeat (first | (with_reducible first | exact HB.out | apply below_alloc | apply pw_below_drewN | apply below_drew1 | refine below_set ?_ GE101.out | refine below_set ?_ GE102.out | refine below_set ?_ GE103.out) | exact HB.out)⟩⟩
  case round =>
    clear H'
    try clear p2
    try clear c4
    try clear c7
    try clear c8
    try clear hcz10_0
    try clear hcz10_1
    try clear hcz10_2
    try clear hcz5_0
    try clear hcz5_1
    try clear hcz5_2
    try clear hcz9_0
    try clear hcz9_1
    try clear hcz9_2
    try clear hfz10_0
    try clear hfz10_1
    try clear hfz10_2
    try clear hfz5_0
    try clear hfz5_1
    try clear hfz5_2
    try clear hfz9_0
    try clear hfz9_1
    try clear hfz9_2
    obtain ⟨x14_1, x104002_1, u104002, rfl, HA, HK1, HO_104002, BK101, BK102, BK103, HB⟩ := hrel
    cases gk with
    | zero => exact absurd HA.out (by simp [impl_copyGrammar.l0])
    | succ k1 =>
      have H := HA.out
      clear HA
      simp only [impl_copyGrammar.l0] at H
      by_cases c11 : x14_1 < (l0_2.length : Int)
      · rw [if_pos c11] at H
        have c11b0 : decide (x14_1 < (l0_2.length : Int)) = true := decide_eq_true c11
        clear c11
        by_cases c12 : 0 ≤ x14_1
        · rw [if_pos c12] at H
          have c12b0 : decide (0 ≤ x14_1) = true := decide_eq_true c12
          clear c12
          by_cases c13 : x14_1 < (l0_2.length : Int)
          · rw [if_pos c13] at H
            have c13b0 : decide (x14_1 < (l0_2.length : Int)) = true := decide_eq_true c13
            clear c13
            obtain ⟨y106, hy106⟩ : ∃ y_ : List Int, y_ = (([] : List Int)) := ⟨_, rfl⟩
            replace H : (if y106.length + ((rd_T47 l0_2 x14_1).f1).length < 17592186044416 then (if x104002_1.length < 4398046511104 then (impl_copyGrammar.l0 k1 l0_2 (l0_2.length : Int) (wrap64 (x14_1 + 1)) a0_0 a0_1 (x104002_1 ++ [(⟨(rd_T47 l0_2 x14_1).f0, (y106 ++ ((rd_T47 l0_2 x14_1).f1))⟩ : S47)])) else (none)) else (none)) = some (r1, r2, r3) := by first | (rw [hy106]; with_reducible exact H) | (have H2_ := (Option.bind_some _ _).symm.trans H; rw [hy106]; with_reducible exact H2_) | (have H2_ := (Option.bind_some _ _).symm.trans H; with_reducible exact H2_) | with_reducible exact H | (rw [hy106]; exact H) | exact H
            have Ny106 := Aside0.mk hy106
            clear hy106
            by_cases c14 : y106.length + ((rd_T47 l0_2 x14_1).f1).length < 17592186044416
            · rw [if_pos c14] at H
              have LMc14 := Aside0.mk c14
              clear c14
              obtain ⟨y109, hy109⟩ : ∃ y_ : List Int, y_ = (y106 ++ ((rd_T47 l0_2 x14_1).f1)) := ⟨_, rfl⟩
              replace H : (if x104002_1.length < 4398046511104 then (impl_copyGrammar.l0 k1 l0_2 (l0_2.length : Int) (wrap64 (x14_1 + 1)) a0_0 a0_1 (x104002_1 ++ [(⟨(rd_T47 l0_2 x14_1).f0, y109⟩ : S47)])) else (none)) = some (r1, r2, r3) := by first | (rw [hy109]; with_reducible exact H) | (have H2_ := (Option.bind_some _ _).symm.trans H; rw [hy109]; with_reducible exact H2_) | (have H2_ := (Option.bind_some _ _).symm.trans H; with_reducible exact H2_) | with_reducible exact H | (rw [hy109]; exact H) | exact H
              have Ny109 := Aside0.mk hy109
              clear hy109
              by_cases c15 : x104002_1.length < 4398046511104
              · rw [if_pos c15] at H
                have LMc15 := Aside0.mk c15
                clear c15
                obtain ⟨y112, hy112⟩ : ∃ y_ : List (S47), y_ = (x104002_1 ++ [(⟨(rd_T47 l0_2 x14_1).f0, y109⟩ : S47)]) := ⟨_, rfl⟩
                replace H : (impl_copyGrammar.l0 k1 l0_2 (l0_2.length : Int) (wrap64 (x14_1 + 1)) a0_0 a0_1 y112) = some (r1, r2, r3) := by first | (rw [hy112]; with_reducible exact H) | (have H2_ := (Option.bind_some _ _).symm.trans H; rw [hy112]; with_reducible exact H2_) | (have H2_ := (Option.bind_some _ _).symm.trans H; with_reducible exact H2_) | with_reducible exact H | (rw [hy112]; exact H) | exact H
                have Ny112 := Aside0.mk hy112
                clear hy112
                have H' := Aside0.mk H
                clear H
                have p104 : 0 ≤ (x14_1 : Int) := of_decide_eq_true (by first | (with_reducible assumption) | assumption)
                have q104 : x14_1 < (l0_2.length : Int) := of_decide_eq_true (by first | (with_reducible assumption) | assumption)
                obtain ⟨ad104, A104_1, c104_1, e104, hx104_0, hx104_1, hl104_1, hi104_1⟩ := at_T47 HR0_2.out x14_1 p104 q104
                cases e104
                replace hx104_0 := (HB.out.cell (World.block_lt_of_cell? w _ hx104_0)).trans hx104_0
                replace hx104_1 := (HB.out.cell (World.block_lt_of_cell? w _ hx104_1)).trans hx104_1
                have HR104_1 := Aside0.mk hi104_1
                have HC104_1 := Aside0.mk hl104_1
                clear hi104_1 hl104_1
                replace p104 := eq_true p104
                replace q104 := eq_true q104
                try go_wp2_with (first | ((with_reducible refine gate_dst (N := 5) rfl ?_); refine box_event ?hg (N := 5) ?hd (cs := #[.int .i64 0, .slice none 0 0]) (t := 47) ?hr ?_; (case hd => rfl); (case hg => rfl); (case hr => first | (go_simp; done) | (go_simp; rfl)); intro gb105 hg w16 hbox hb; have n0_ := Aside0.mk (Kd.S_below (Kd.S_elderB (by (with_reducible repeat (first | apply Kd.S_alloc | apply Kd.S_drewN | apply Kd.S_drew)); exact HO_104002.out) gb105 (Nat.le_of_eq hg.symm)) hb); have n1_ := Aside0.mk (blk_below (g := gb101) (o := .cells #[.int .i64 a0_0, .int .i64 a0_1, .slice (some ad104) l0_2.length c0_2] 30 (0, 0)) (by (with_reducible repeat (first | refine blk_drewN ?_ _ | refine blk_drew ?_ | refine blk_alloc ?_ _)); exact BK101.out) hb); have n2_ := Aside0.mk (blk_below (g := gb102) (o := .cells #[.int .i64 0, .int .i64 0, .slice none 0 0] 30 (0, 0)) (by (with_reducible repeat (first | refine blk_drewN ?_ _ | refine blk_drew ?_ | refine blk_alloc ?_ _)); exact BK102.out) hb); have n3_ := Aside0.mk (blk_below (g := gb103) (o := .cells #[.int .i64 a0_0, .int .i64 a0_1, u104002] 30 (0, 0)) (by (with_reducible repeat (first | refine blk_drewN ?_ _ | refine blk_drew ?_ | refine blk_alloc ?_ _)); exact BK103.out) hb); have n4_ := Aside0.mk (below_step (by repeat (first | (with_reducible first | exact HB.out | apply below_alloc | apply pw_below_drewN | apply below_drew1 | refine below_set ?_ GE101.out | refine below_set ?_ GE102.out | refine below_set ?_ GE103.out) | exact HB.out)) hb); have n5_ := Aside0.mk (hbox); have n6_ := Aside0.mk ((by rw [hg]; exact (below_size (by repeat (first | (with_reducible first | exact HB.out | apply below_alloc | apply pw_below_drewN | apply below_drew1 | refine below_set ?_ GE101.out | refine below_set ?_ GE102.out | refine below_set ?_ GE103.out) | exact HB.out))) : w.heap.size ≤ gb105)); have n7_ := Aside0.mk ((by rw [hg]; exact (below_size (by repeat (first | (with_reducible first | exact HB.out | apply below_alloc | apply pw_below_drewN | apply below_drew1 | refine below_set ?_ GE101.out | refine below_set ?_ GE102.out | refine below_set ?_ GE103.out) | exact HB.out))) : w.heap.size ≤ gb105)); have n8_ := Aside0.mk ((by rw [hg]; exact Nat.ne_of_lt (blk_lt (g := gb101) (o := .cells #[.int .i64 a0_0, .int .i64 a0_1, .slice (some ad104) l0_2.length c0_2] 30 (0, 0)) (by (with_reducible repeat (first | refine blk_drewN ?_ _ | refine blk_drew ?_ | refine blk_alloc ?_ _)); exact BK101.out)) : gb101 ≠ gb105)); have n9_ := Aside0.mk ((by rw [hg]; exact Nat.ne_of_gt (blk_lt (g := gb101) (o := .cells #[.int .i64 a0_0, .int .i64 a0_1, .slice (some ad104) l0_2.length c0_2] 30 (0, 0)) (by (with_reducible repeat (first | refine blk_drewN ?_ _ | refine blk_drew ?_ | refine blk_alloc ?_ _)); exact BK101.out)) : gb105 ≠ gb101)); have n10_ := Aside0.mk ((by rw [hg]; exact Nat.ne_of_lt (blk_lt (g := gb102) (o := .cells #[.int .i64 0, .int .i64 0, .slice none 0 0] 30 (0, 0)) (by (with_reducible repeat (first | refine blk_drewN ?_ _ | refine blk_drew ?_ | refine blk_alloc ?_ _)); exact BK102.out)) : gb102 ≠ gb105)); have n11_ := Aside0.mk ((by rw [hg]; exact Nat.ne_of_gt (blk_lt (g := gb102) (o := .cells #[.int .i64 0, .int .i64 0, .slice none 0 0] 30 (0, 0)) (by (with_reducible repeat (first | refine blk_drewN ?_ _ | refine blk_drew ?_ | refine blk_alloc ?_ _)); exact BK102.out)) : gb105 ≠ gb102)); have n12_ := Aside0.mk ((by rw [hg]; exact Nat.ne_of_lt (blk_lt (g := gb103) (o := .cells #[.int .i64 a0_0, .int .i64 a0_1, u104002] 30 (0, 0)) (by (with_reducible repeat (first | refine blk_drewN ?_ _ | refine blk_drew ?_ | refine blk_alloc ?_ _)); exact BK103.out)) : gb103 ≠ gb105)); have n13_ := Aside0.mk ((by rw [hg]; exact Nat.ne_of_gt (blk_lt (g := gb103) (o := .cells #[.int .i64 a0_0, .int .i64 a0_1, u104002] 30 (0, 0)) (by (with_reducible repeat (first | refine blk_drewN ?_ _ | refine blk_drew ?_ | refine blk_alloc ?_ _)); exact BK103.out)) : gb105 ≠ gb103)); clear HO_104002; clear BK101; clear BK102; clear BK103; clear HB; have HO_104002 := n0_; have BK101 := n1_; have BK102 := n2_; have BK103 := n3_; have HB := n4_; have BK105 := n5_; have GW105 := n6_; have GE105 := n7_; have NB101_105 := n8_; have NB105_101 := n9_; have NB102_105 := n10_; have NB105_102 := n11_; have NB103_105 := n12_; have NB105_103 := n13_; clear n0_ n1_ n2_ n3_ n4_ n5_ n6_ n7_ n8_ n9_ n10_ n11_ n12_ n13_; clear hb hbox hg; have hnb17 := NB105_101.out; have hnc17 := NB101_105.out; have hnb18 := NB105_102.out; have hnc18 := NB102_105.out; have hnb19 := NB105_103.out; have hnc19 := NB103_105.out; have hcz20_0 : w16.cell? ⟨gb105, 0, none⟩ = some (.int .i64 0) := (blk_cell BK105.out 0).trans rfl; have hcz20_1 : w16.cell? ⟨gb105, 1, none⟩ = some (.slice none 0 0) := (blk_cell BK105.out 1).trans rfl; have hfz20_0 := blk_frozen BK105.out 0; have hfz20_1 := blk_frozen BK105.out 1))
                have n0_ : Aside0 (Kd.S k47 47 ((w16.setCell ⟨gb105, 0, none⟩ (.int .i64 ((rd_T47 l0_2 x14_1).f0))).setCell ⟨gb105, 1, none⟩ (.slice A104_1 ((rd_T47 l0_2 x14_1).f1).length c104_1)) w.heap.size (fun k_ => k_ ≠ gb105) u104002 x104002_1) := ⟨by (with_reducible repeat (first | apply Kd.S_alloc | apply Kd.S_drewN | apply Kd.S_drew)); exact Kd.S_mono (Kd.S_far (p := ⟨gb105, 1, none⟩) (Kd.S_far (p := ⟨gb105, 0, none⟩) (Kd.S_mono HO_104002.out (fun k_ hk => (⟨hk, hk.2⟩ : _ ∧ k_ ≠ gb105))) (fun _ hk => hk.2) (.int .i64 ((rd_T47 l0_2 x14_1).f0))) (fun _ hk => hk.2) (.slice A104_1 ((rd_T47 l0_2 x14_1).f1).length c104_1)) (fun _ hk => hk.1.2)⟩
                have n1_ : Aside0 (((w16.setCell ⟨gb105, 0, none⟩ (.int .i64 ((rd_T47 l0_2 x14_1).f0))).setCell ⟨gb105, 1, none⟩ (.slice A104_1 ((rd_T47 l0_2 x14_1).f1).length c104_1)).heap[gb101]? = some (.cells #[.int .i64 a0_0, .int .i64 a0_1, .slice (some ad104) l0_2.length c0_2] 30 (0, 0))) := ⟨by (with_reducible repeat (first | refine blk_drewN ?_ _ | refine blk_drew ?_ | refine blk_alloc ?_ _)); refine blk_far ?_ NB101_105.out _; (with_reducible repeat (first | refine blk_drewN ?_ _ | refine blk_drew ?_ | refine blk_alloc ?_ _)); refine blk_far ?_ NB101_105.out _; (with_reducible repeat (first | refine blk_drewN ?_ _ | refine blk_drew ?_ | refine blk_alloc ?_ _)); exact BK101.out⟩
                have n2_ : Aside0 (((w16.setCell ⟨gb105, 0, none⟩ (.int .i64 ((rd_T47 l0_2 x14_1).f0))).setCell ⟨gb105, 1, none⟩ (.slice A104_1 ((rd_T47 l0_2 x14_1).f1).length c104_1)).heap[gb102]? = some (.cells #[.int .i64 0, .int .i64 0, .slice none 0 0] 30 (0, 0))) := ⟨by (with_reducible repeat (first | refine blk_drewN ?_ _ | refine blk_drew ?_ | refine blk_alloc ?_ _)); refine blk_far ?_ NB102_105.out _; (with_reducible repeat (first | refine blk_drewN ?_ _ | refine blk_drew ?_ | refine blk_alloc ?_ _)); refine blk_far ?_ NB102_105.out _; (with_reducible repeat (first | refine blk_drewN ?_ _ | refine blk_drew ?_ | refine blk_alloc ?_ _)); exact BK102.out⟩
                have n3_ : Aside0 (((w16.setCell ⟨gb105, 0, none⟩ (.int .i64 ((rd_T47 l0_2 x14_1).f0))).setCell ⟨gb105, 1, none⟩ (.slice A104_1 ((rd_T47 l0_2 x14_1).f1).length c104_1)).heap[gb103]? = some (.cells #[.int .i64 a0_0, .int .i64 a0_1, u104002] 30 (0, 0))) := ⟨by (with_reducible repeat (first | refine blk_drewN ?_ _ | refine blk_drew ?_ | refine blk_alloc ?_ _)); refine blk_far ?_ NB103_105.out _; (with_reducible repeat (first | refine blk_drewN ?_ _ | refine blk_drew ?_ | refine blk_alloc ?_ _)); refine blk_far ?_ NB103_105.out _; (with_reducible repeat (first | refine blk_drewN ?_ _ | refine blk_drew ?_ | refine blk_alloc ?_ _)); exact BK103.out⟩
                have n4_ : Aside0 (((w16.setCell ⟨gb105, 0, none⟩ (.int .i64 ((rd_T47 l0_2 x14_1).f0))).setCell ⟨gb105, 1, none⟩ (.slice A104_1 ((rd_T47 l0_2 x14_1).f1).length c104_1)).heap[gb105]? = some (.cells #[.int .i64 ((rd_T47 l0_2 x14_1).f0), .slice A104_1 ((rd_T47 l0_2 x14_1).f1).length c104_1] 47 (0, 0))) := ⟨by (with_reducible repeat (first | refine blk_drewN ?_ _ | refine blk_drew ?_ | refine blk_alloc ?_ _)); refine blk_put (cs := #[.int .i64 ((rd_T47 l0_2 x14_1).f0), .slice none 0 0]) ?_ 1 _ rfl; (with_reducible repeat (first | refine blk_drewN ?_ _ | refine blk_drew ?_ | refine blk_alloc ?_ _)); refine blk_put (cs := #[.int .i64 0, .slice none 0 0]) ?_ 0 _ rfl; (with_reducible repeat (first | refine blk_drewN ?_ _ | refine blk_drew ?_ | refine blk_alloc ?_ _)); exact BK105.out⟩
                have n5_ : Aside0 (Below w.heap.size w ((w16.setCell ⟨gb105, 0, none⟩ (.int .i64 ((rd_T47 l0_2 x14_1).f0))).setCell ⟨gb105, 1, none⟩ (.slice A104_1 ((rd_T47 l0_2 x14_1).f1).length c104_1))) := ⟨by repeat (first | (with_reducible first | exact HB.out | apply below_alloc | apply pw_below_drewN | apply below_drew1 | refine below_set ?_ GE101.out | refine below_set ?_ GE102.out | refine below_set ?_ GE103.out | refine below_set ?_ GE105.out) | exact HB.out)⟩
                (try clear HO_104002)
                (try clear BK101)
                (try clear BK102)
                (try clear BK103)
                (try clear BK105)
                (try clear HB)
                generalize ((w16.setCell ⟨gb105, 0, none⟩ (.int .i64 ((rd_T47 l0_2 x14_1).f0))).setCell ⟨gb105, 1, none⟩ (.slice A104_1 ((rd_T47 l0_2 x14_1).f1).length c104_1)) = w21 at n0_ n1_ n2_ n3_ n4_ n5_ ⊢
                have HO_104002 := n0_
                have BK101 := n1_
                have BK102 := n2_
                have BK103 := n3_
                have BK105 := n4_
                have HB := n5_
                clear n0_ n1_ n2_ n3_ n4_ n5_
                have n0_ := Aside0.mk (Kd.S_drew HO_104002.out)
                have n1_ := Aside0.mk (blk_drew BK101.out)
                have n2_ := Aside0.mk (blk_drew BK102.out)
                have n3_ := Aside0.mk (blk_drew BK103.out)
                have n4_ := Aside0.mk (blk_drew BK105.out)
                have n5_ := Aside0.mk (below_drew1 HB.out)
                clear HO_104002
                clear BK101
                clear BK102
                clear BK103
                clear BK105
                clear HB
                have HO_104002 := n0_
                have BK101 := n1_
                have BK102 := n2_
                have BK103 := n3_
                have BK105 := n4_
                have HB := n5_
                clear n0_ n1_ n2_ n3_ n4_ n5_
                refine start_ (n := 13) (S := fun w' => w'.cell? ⟨gb103, 0, none⟩ = some (.int .i64 a0_0) ∧ w'.cell? ⟨gb103, 1, none⟩ = some (.int .i64 a0_1) ∧ w'.cell? ⟨gb103, 2, none⟩ = some (u104002) ∧ w'.cell? ⟨gb105, 0, none⟩ = some (.int .i64 ((rd_T47 l0_2 x14_1).f0)) ∧ w'.cell? ⟨gb105, 1, none⟩ = some (.slice A104_1 ((rd_T47 l0_2 x14_1).f1).length c104_1)) (ds := [12]) #[false, false, false, false, false, false, false, false, false, false, false, false, false] (by kernel_rfl) rfl rfl ⟨(blk_cell BK103.out 0).trans rfl, (blk_cell BK103.out 1).trans rfl, (blk_cell BK103.out 2).trans rfl, (blk_cell BK105.out 0).trans rfl, (blk_cell BK105.out 1).trans rfl⟩ (fun hHeld => ?_); refine with_tabW impl_copyGrammar.tab5 impl_copyGrammar.bits5 (fun HT_ HW_ => ?_)
                generalize w21.drew = w22 at HO_104002 BK101 BK102 BK103 BK105 HB hHeld ⊢
                refine pure_ (i := 0) (N := some 18) (v := ?_) (a' := ?_) #[true, false, false, false, false, false, false, false, false, false, false, false, false] rfl rfl (any_of HT_.out (by kernel_rfl)) (fun _ _ _ h => h) (Or.inl ⟨by rfl, ?_⟩) ?_ ?_
                rotate_left
                · intro w'
                  go_simp
                  with_reducible rfl
                rotate_left
                · simp only [Act.put, List.setIfInBounds_toArray, List.set_cons_zero, List.set_cons_succ, i64_w, i32_w]
                  rfl
                refine pure_ (i := 2) (N := some 20) (v := ?_) (a' := ?_) #[true, false, true, false, false, false, false, false, false, false, false, false, false] rfl rfl (any_of HT_.out (by kernel_rfl)) (fun _ _ _ h => h) (Or.inl ⟨by rfl, ?_⟩) ?_ ?_
                rotate_left
                · intro w'
                  go_simp
                  with_reducible rfl
                rotate_left
                · simp only [Act.put, List.setIfInBounds_toArray, List.set_cons_zero, List.set_cons_succ, i64_w, i32_w]
                  rfl
                refine pure_ (i := 5) (N := some 23) (v := ?_) (a' := ?_) #[true, false, true, false, false, true, false, false, false, false, false, false, false] rfl rfl (any_of HT_.out (by kernel_rfl)) (fun _ _ _ h => h) (Or.inl ⟨by rfl, ?_⟩) ?_ ?_
                rotate_left
                · intro w'
                  go_simp
                  with_reducible rfl
                rotate_left
                · simp only [Act.put, List.setIfInBounds_toArray, List.set_cons_zero, List.set_cons_succ, i64_w, i32_w]
                  rfl
                refine take_ (i := 1) (N := some 19) (v := ?_) (a' := ?_) #[true, true, true, false, false, true, false, false, false, false, false, false, false] rfl rfl (take_ofW HT_.out HW_.out (by kernel_rfl)) (fun _ _ _ h => h) (Or.inl ⟨by rfl, ?_⟩) hHeld ?_ ?_
                rotate_left
                · rintro w' ⟨s0, s1, s2, s3, s4⟩
                  go_simp
                  with_reducible rfl
                rotate_left
                · simp only [Act.put, List.setIfInBounds_toArray, List.set_cons_zero, List.set_cons_succ, i64_w, i32_w]
                  rfl
                refine take_ (i := 3) (N := some 21) (v := ?_) (a' := ?_) #[true, true, true, true, false, true, false, false, false, false, false, false, false] rfl rfl (take_ofW HT_.out HW_.out (by kernel_rfl)) (fun _ _ _ h => h) (Or.inl ⟨by rfl, ?_⟩) hHeld ?_ ?_
                rotate_left
                · rintro w' ⟨s0, s1, s2, s3, s4⟩
                  go_simp
                  with_reducible rfl
                rotate_left
                · simp only [Act.put, List.setIfInBounds_toArray, List.set_cons_zero, List.set_cons_succ, i64_w, i32_w]
                  rfl
                refine take_ (i := 6) (N := some 24) (v := ?_) (a' := ?_) #[true, true, true, true, false, true, true, false, false, false, false, false, false] rfl rfl (take_ofW HT_.out HW_.out (by kernel_rfl)) (fun _ _ _ h => h) (Or.inl ⟨by rfl, ?_⟩) hHeld ?_ ?_
                rotate_left
                · rintro w' ⟨s0, s1, s2, s3, s4⟩
                  go_simp
                  with_reducible rfl
                rotate_left
                · simp only [Act.put, List.setIfInBounds_toArray, List.set_cons_zero, List.set_cons_succ, i64_w, i32_w]
                  rfl
                refine one_ (i := 4) (N := some 22) #[true, true, true, true, true, true, true, false, false, false, false, false, false] rfl rfl (one_of HT_.out (by kernel_rfl)) (by decide) (fun K hK => ?_)
                refine Kd.R_lit_step (Kd.int .i64) _ 3 ?hg (N := 22) ?hd (xs := ([] : List Int)) (inner := []) (ok := fun _ => True) (okp := fun _ => True) ?hr ?hp (fun _ hk => hk) trivial (Below.refl _ _) (Nat.le_refl _) (by simp) ?_; (case hd => rfl); (case hg => rfl); (case hr => first | (go_simp; done) | (go_simp; rfl)); (case hp => exact (Reps.none _ _))
                intro v107 w23 ho24 hb hg_ hnew_
                clear hg_ hnew_
                (first | rw [← Ny106.out] at ho24 | (simp only [Int.reduceToNat] at ho24; rw [← Ny106.out] at ho24))
                have n0_ := Aside0.mk (Kd.S_elder' (by (with_reducible repeat (first | apply Kd.S_alloc | apply Kd.S_drewN | apply Kd.S_drew)); exact HO_104002.out) (Kd.R_base ho24) hb)
                have n1_ := Aside0.mk (Kd.R_lower ho24 (below_size (by repeat (first | (with_reducible first | exact HB.out | apply below_alloc | apply pw_below_drewN | apply below_drew1 | refine below_set ?_ GE101.out | refine below_set ?_ GE102.out | refine below_set ?_ GE103.out | refine below_set ?_ GE105.out) | exact HB.out))))
                have n2_ := Aside0.mk (blk_below (g := gb101) (o := .cells #[.int .i64 a0_0, .int .i64 a0_1, .slice (some ad104) l0_2.length c0_2] 30 (0, 0)) (by (with_reducible repeat (first | refine blk_drewN ?_ _ | refine blk_drew ?_ | refine blk_alloc ?_ _)); exact BK101.out) hb)
                have n3_ := Aside0.mk (blk_below (g := gb102) (o := .cells #[.int .i64 0, .int .i64 0, .slice none 0 0] 30 (0, 0)) (by (with_reducible repeat (first | refine blk_drewN ?_ _ | refine blk_drew ?_ | refine blk_alloc ?_ _)); exact BK102.out) hb)
                have n4_ := Aside0.mk (blk_below (g := gb103) (o := .cells #[.int .i64 a0_0, .int .i64 a0_1, u104002] 30 (0, 0)) (by (with_reducible repeat (first | refine blk_drewN ?_ _ | refine blk_drew ?_ | refine blk_alloc ?_ _)); exact BK103.out) hb)
                have n5_ := Aside0.mk (blk_below (g := gb105) (o := .cells #[.int .i64 ((rd_T47 l0_2 x14_1).f0), .slice A104_1 ((rd_T47 l0_2 x14_1).f1).length c104_1] 47 (0, 0)) (by (with_reducible repeat (first | refine blk_drewN ?_ _ | refine blk_drew ?_ | refine blk_alloc ?_ _)); exact BK105.out) hb)
                have n6_ := Aside0.mk (below_step (by repeat (first | (with_reducible first | exact HB.out | apply below_alloc | apply pw_below_drewN | apply below_drew1 | refine below_set ?_ GE101.out | refine below_set ?_ GE102.out | refine below_set ?_ GE103.out | refine below_set ?_ GE105.out) | exact HB.out)) hb)
                clear HO_104002
                clear BK101
                clear BK102
                clear BK103
                clear BK105
                clear HB
                have HO_104002 := n0_
                have HO108 := n1_
                have BK101 := n2_
                have BK102 := n3_
                have BK103 := n4_
                have BK105 := n5_
                have HB := n6_
                clear n0_ n1_ n2_ n3_ n4_ n5_ n6_
                clear hb ho24
                refine hK.out _ _ ⟨(blk_cell BK103.out 0).trans rfl, (blk_cell BK103.out 1).trans rfl, (blk_cell BK103.out 2).trans rfl, (blk_cell BK105.out 0).trans rfl, (blk_cell BK105.out 1).trans rfl⟩ (fun hHeld => ?_)
                clear hK K
                refine norm_ (a' := ?_) ?_ ?_
                rotate_left
                · show Act.put _ (some 22) _ = _
                  simp only [Act.put, List.setIfInBounds_toArray, List.set_cons_zero, List.set_cons_succ, i64_w, i32_w]
                  rfl
                refine one_ (i := 7) (N := some 25) #[true, true, true, true, true, true, true, true, false, false, false, false, false] rfl rfl (one_of HT_.out (by kernel_rfl)) (by decide) (fun K hK => ?_)
                refine Kd.R_append_rows_step (Kd.int .i64) (w0 := w) w.heap.size (by rfl) (.tmp 22) (.tmp 24) 34 3 (.int .i64 0) 8 rfl Try.underlying34 info3 rfl (by decide) (by omega) v107 y106 ((rd_T47 l0_2 x14_1).f1) _ _ _ (fun _ => True) (fun _ => False) rfl rfl ?aO ?aR (fun _ _ h => h) (fun _ h => h.elim) ?aF ?aB ?aS ?aL ?_
                (case aR => repeat (first | exact (Kd.C_below HR104_1.out HB.out) | (with_reducible refine Kd.C_alloc ?_ _) | (with_reducible refine Kd.C_drewN ?_ _) | (with_reducible refine Kd.C_drew ?_)))
                (case aB => exact (by repeat (first | (with_reducible first | exact HB.out | apply below_alloc | apply pw_below_drewN | apply below_drew1 | refine below_set ?_ GE101.out | refine below_set ?_ GE102.out | refine below_set ?_ GE103.out | refine below_set ?_ GE105.out) | exact HB.out)))
                (case aF => exact (fun _ _ => trivial))
                (case aO => exact (by (with_reducible repeat (first | apply Kd.R_alloc | apply Kd.R_drewN | apply Kd.R_drew)); exact HO108.out))
                (case aS => exact (below_size (by repeat (first | (with_reducible first | exact HB.out | apply below_alloc | apply pw_below_drewN | apply below_drew1 | refine below_set ?_ GE101.out | refine below_set ?_ GE102.out | refine below_set ?_ GE103.out | refine below_set ?_ GE105.out) | exact HB.out))))
                (case aL => have := LMc14.out; omega)
                intro v110 w25 ho hb hg hat
                rw [← Ny109.out] at ho
                have n0_ := Aside0.mk (Kd.S_after (ok := (fun k_ => k_ ≠ gb105)) (by (with_reducible repeat (first | apply Kd.S_alloc | apply Kd.S_drewN | apply Kd.S_drew)); exact HO_104002.out) hg hat)
                have n1_ := Aside0.mk (blk_grown (g := gb101) (o := .cells #[.int .i64 a0_0, .int .i64 a0_1, .slice (some ad104) l0_2.length c0_2] 30 (0, 0)) (by (with_reducible repeat (first | refine blk_drewN ?_ _ | refine blk_drew ?_ | refine blk_alloc ?_ _)); exact BK101.out) hg (Kd.R_ne HO108.out BK101.out (by decide)))
                have n2_ := Aside0.mk (blk_grown (g := gb102) (o := .cells #[.int .i64 0, .int .i64 0, .slice none 0 0] 30 (0, 0)) (by (with_reducible repeat (first | refine blk_drewN ?_ _ | refine blk_drew ?_ | refine blk_alloc ?_ _)); exact BK102.out) hg (Kd.R_ne HO108.out BK102.out (by decide)))
                have n3_ := Aside0.mk (blk_grown (g := gb103) (o := .cells #[.int .i64 a0_0, .int .i64 a0_1, u104002] 30 (0, 0)) (by (with_reducible repeat (first | refine blk_drewN ?_ _ | refine blk_drew ?_ | refine blk_alloc ?_ _)); exact BK103.out) hg (Kd.R_ne HO108.out BK103.out (by decide)))
                have n4_ := Aside0.mk (blk_grown (g := gb105) (o := .cells #[.int .i64 ((rd_T47 l0_2 x14_1).f0), .slice A104_1 ((rd_T47 l0_2 x14_1).f1).length c104_1] 47 (0, 0)) (by (with_reducible repeat (first | refine blk_drewN ?_ _ | refine blk_drew ?_ | refine blk_alloc ?_ _)); exact BK105.out) hg (Kd.R_ne HO108.out BK105.out (by decide)))
                have n5_ := Aside0.mk (hb)
                have n6_ := Aside0.mk (ho)
                clear HO_104002
                clear BK101
                clear BK102
                clear BK103
                clear BK105
                clear HB
                clear HO108
                have HO_104002 := n0_
                have BK101 := n1_
                have BK102 := n2_
                have BK103 := n3_
                have BK105 := n4_
                have HB := n5_
                have HO111 := n6_
                clear n0_ n1_ n2_ n3_ n4_ n5_ n6_
                clear ho hb hg hat
                obtain ⟨Ao26, co26, eo26⟩ := Kd.R_slice HO111.out
                (first | subst eo26 | (injection eo26 with f1_ f2_ f3_; have f4_ := f1_.symm; have f5_ := f3_.symm; clear f1_ f2_ f3_; subst f4_; subst f5_))
                refine hK.out _ _ ⟨(blk_cell BK103.out 0).trans rfl, (blk_cell BK103.out 1).trans rfl, (blk_cell BK103.out 2).trans rfl, (blk_cell BK105.out 0).trans rfl, (blk_cell BK105.out 1).trans rfl⟩ (fun hHeld => ?_)
                clear hK K
                refine norm_ (a' := ?_) ?_ ?_
                rotate_left
                · show Act.put _ (some 25) _ = _
                  simp only [Act.put, List.setIfInBounds_toArray, List.set_cons_zero, List.set_cons_succ, i64_w, i32_w]
                  rfl
                refine pure_ (i := 8) (N := some 26) (v := ?_) (a' := ?_) #[true, true, true, true, true, true, true, true, true, false, false, false, false] rfl rfl (any_of HT_.out (by kernel_rfl)) (fun _ _ _ h => h) (Or.inl ⟨by rfl, ?_⟩) ?_ ?_
                rotate_left
                · intro w'
                  go_simp
                  with_reducible rfl
                rotate_left
                · simp only [Act.put, List.setIfInBounds_toArray, List.set_cons_zero, List.set_cons_succ, i64_w, i32_w]
                  rfl
                refine one_ (i := 9) (N := some 27) #[true, true, true, true, true, true, true, true, true, true, false, false, false] rfl rfl (one_of HT_.out (by kernel_rfl)) (by decide) (fun K hK => ?_)
                refine value_ (w1 := ?_) (v := ?_) (by rfl) rfl ?_ ?_
                rotate_left 2
                · go_simp
                  constructor
                  · rfl
                  · rfl
                refine hK.out _ _ ⟨(blk_cell (blk_alloc BK103.out _) 0).trans rfl, (blk_cell (blk_alloc BK103.out _) 1).trans rfl, (blk_cell (blk_alloc BK103.out _) 2).trans rfl, (blk_cell (blk_alloc BK105.out _) 0).trans rfl, (blk_cell (blk_alloc BK105.out _) 1).trans rfl⟩ (fun hHeld => ?_)
                clear hK K
                refine norm_ (a' := ?_) ?_ ?_
                rotate_left
                · show Act.put _ (some 27) _ = _
                  simp only [Act.put, List.setIfInBounds_toArray, List.set_cons_zero, List.set_cons_succ, i64_w, i32_w]
                  rfl
                refine one_ (i := 10) (N := some 28) #[true, true, true, true, true, true, true, true, true, true, true, false, false] rfl rfl (one_of HT_.out (by kernel_rfl)) (by decide) (fun K hK => ?_)
                refine Kd.S_append_step k47 (w0 := w) w.heap.size (by rfl) (.tmp 19) (.tmp 27) 28 47 (.agg #[(.int .i64 0), (.slice none 0 0)]) 32 rfl Try.underlying28 info47 rfl (by decide) (by omega) u104002 x104002_1 (⟨(rd_T47 l0_2 x14_1).f0, y109⟩ : S47) [.int .i64 ((rd_T47 l0_2 x14_1).f0), .slice Ao26 y109.length co26] (fun k_ => k_ ≠ gb105) (fun k_ => some k_ = (.slice Ao26 y109.length co26 : Value).ownBlock) rfl rfl ?aP (fun k_ hk_ => ((Kd.R_mono (ok' := fun k_ => ((fun k_ => k_ ≠ gb105)) k_ ∧ some k_ ≠ (u104002 : Value).ownBlock) (Kd.R_types (Kd.R_apart' (HO111.out) (Kd.S_typed HO_104002.out) (by decide)) BK105.out (by decide)) (fun k_ hk => ⟨hk.2, hk.1.2⟩))).1 k_ hk_.symm) ?aF ?aO ?aB ?aS ?aL ?_
                (case aP => exact k47_mkM _ _ _ (⟨(rd_T47 l0_2 x14_1).f0, y109⟩ : S47) (Kd.R_mono (Kd.R_tight rfl (Kd.R_mono (ok' := fun k_ => ((fun k_ => k_ ≠ gb105)) k_ ∧ some k_ ≠ (u104002 : Value).ownBlock) (Kd.R_types (Kd.R_apart' (HO111.out) (Kd.S_typed HO_104002.out) (by decide)) BK105.out (by decide)) (fun k_ hk => ⟨hk.2, hk.1.2⟩))) (fun _ h_ => h_)))
                (case aB => exact (by repeat (first | (with_reducible first | exact HB.out | apply below_alloc | apply pw_below_drewN | apply below_drew1 | refine below_set ?_ GE101.out | refine below_set ?_ GE102.out | refine below_set ?_ GE103.out | refine below_set ?_ GE105.out) | exact HB.out)))
                (case aF => exact (fun k_ hk => Kd.freshB (g := gb105) (o := .cells #[.int .i64 ((rd_T47 l0_2 x14_1).f0), .slice A104_1 ((rd_T47 l0_2 x14_1).f1).length c104_1] 47 (0, 0)) (by (with_reducible repeat (first | refine blk_drewN ?_ _ | refine blk_drew ?_ | refine blk_alloc ?_ _)); exact BK105.out) k_ hk))
                (case aO => exact (by (with_reducible repeat (first | apply Kd.S_alloc | apply Kd.S_drewN | apply Kd.S_drew)); exact Kd.S_mono HO_104002.out (fun k_ hk => ⟨hk.1, fun e_ => hk.2 e_⟩)))
                (case aS => exact (below_size (by repeat (first | (with_reducible first | exact HB.out | apply below_alloc | apply pw_below_drewN | apply below_drew1 | refine below_set ?_ GE101.out | refine below_set ?_ GE102.out | refine below_set ?_ GE103.out | refine below_set ?_ GE105.out) | exact HB.out))))
                (case aL => have := LMc15.out; omega)
                intro v113 w27 ho hb hg hat
                rw [← Ny112.out] at ho
                have n0_ := Aside0.mk (blk_grown (g := gb101) (o := .cells #[.int .i64 a0_0, .int .i64 a0_1, .slice (some ad104) l0_2.length c0_2] 30 (0, 0)) (by (with_reducible repeat (first | refine blk_drewN ?_ _ | refine blk_drew ?_ | refine blk_alloc ?_ _)); exact BK101.out) hg (Kd.S_ne HO_104002.out BK101.out (by decide)))
                have n1_ := Aside0.mk (blk_grown (g := gb102) (o := .cells #[.int .i64 0, .int .i64 0, .slice none 0 0] 30 (0, 0)) (by (with_reducible repeat (first | refine blk_drewN ?_ _ | refine blk_drew ?_ | refine blk_alloc ?_ _)); exact BK102.out) hg (Kd.S_ne HO_104002.out BK102.out (by decide)))
                have n2_ := Aside0.mk (blk_grown (g := gb103) (o := .cells #[.int .i64 a0_0, .int .i64 a0_1, u104002] 30 (0, 0)) (by (with_reducible repeat (first | refine blk_drewN ?_ _ | refine blk_drew ?_ | refine blk_alloc ?_ _)); exact BK103.out) hg (Kd.S_ne HO_104002.out BK103.out (by decide)))
                have n3_ := Aside0.mk (blk_grown (g := gb105) (o := .cells #[.int .i64 ((rd_T47 l0_2 x14_1).f0), .slice A104_1 ((rd_T47 l0_2 x14_1).f1).length c104_1] 47 (0, 0)) (by (with_reducible repeat (first | refine blk_drewN ?_ _ | refine blk_drew ?_ | refine blk_alloc ?_ _)); exact BK105.out) hg (Kd.S_away HO_104002.out (fun _ hk => hk.1)))
                have n4_ := Aside0.mk (hb)
                have n5_ := Aside0.mk (ho)
                clear BK101
                clear BK102
                clear BK103
                clear BK105
                clear HB
                clear HO_104002
                clear HO111
                have BK101 := n0_
                have BK102 := n1_
                have BK103 := n2_
                have BK105 := n3_
                have HB := n4_
                have HO114 := n5_
                clear n0_ n1_ n2_ n3_ n4_ n5_
                clear ho hb hg hat
                obtain ⟨Ao28, co28, eo28⟩ := Kd.S_slice HO114.out
                (first | subst eo28 | (injection eo28 with f1_ f2_ f3_; have f4_ := f1_.symm; have f5_ := f3_.symm; clear f1_ f2_ f3_; subst f4_; subst f5_))
                refine hK.out _ _ ⟨(blk_cell BK103.out 0).trans rfl, (blk_cell BK103.out 1).trans rfl, (blk_cell BK103.out 2).trans rfl, (blk_cell BK105.out 0).trans rfl, (blk_cell BK105.out 1).trans rfl⟩ (fun hHeld => ?_)
                clear hK K
                refine norm_ (a' := ?_) ?_ ?_
                rotate_left
                · show Act.put _ (some 28) _ = _
                  simp only [Act.put, List.setIfInBounds_toArray, List.set_cons_zero, List.set_cons_succ, i64_w, i32_w]
                  rfl
                refine pure_ (i := 11) (N := some 29) (v := ?_) (a' := ?_) #[true, true, true, true, true, true, true, true, true, true, true, true, false] rfl rfl (any_of HT_.out (by kernel_rfl)) (fun _ _ _ h => h) (Or.inl ⟨by rfl, ?_⟩) ?_ ?_
                rotate_left
                · intro w'
                  go_simp
                  with_reducible rfl
                rotate_left
                · simp only [Act.put, List.setIfInBounds_toArray, List.set_cons_zero, List.set_cons_succ, i64_w, i32_w]
                  rfl
                refine last_ (i := 12) (N := none) #[true, true, true, true, true, true, true, true, true, true, true, true, true] rfl rfl (one_of HT_.out (by kernel_rfl)) (by decide) (fun K hK => ?_)
                have hs29 : w27.cell? ⟨gb103, 2, none⟩ = some (u104002) := (blk_cell BK103.out 2).trans rfl
                have hfs29 := blk_frozen BK103.out 2
                have hns29_0 := NB101_103.out
                have hns29_1 := NB102_103.out
                have hns29_3 := NB105_103.out
                have hms29_0 := NB103_101.out
                have hms29_1 := NB103_102.out
                have hms29_3 := NB103_105.out
                refine skip_ (w1 := ?_) (by rfl) rfl ?_ ?_
                rotate_left
                · go_simp
                  rfl
                refine hK.out _ _ ?_
                clear hK K
                refine done_ (done_of HT_.out (by kernel_rfl)) ?_
                try go_wp2
                go_roundg k1
                case measure => have := HK1.out; omega
                case rel => exact ⟨(wrap64 (x14_1 + 1)), (y112), (.slice Ao28 y112.length co28), (by first | rfl | (simp; done) | (simp [*]; done)), H', ⟨by have := HK1.out; omega⟩, ⟨by (with_reducible repeat (first | apply Kd.S_alloc | apply Kd.S_drewN | apply Kd.S_drew)); exact Kd.S_mono (Kd.S_far (p := ⟨gb103, 2, none⟩) (Kd.S_types HO114.out BK103.out (by decide)) (fun _ hk => hk.2) (.slice Ao28 y112.length co28)) (fun _ hk => trivial)⟩, ⟨by (with_reducible repeat (first | refine blk_drewN ?_ _ | refine blk_drew ?_ | refine blk_alloc ?_ _)); refine blk_far ?_ NB101_103.out _; (with_reducible repeat (first | refine blk_drewN ?_ _ | refine blk_drew ?_ | refine blk_alloc ?_ _)); exact BK101.out⟩, ⟨by (with_reducible repeat (first | refine blk_drewN ?_ _ | refine blk_drew ?_ | refine blk_alloc ?_ _)); refine blk_far ?_ NB102_103.out _; (with_reducible repeat (first | refine blk_drewN ?_ _ | refine blk_drew ?_ | refine blk_alloc ?_ _)); exact BK102.out⟩, ⟨by (with_reducible repeat (first | refine blk_drewN ?_ _ | refine blk_drew ?_ | refine blk_alloc ?_ _)); refine blk_put (cs := #[.int .i64 a0_0, .int .i64 a0_1, u104002]) ?_ 2 _ rfl; (with_reducible repeat (first | refine blk_drewN ?_ _ | refine blk_drew ?_ | refine blk_alloc ?_ _)); exact BK103.out⟩, ⟨by repeat (first | (with_reducible first | exact HB.out | apply below_alloc | apply pw_below_drewN | apply below_drew1 | refine below_set ?_ GE101.out | refine below_set ?_ GE102.out | refine below_set ?_ GE103.out | refine below_set ?_ GE105.out) | exact HB.out)⟩⟩
              · rw [if_neg c15] at H
                exact absurd H (by simp)
            · rw [if_neg c14] at H
              exact absurd H (by simp)
          · rw [if_neg c13] at H
            exact absurd H (by simp)
        · rw [if_neg c12] at H
          exact absurd H (by simp)
      · rw [if_neg c11] at H
        have c11b0 : decide (x14_1 < (l0_2.length : Int)) = false := decide_eq_false c11
        clear c11
        simp only [Option.some.injEq, Prod.mk.injEq] at H
        obtain ⟨rfl, rfl, rfl⟩ := H
        have hnb30 := NB103_101.out
        have hnc30 := NB101_103.out
        have hnb31 := NB103_102.out
        have hnc31 := NB102_103.out
        have hcz32_0 : wr.cell? ⟨gb103, 0, none⟩ = some (.int .i64 a0_0) := (blk_cell BK103.out 0).trans rfl
        have hcz32_1 : wr.cell? ⟨gb103, 1, none⟩ = some (.int .i64 a0_1) := (blk_cell BK103.out 1).trans rfl
        have hcz32_2 : wr.cell? ⟨gb103, 2, none⟩ = some (u104002) := (blk_cell BK103.out 2).trans rfl
        have hfz32_0 := blk_frozen BK103.out 0
        have hfz32_1 := blk_frozen BK103.out 1
        have hfz32_2 := blk_frozen BK103.out 2
        have hnb33 := NB102_101.out
        have hnc33 := NB101_102.out
        have hcz34_0 : wr.cell? ⟨gb102, 0, none⟩ = some (.int .i64 0) := (blk_cell BK102.out 0).trans rfl
        have hcz34_1 : wr.cell? ⟨gb102, 1, none⟩ = some (.int .i64 0) := (blk_cell BK102.out 1).trans rfl
        have hcz34_2 : wr.cell? ⟨gb102, 2, none⟩ = some (.slice none 0 0) := (blk_cell BK102.out 2).trans rfl
        have hfz34_0 := blk_frozen BK102.out 0
        have hfz34_1 := blk_frozen BK102.out 1
        have hfz34_2 := blk_frozen BK102.out 2
        obtain ⟨Ao35, co35, eo35⟩ := Kd.S_slice HO_104002.out
        subst eo35
        go_wp2
        refine bodyPost_ret (results_cell_row rfl _ _ gb102 30 #[.int .i64 a0_0, .int .i64 a0_1, .slice Ao35 x104002_1.length co35] (0, 0) _ rfl (by (with_reducible repeat (first | refine blk_drewN ?_ _ | refine blk_drew ?_ | refine blk_alloc ?_ _)); refine blk_put (cs := #[.int .i64 a0_0, .int .i64 a0_1, .slice none 0 0]) ?_ 2 _ rfl; (with_reducible repeat (first | refine blk_drewN ?_ _ | refine blk_drew ?_ | refine blk_alloc ?_ _)); refine blk_put (cs := #[.int .i64 a0_0, .int .i64 0, .slice none 0 0]) ?_ 1 _ rfl; (with_reducible repeat (first | refine blk_drewN ?_ _ | refine blk_drew ?_ | refine blk_alloc ?_ _)); refine blk_put (cs := #[.int .i64 0, .int .i64 0, .slice none 0 0]) ?_ 0 _ rfl; (with_reducible repeat (first | refine blk_drewN ?_ _ | refine blk_drew ?_ | refine blk_alloc ?_ _)); exact BK102.out) Try.underlying30 rfl (by kernel_rfl)) rfl ?_
        exact ⟨_, by first | rfl | (simp [errW_none, errW_some] <;> rfl) | (simp [*, errW_none, errW_some] <;> rfl), by (with_reducible repeat (first | apply Kd.S_alloc | apply Kd.S_drewN | apply Kd.S_drew)); exact Kd.S_mono (Kd.S_far (p := ⟨gb102, 2, none⟩) (Kd.S_far (p := ⟨gb102, 1, none⟩) (Kd.S_far (p := ⟨gb102, 0, none⟩) (Kd.S_types HO_104002.out BK102.out (by decide)) (fun _ hk => hk.2) (.int .i64 a0_0)) (fun _ hk => hk.2) (.int .i64 a0_1)) (fun _ hk => hk.2) (.slice Ao35 x104002_1.length co35)) (fun _ hk => trivial), by repeat (first | (with_reducible first | exact HB.out | apply below_alloc | apply pw_below_drewN | apply below_drew1 | refine below_set ?_ GE101.out | refine below_set ?_ GE102.out | refine below_set ?_ GE103.out) | exact HB.out)⟩
end Go.Proofs.Ytohbdjdjjbieeaa.P
namespace Go.Proofs.Ytohbdjdjjbieeaa.P
open Go.RowKit Go.Proofs.YtohbdjdjjbieeaaW.PrintWords
set_option linter.unusedVariables false
set_option linter.unusedSimpArgs false
theorem eta_rule (r : S47) : (⟨r.f0, r.f1⟩ : S47) = r := by cases r; rfl
theorem copyGrammar_loop (l : List S47) (hs : smallI l) (n t : Int) (d : Nat) : ∀ (i : Nat), i ≤ l.length → l.length - i = d → ∀ k, d < k → impl_copyGrammar.l0 k l l.length i n t (l.take i) = some (n, t, l) := by
  have hb := hs.1
  induction d with
  | zero =>
    intro i h1 hd k hk
    obtain ⟨k, rfl⟩ : ∃ m, k = m + 1 := ⟨k - 1, by omega⟩
    simp only [impl_copyGrammar.l0]
    rw [if_neg (by omega), List.take_of_length_le (by omega)]
  | succ d ih =>
    intro i h1 hd k hk
    have hbi := hs.2 i (by omega)
    obtain ⟨k, rfl⟩ : ∃ m, k = m + 1 := ⟨k - 1, by omega⟩
    simp only [impl_copyGrammar.l0, Option.bind_some, List.length_nil, List.nil_append]
    rw [if_pos (by omega), if_pos (by omega), if_pos (by omega), if_pos (by omega), if_pos (by rw [List.length_take]; omega), eta_rule, show wrap64 ((i : Int) + 1) = ((i + 1 : Nat) : Int) by unfold wrap64; omega]
    rw [show l.take i ++ [rd_T47 l i] = l.take (i + 1) from (by rw [take_getD l i z47 (by omega)]; rfl)]
    exact ih (i + 1) (by omega) (by omega) k (by omega)
theorem copyGrammar_eq (l : List S47) (hs : smallI l) (n t : Int) (k : Nat) (hk : l.length < k) : impl_copyGrammar.f k n t l = some (n, t, l) := by
  have := copyGrammar_loop l hs n t l.length 0 (by omega) (by omega) k hk
  unfold impl_copyGrammar.f
  simpa using this
end Go.Proofs.Ytohbdjdjjbieeaa.P
namespace Go.Proofs.Ytohbdjdjjbieeaa.P
open Go.RowKit Go.Proofs.YtohbdjdjjbieeaaW.PrintWords Go.Proofs.YtohbdjdjjbieeaaW.PrintLast Go.Proofs.YtohbdjdjjbieeaaW.PrintMore
set_option linter.unusedVariables false
set_option linter.unusedSimpArgs false
set_option maxHeartbeats 8000000 in
set_option maxRecDepth 100000 in
theorem useful_calls (a0 a1 : Int) (A : Option Addr) (c : Nat) (l : List S47) (w : World) (hr : Kd.C k47 w A l.length l) (hc : l.length ≤ c) (hl16 : smallI l) (hok : ∀ j : Nat, j < l.length → okR6 (rd_T47 l j)) :
    Calls Try.prog 51 #[.agg #[.int .i64 a0, .int .i64 a1, .slice A l.length c]] w fun e w' => (∃ v, e = .returned (.agg #[.int .i64 a0, .int .i64 a1, v]) ∧ Kd.S k47 47 w' w.heap.size (fun _ => True) v (usefulF l)) ∧ Below w.heap.size w w' := by
  have hu := Try.underlying30
  obtain ⟨p0, p1, p2, p3, p4, p5, hpE⟩ := six (closedF mkPro l) (closedF_len _ _)
  obtain ⟨q0, q1, q2, q3, q4, q5, hqE⟩ := six (reachF l) (reachF_len _)
  have CP : ∀ W : World, Below w.heap.size w W → Calls Try.prog 47 #[.agg #[.int .i64 a0, .int .i64 a1, .slice A l.length c]] W fun e w' => e = .returned (.agg #[.bool p0, .bool p1, .bool p2, .bool p3, .bool p4, .bool p5]) ∧ Below W.heap.size W w' := fun W hW =>
    (productive_calls a0 a1 A c l W (Kd.C_below hr hW) hc hok).mono fun e w' ⟨⟨b0, b1, b2, b3, b4, b5, he, hq⟩, hb⟩ => ⟨by rw [he]; rw [hpE] at hq; simp at hq; obtain ⟨rfl, rfl, rfl, rfl, rfl, rfl⟩ := hq; rfl, hb⟩
  have CR : ∀ W : World, Below w.heap.size w W → Calls Try.prog 43 #[.agg #[.int .i64 a0, .int .i64 a1, .slice A l.length c]] W fun e w' => e = .returned (.agg #[.bool q0, .bool q1, .bool q2, .bool q3, .bool q4, .bool q5]) ∧ Below W.heap.size W w' := fun W hW =>
    (reached_calls a0 a1 A c l W (Kd.C_below hr hW) hc hok).mono fun e w' ⟨⟨b0, b1, b2, b3, b4, b5, he, hq⟩, hb⟩ => ⟨by rw [he]; rw [hqE] at hq; simp at hq; obtain ⟨rfl, rfl, rfl, rfl, rfl, rfl⟩ := hq; rfl, hb⟩
  have CC : ∀ W : World, Below w.heap.size w W → Calls Try.prog 78 #[.agg #[.int .i64 a0, .int .i64 a1, .slice A l.length c]] W fun e w' => (∃ v, e = .returned (.agg #[.int .i64 a0, .int .i64 a1, v]) ∧ Kd.S k47 47 w' w.heap.size (fun _ => True) v l) ∧ Below W.heap.size W w' := fun W hW =>
    (impl_copyGrammar.calls (l.length + 1) a0 a1 A c l a0 a1 l W (Kd.C_below hr hW) hc (copyGrammar_eq l hl16 a0 a1 _ (Nat.lt_succ_self _))).mono fun e w' ⟨v, he, hs, hb⟩ => ⟨⟨v, he, Kd.S_lower hs hW.size⟩, hb⟩
  have HB := Aside0.mk (Below.refl w.heap.size w)
  have EA := Aside0.mk (show useA l = l.filter fun x => !useF1 [p0, p1, p2, p3, p4, p5] [q0, q1, q2, q3, q4, q5] x by unfold useA; rw [hpE, hqE])
  have HOK := Aside0.mk hok
  clear hpE hqE hok hr hl16
  go_enter Try.func51, Try.ntmps51
  go_wp2_with (first | ((with_reducible refine gate_dst (N := 1) rfl ?_); refine box_event ?hg (N := 1) ?hd (cs := #[.int .i64 a0, .int .i64 a1, .slice A l.length c]) (t := 30) ?hr ?_; (case hd => rfl); (case hg => rfl); (case hr => first | (go_simp; done) | (go_simp; rfl)); intro gb hg_ w1 hbox_ hb_; have GE_gb := Aside0.mk (show w.heap.size ≤ gb by rw [hg_]; exact below_size (by repeat (first | (with_reducible first | exact HB.out | apply below_alloc | apply pw_below_drewN | apply below_drew1) | exact HB.out))); have n0_ := Aside0.mk (below_step (by repeat (first | (with_reducible first | exact HB.out | apply below_alloc | apply pw_below_drewN | apply below_drew1) | exact HB.out)) hb_); clear HB; have HB := n0_; clear n0_; have B_gb := Aside0.mk hbox_; clear hb_ hbox_ hg_) | ((with_reducible refine gate_dst (N := 2) rfl ?_); refine box_event ?hg (N := 2) ?hd (cs := #[.int .i64 0, .int .i64 0, .slice none 0 0]) (t := 30) ?hr ?_; (case hd => rfl); (case hg => rfl); (case hr => first | (go_simp; done) | (go_simp; rfl)); intro gz hg_ w2 hbox_ hb_; have GE_gz := Aside0.mk (show w.heap.size ≤ gz by rw [hg_]; exact below_size (by repeat (first | (with_reducible first | exact HB.out | apply below_alloc | apply pw_below_drewN | apply below_drew1) | exact HB.out))); have NE_gb_gz := Aside0.mk (show gb ≠ gz by rw [hg_]; exact Nat.ne_of_lt (blk_lt (by (with_reducible repeat (first | refine blk_drewN ?_ _ | refine blk_drew ?_ | refine blk_alloc ?_ _)); exact B_gb.out))); have n0_ := Aside0.mk (below_step (by repeat (first | (with_reducible first | exact HB.out | apply below_alloc | apply pw_below_drewN | apply below_drew1) | exact HB.out)) hb_); have n_gb := Aside0.mk (blk_below (by (with_reducible repeat (first | refine blk_drewN ?_ _ | refine blk_drew ?_ | refine blk_alloc ?_ _)); exact B_gb.out) hb_); clear HB B_gb; have HB := n0_; have B_gb := n_gb; clear n0_ n_gb; have B_gz := Aside0.mk hbox_; clear hb_ hbox_ hg_))
  refine region_inv (by kernel_rfl) (back_of (by kernel_rfl)) (fun L a W => ∃ s3 s4 s6 s7 s8 s9 : Value, a = (⟨#[.agg #[.int .i64 a0, .int .i64 a1, .slice A l.length c], .pointer (some ⟨gb, 0, none⟩), .pointer (some ⟨gz, 0, none⟩), s3, s4, undef, s6, s7, s8, s9, undef, undef, undef, undef, undef, undef, undef, undef, undef, undef, undef, undef, undef, undef, undef], []⟩ : Act) ∧ Below w.heap.size w W ∧ W.heap[gb]? = some (.cells #[.int .i64 a0, .int .i64 a1, .slice A l.length c] 30 (0, 0)) ∧ W.heap[gz]? = some (.cells #[.int .i64 0, .int .i64 0, .slice none 0 0] 30 (0, 0)) ∧ (L 0 = true → s6 = .agg #[.int .i64 a0, .int .i64 a1, .slice A l.length c]) ∧ (L 1 = true → s7 = .agg #[.bool p0, .bool p1, .bool p2, .bool p3, .bool p4, .bool p5]) ∧ (L 2 = true → s8 = .agg #[.int .i64 a0, .int .i64 a1, .slice A l.length c]) ∧ (L 3 = true → s9 = .agg #[.bool q0, .bool q1, .bool q2, .bool q3, .bool q4, .bool q5]) ∧ (L 4 = true → ∃ gq : Nat, s3 = .pointer (some ⟨gq, 0, none⟩) ∧ w.heap.size ≤ gq ∧ gq ≠ gb ∧ gq ≠ gz ∧ W.heap[gq]? = some (.cells (if L 6 = true then #[.bool p0, .bool p1, .bool p2, .bool p3, .bool p4, .bool p5] else #[.bool false, .bool false, .bool false, .bool false, .bool false, .bool false]) 54 (0, 0))) ∧ (L 5 = true → ∃ gq : Nat, s4 = .pointer (some ⟨gq, 0, none⟩) ∧ w.heap.size ≤ gq ∧ gq ≠ gb ∧ gq ≠ gz ∧ W.heap[gq]? = some (.cells (if L 7 = true then #[.bool q0, .bool q1, .bool q2, .bool q3, .bool q4, .bool q5] else #[.bool false, .bool false, .bool false, .bool false, .bool false, .bool false]) 54 (0, 0))) ∧ (L 4 = true → L 5 = true → s3 ≠ s4) ∧ (L 6 = true → L 4 = true) ∧ (L 7 = true → L 5 = true)) ?h0 ?hstep ?hend
  case h0 => exact ⟨undef, undef, undef, undef, undef, undef, rfl, HB.out.drew, (blk_drew B_gb.out), (blk_drew B_gz.out), by simp, by simp, by simp, by simp, by simp, by simp, by simp, by simp, by simp⟩
  case hstep =>
    intro L a W i o hI hLi ho hd
    obtain ⟨s3, s4, s6, s7, s8, s9, rfl, hB, hgb, hgz, f0, f1, f2, f3, f4, f5, f45, f64, f75⟩ := hI
    have hge : w.heap.size ≤ gb := GE_gb.out
    have hgbl := blk_lt hgb
    have hgzl := blk_lt hgz
    rcases i with _ | _ | _ | _ | _ | _ | _ | _ | i
    ·
      simp at ho
      subst ho
      simp [Region.binds] at hd
      have x0 : W.cell? ⟨gb, 0, none⟩ = some (.int .i64 a0) := (blk_cell hgb 0).trans rfl
      have x1 : W.cell? ⟨gb, 1, none⟩ = some (.int .i64 a1) := (blk_cell hgb 1).trans rfl
      have x2 : W.cell? ⟨gb, 2, none⟩ = some (.slice A l.length c) := (blk_cell hgb 2).trans rfl
      refine value_ (N := some 6) (v := .agg #[.int .i64 a0, .int .i64 a1, .slice A l.length c]) (w1 := W) rfl rfl (by first | (go_simp; done) | (go_simp; rfl)) ?_
      exact ⟨s3, s4, .agg #[.int .i64 a0, .int .i64 a1, .slice A l.length c], s7, s8, s9, rfl, hB, hgb, hgz, fun _ => rfl, fun h => f1 (by simpa using h), fun h => f2 (by simpa using h), fun h => f3 (by simpa using h), fun h => by obtain ⟨gq, e1, e2, e3, e4, e5⟩ := f4 (by simpa using h); exact ⟨gq, e1, e2, e3, e4, by simpa using e5⟩, fun h => by obtain ⟨gq, e1, e2, e3, e4, e5⟩ := f5 (by simpa using h); exact ⟨gq, e1, e2, e3, e4, by simpa using e5⟩, fun h1 h2 => f45 (by simpa using h1) (by simpa using h2), fun h => by simpa using f64 (by simpa using h), fun h => by simpa using f75 (by simpa using h)⟩
    ·
      simp at ho
      subst ho
      simp [Region.binds] at hd
      obtain rfl := f0 (by simpa using hd)
      refine goes_ Try.func47 (by kernel_rfl) rfl #[.agg #[.int .i64 a0, .int .i64 a1, .slice A l.length c]] rfl rfl rfl (by simp [Act.eval]) ?_
      refine (CP W hB).mono ?_
      rintro e W2 ⟨rfl, hb⟩
      refine ⟨_, rfl, ?_⟩
      exact ⟨s3, s4, .agg #[.int .i64 a0, .int .i64 a1, .slice A l.length c], .agg #[.bool p0, .bool p1, .bool p2, .bool p3, .bool p4, .bool p5], s8, s9, rfl, (below_step hB hb), (blk_below hgb hb), (blk_below hgz hb), fun h => f0 (by simpa using h), fun _ => rfl, fun h => f2 (by simpa using h), fun h => f3 (by simpa using h), fun h => by obtain ⟨gq, e1, e2, e3, e4, e5⟩ := f4 (by simpa using h); exact ⟨gq, e1, e2, e3, e4, by simpa using blk_below e5 hb⟩, fun h => by obtain ⟨gq, e1, e2, e3, e4, e5⟩ := f5 (by simpa using h); exact ⟨gq, e1, e2, e3, e4, by simpa using blk_below e5 hb⟩, fun h1 h2 => f45 (by simpa using h1) (by simpa using h2), fun h => by simpa using f64 (by simpa using h), fun h => by simpa using f75 (by simpa using h)⟩
    ·
      simp at ho
      subst ho
      simp [Region.binds] at hd
      have x0 : W.cell? ⟨gb, 0, none⟩ = some (.int .i64 a0) := (blk_cell hgb 0).trans rfl
      have x1 : W.cell? ⟨gb, 1, none⟩ = some (.int .i64 a1) := (blk_cell hgb 1).trans rfl
      have x2 : W.cell? ⟨gb, 2, none⟩ = some (.slice A l.length c) := (blk_cell hgb 2).trans rfl
      refine value_ (N := some 8) (v := .agg #[.int .i64 a0, .int .i64 a1, .slice A l.length c]) (w1 := W) rfl rfl (by first | (go_simp; done) | (go_simp; rfl)) ?_
      exact ⟨s3, s4, s6, s7, .agg #[.int .i64 a0, .int .i64 a1, .slice A l.length c], s9, rfl, hB, hgb, hgz, fun h => f0 (by simpa using h), fun h => f1 (by simpa using h), fun _ => rfl, fun h => f3 (by simpa using h), fun h => by obtain ⟨gq, e1, e2, e3, e4, e5⟩ := f4 (by simpa using h); exact ⟨gq, e1, e2, e3, e4, by simpa using e5⟩, fun h => by obtain ⟨gq, e1, e2, e3, e4, e5⟩ := f5 (by simpa using h); exact ⟨gq, e1, e2, e3, e4, by simpa using e5⟩, fun h1 h2 => f45 (by simpa using h1) (by simpa using h2), fun h => by simpa using f64 (by simpa using h), fun h => by simpa using f75 (by simpa using h)⟩
    ·
      simp at ho
      subst ho
      simp [Region.binds] at hd
      obtain rfl := f2 (by simpa using hd.1)
      refine goes_ Try.func43 (by kernel_rfl) rfl #[.agg #[.int .i64 a0, .int .i64 a1, .slice A l.length c]] rfl rfl rfl (by simp [Act.eval]) ?_
      refine (CR W hB).mono ?_
      rintro e W2 ⟨rfl, hb⟩
      refine ⟨_, rfl, ?_⟩
      exact ⟨s3, s4, s6, s7, .agg #[.int .i64 a0, .int .i64 a1, .slice A l.length c], .agg #[.bool q0, .bool q1, .bool q2, .bool q3, .bool q4, .bool q5], rfl, (below_step hB hb), (blk_below hgb hb), (blk_below hgz hb), fun h => f0 (by simpa using h), fun h => f1 (by simpa using h), fun h => f2 (by simpa using h), fun _ => rfl, fun h => by obtain ⟨gq, e1, e2, e3, e4, e5⟩ := f4 (by simpa using h); exact ⟨gq, e1, e2, e3, e4, by simpa using blk_below e5 hb⟩, fun h => by obtain ⟨gq, e1, e2, e3, e4, e5⟩ := f5 (by simpa using h); exact ⟨gq, e1, e2, e3, e4, by simpa using blk_below e5 hb⟩, fun h1 h2 => f45 (by simpa using h1) (by simpa using h2), fun h => by simpa using f64 (by simpa using h), fun h => by simpa using f75 (by simpa using h)⟩
    ·
      simp at ho
      subst ho
      simp [Region.binds] at hd
      have nb := blk_new W (.cells #[.bool false, .bool false, .bool false, .bool false, .bool false, .bool false] 54)
      refine value_ (N := some 3) (v := (.pointer (some ⟨W.heap.size, 0, none⟩))) (w1 := W.alloc (.cells #[.bool false, .bool false, .bool false, .bool false, .bool false, .bool false] 54)) rfl rfl (by first | (go_simp; done) | (go_simp; rfl)) ?_
      exact ⟨(.pointer (some ⟨W.heap.size, 0, none⟩)), s4, s6, s7, s8, s9, rfl, (below_alloc hB _), (blk_alloc hgb _), (blk_alloc hgz _), fun h => f0 (by simpa using h), fun h => f1 (by simpa using h), fun h => f2 (by simpa using h), fun h => f3 (by simpa using h), fun _ => ⟨W.heap.size, rfl, hB.size, Nat.ne_of_gt hgbl, Nat.ne_of_gt hgzl, by have hk : L 6 = false := eq_false_of_ne_true (fun h => by rw [f64 h] at hLi; cases hLi); simpa [hk] using nb⟩, fun h => by obtain ⟨gq, e1, e2, e3, e4, e5⟩ := f5 (by simpa using h); exact ⟨gq, e1, e2, e3, e4, by simpa using blk_alloc e5 _⟩, fun h1 h2 e => by obtain ⟨gq, e1, _, _, _, e5⟩ := f5 (by simpa using h2); rw [e1] at e; have := blk_lt e5; injection e with e; injection e with e; injection e with e; omega, fun h => by simp, fun h => by simpa using f75 (by simpa using h)⟩
    ·
      simp at ho
      subst ho
      simp [Region.binds] at hd
      have nb := blk_new W (.cells #[.bool false, .bool false, .bool false, .bool false, .bool false, .bool false] 54)
      refine value_ (N := some 4) (v := (.pointer (some ⟨W.heap.size, 0, none⟩))) (w1 := W.alloc (.cells #[.bool false, .bool false, .bool false, .bool false, .bool false, .bool false] 54)) rfl rfl (by first | (go_simp; done) | (go_simp; rfl)) ?_
      exact ⟨s3, (.pointer (some ⟨W.heap.size, 0, none⟩)), s6, s7, s8, s9, rfl, (below_alloc hB _), (blk_alloc hgb _), (blk_alloc hgz _), fun h => f0 (by simpa using h), fun h => f1 (by simpa using h), fun h => f2 (by simpa using h), fun h => f3 (by simpa using h), fun h => by obtain ⟨gq, e1, e2, e3, e4, e5⟩ := f4 (by simpa using h); exact ⟨gq, e1, e2, e3, e4, by simpa using blk_alloc e5 _⟩, fun _ => ⟨W.heap.size, rfl, hB.size, Nat.ne_of_gt hgbl, Nat.ne_of_gt hgzl, by have hk : L 7 = false := eq_false_of_ne_true (fun h => by rw [f75 h] at hLi; cases hLi); simpa [hk] using nb⟩, fun h1 h2 e => by obtain ⟨gq, e1, _, _, _, e5⟩ := f4 (by simpa using h1); rw [e1] at e; have := blk_lt e5; injection e with e; injection e with e; injection e with e; omega, fun h => by simpa using f64 (by simpa using h), fun h => by simp⟩
    ·
      simp at ho
      subst ho
      simp [Region.binds] at hd
      have hdk : L 4 = true := by simp_all
      have hdv : L 1 = true := by simp_all
      obtain ⟨gq, e1, e2, e3, e4, e5⟩ := f4 hdk
      subst e1
      obtain rfl := f1 hdv
      rw [hLi] at e5
      simp only [Bool.false_eq_true, if_false] at e5
      have x0 : W.cell? ⟨gq, 0, none⟩ = some (.bool false) := (blk_cell e5 0).trans rfl
      have y0 := blk_frozen e5 0
      have x1 : W.cell? ⟨gq, 1, none⟩ = some (.bool false) := (blk_cell e5 1).trans rfl
      have y1 := blk_frozen e5 1
      have x2 : W.cell? ⟨gq, 2, none⟩ = some (.bool false) := (blk_cell e5 2).trans rfl
      have y2 := blk_frozen e5 2
      have x3 : W.cell? ⟨gq, 3, none⟩ = some (.bool false) := (blk_cell e5 3).trans rfl
      have y3 := blk_frozen e5 3
      have x4 : W.cell? ⟨gq, 4, none⟩ = some (.bool false) := (blk_cell e5 4).trans rfl
      have y4 := blk_frozen e5 4
      have x5 : W.cell? ⟨gq, 5, none⟩ = some (.bool false) := (blk_cell e5 5).trans rfl
      have y5 := blk_frozen e5 5
      refine skip_ (w1 := ((((((W.setCell ⟨gq, 0, none⟩ (.bool p0)).setCell ⟨gq, 1, none⟩ (.bool p1)).setCell ⟨gq, 2, none⟩ (.bool p2)).setCell ⟨gq, 3, none⟩ (.bool p3)).setCell ⟨gq, 4, none⟩ (.bool p4)).setCell ⟨gq, 5, none⟩ (.bool p5))) rfl rfl (by first | (go_simp; done) | (go_simp; rfl)) ?_
      exact ⟨_, s4, s6, .agg #[.bool p0, .bool p1, .bool p2, .bool p3, .bool p4, .bool p5], s8, s9, rfl, (below_set (below_set (below_set (below_set (below_set (below_set hB e2) e2) e2) e2) e2) e2), (blk_far (blk_far (blk_far (blk_far (blk_far (blk_far hgb (Ne.symm e3) _) (Ne.symm e3) _) (Ne.symm e3) _) (Ne.symm e3) _) (Ne.symm e3) _) (Ne.symm e3) _), (blk_far (blk_far (blk_far (blk_far (blk_far (blk_far hgz (Ne.symm e4) _) (Ne.symm e4) _) (Ne.symm e4) _) (Ne.symm e4) _) (Ne.symm e4) _) (Ne.symm e4) _), fun h => f0 (by simpa using h), fun h => f1 (by simpa using h), fun h => f2 (by simpa using h), fun h => f3 (by simpa using h), fun _ => ⟨gq, rfl, e2, e3, e4, by simp; exact (blk_put (cs := #[.bool p0, .bool p1, .bool p2, .bool p3, .bool p4, .bool false]) (blk_put (cs := #[.bool p0, .bool p1, .bool p2, .bool p3, .bool false, .bool false]) (blk_put (cs := #[.bool p0, .bool p1, .bool p2, .bool false, .bool false, .bool false]) (blk_put (cs := #[.bool p0, .bool p1, .bool false, .bool false, .bool false, .bool false]) (blk_put (cs := #[.bool p0, .bool false, .bool false, .bool false, .bool false, .bool false]) (blk_put (cs := #[.bool false, .bool false, .bool false, .bool false, .bool false, .bool false]) e5 0 _ rfl) 1 _ rfl) 2 _ rfl) 3 _ rfl) 4 _ rfl) 5 _ rfl)⟩, fun h => by obtain ⟨g2, z1, z2, z3, z4, z5⟩ := f5 (by simpa using h); exact ⟨g2, z1, z2, z3, z4, by simpa using (blk_far (blk_far (blk_far (blk_far (blk_far (blk_far z5 (fun e => f45 hdk (by simpa using h) (by rw [z1, e])) _) (fun e => f45 hdk (by simpa using h) (by rw [z1, e])) _) (fun e => f45 hdk (by simpa using h) (by rw [z1, e])) _) (fun e => f45 hdk (by simpa using h) (by rw [z1, e])) _) (fun e => f45 hdk (by simpa using h) (by rw [z1, e])) _) (fun e => f45 hdk (by simpa using h) (by rw [z1, e])) _)⟩, fun h1 h2 => f45 (by simpa using h1) (by simpa using h2), fun _ => by simpa using hdk, fun h => by simpa using f75 (by simpa using h)⟩
    ·
      simp at ho
      subst ho
      simp [Region.binds] at hd
      have hdk : L 5 = true := by simp_all
      have hdv : L 3 = true := by simp_all
      obtain ⟨gq, e1, e2, e3, e4, e5⟩ := f5 hdk
      subst e1
      obtain rfl := f3 hdv
      rw [hLi] at e5
      simp only [Bool.false_eq_true, if_false] at e5
      have x0 : W.cell? ⟨gq, 0, none⟩ = some (.bool false) := (blk_cell e5 0).trans rfl
      have y0 := blk_frozen e5 0
      have x1 : W.cell? ⟨gq, 1, none⟩ = some (.bool false) := (blk_cell e5 1).trans rfl
      have y1 := blk_frozen e5 1
      have x2 : W.cell? ⟨gq, 2, none⟩ = some (.bool false) := (blk_cell e5 2).trans rfl
      have y2 := blk_frozen e5 2
      have x3 : W.cell? ⟨gq, 3, none⟩ = some (.bool false) := (blk_cell e5 3).trans rfl
      have y3 := blk_frozen e5 3
      have x4 : W.cell? ⟨gq, 4, none⟩ = some (.bool false) := (blk_cell e5 4).trans rfl
      have y4 := blk_frozen e5 4
      have x5 : W.cell? ⟨gq, 5, none⟩ = some (.bool false) := (blk_cell e5 5).trans rfl
      have y5 := blk_frozen e5 5
      refine skip_ (w1 := ((((((W.setCell ⟨gq, 0, none⟩ (.bool q0)).setCell ⟨gq, 1, none⟩ (.bool q1)).setCell ⟨gq, 2, none⟩ (.bool q2)).setCell ⟨gq, 3, none⟩ (.bool q3)).setCell ⟨gq, 4, none⟩ (.bool q4)).setCell ⟨gq, 5, none⟩ (.bool q5))) rfl rfl (by first | (go_simp; done) | (go_simp; rfl)) ?_
      exact ⟨s3, _, s6, s7, s8, .agg #[.bool q0, .bool q1, .bool q2, .bool q3, .bool q4, .bool q5], rfl, (below_set (below_set (below_set (below_set (below_set (below_set hB e2) e2) e2) e2) e2) e2), (blk_far (blk_far (blk_far (blk_far (blk_far (blk_far hgb (Ne.symm e3) _) (Ne.symm e3) _) (Ne.symm e3) _) (Ne.symm e3) _) (Ne.symm e3) _) (Ne.symm e3) _), (blk_far (blk_far (blk_far (blk_far (blk_far (blk_far hgz (Ne.symm e4) _) (Ne.symm e4) _) (Ne.symm e4) _) (Ne.symm e4) _) (Ne.symm e4) _) (Ne.symm e4) _), fun h => f0 (by simpa using h), fun h => f1 (by simpa using h), fun h => f2 (by simpa using h), fun h => f3 (by simpa using h), fun h => by obtain ⟨g2, z1, z2, z3, z4, z5⟩ := f4 (by simpa using h); exact ⟨g2, z1, z2, z3, z4, by simpa using (blk_far (blk_far (blk_far (blk_far (blk_far (blk_far z5 (fun e => f45 (by simpa using h) hdk (by rw [z1, e])) _) (fun e => f45 (by simpa using h) hdk (by rw [z1, e])) _) (fun e => f45 (by simpa using h) hdk (by rw [z1, e])) _) (fun e => f45 (by simpa using h) hdk (by rw [z1, e])) _) (fun e => f45 (by simpa using h) hdk (by rw [z1, e])) _) (fun e => f45 (by simpa using h) hdk (by rw [z1, e])) _)⟩, fun _ => ⟨gq, rfl, e2, e3, e4, by simp; exact (blk_put (cs := #[.bool q0, .bool q1, .bool q2, .bool q3, .bool q4, .bool false]) (blk_put (cs := #[.bool q0, .bool q1, .bool q2, .bool q3, .bool false, .bool false]) (blk_put (cs := #[.bool q0, .bool q1, .bool q2, .bool false, .bool false, .bool false]) (blk_put (cs := #[.bool q0, .bool q1, .bool false, .bool false, .bool false, .bool false]) (blk_put (cs := #[.bool q0, .bool false, .bool false, .bool false, .bool false, .bool false]) (blk_put (cs := #[.bool false, .bool false, .bool false, .bool false, .bool false, .bool false]) e5 0 _ rfl) 1 _ rfl) 2 _ rfl) 3 _ rfl) 4 _ rfl) 5 _ rfl)⟩, fun h1 h2 => f45 (by simpa using h1) (by simpa using h2), fun h => by simpa using f64 (by simpa using h), fun _ => by simpa using hdk⟩
    · simp at ho
  case hend =>
    intro L a W hL hI
    obtain ⟨s3, s4, s6, s7, s8, s9, rfl, hB, hgb, hgz, f0, f1, f2, f3, f4, f5, f45, f64, f75⟩ := hI
    obtain rfl := f0 (hL 0 (by decide))
    obtain rfl := f1 (hL 1 (by decide))
    obtain rfl := f2 (hL 2 (by decide))
    obtain rfl := f3 (hL 3 (by decide))
    have hne := f45 (hL 4 (by decide)) (hL 5 (by decide))
    obtain ⟨gp, rfl, ep1, ep2, ep3, ep4⟩ := f4 (hL 4 (by decide))
    obtain ⟨gr, rfl, er1, er2, er3, er4⟩ := f5 (hL 5 (by decide))
    rw [if_pos (hL 6 (by decide))] at ep4
    rw [if_pos (hL 7 (by decide))] at er4
    clear HB B_gb B_gz f0 f1 f2 f3 f4 f5 f45 f64 f75 CP CR hL L
    have HB := Aside0.mk hB
    have B_gb := Aside0.mk hgb
    have B_gz := Aside0.mk hgz
    have B_gp := Aside0.mk ep4
    have B_gr := Aside0.mk er4
    have GE_gp := Aside0.mk ep1
    have GE_gr := Aside0.mk er1
    have NE_gb_gp := Aside0.mk (show gb ≠ gp from Ne.symm ep2)
    have NE_gz_gp := Aside0.mk (show gz ≠ gp from Ne.symm ep3)
    have NE_gb_gr := Aside0.mk (show gb ≠ gr from Ne.symm er2)
    have NE_gz_gr := Aside0.mk (show gz ≠ gr from Ne.symm er3)
    have NE_gp_gr := Aside0.mk (show gp ≠ gr from fun e => hne (by rw [e]))
    clear hB hgb hgz ep1 ep2 ep3 ep4 er1 er2 er3 er4 hne
    have x_gb_0 : W.cell? ⟨gb, 0, none⟩ = some (.int .i64 a0) := (blk_cell B_gb.out 0).trans rfl
    have x_gb_1 : W.cell? ⟨gb, 1, none⟩ = some (.int .i64 a1) := (blk_cell B_gb.out 1).trans rfl
    have x_gb_2 : W.cell? ⟨gb, 2, none⟩ = some (.slice A l.length c) := (blk_cell B_gb.out 2).trans rfl
    go_upto_region 3 with (first | (go_at_call 78; (with_reducible refine (CC _ HB.out).mono ?_); rintro e W3 ⟨⟨v3, rfl, hs⟩, hb_⟩; clear x_gb_0 x_gb_1 x_gb_2; have n0_ := Aside0.mk (below_step (by repeat (first | (with_reducible first | exact HB.out | apply below_alloc | apply pw_below_drewN | apply below_drew1) | exact HB.out)) hb_); have n_gb := Aside0.mk (blk_below (by (with_reducible repeat (first | refine blk_drewN ?_ _ | refine blk_drew ?_ | refine blk_alloc ?_ _)); exact B_gb.out) hb_); have n_gz := Aside0.mk (blk_below (by (with_reducible repeat (first | refine blk_drewN ?_ _ | refine blk_drew ?_ | refine blk_alloc ?_ _)); exact B_gz.out) hb_); have n_gp := Aside0.mk (blk_below (by (with_reducible repeat (first | refine blk_drewN ?_ _ | refine blk_drew ?_ | refine blk_alloc ?_ _)); exact B_gp.out) hb_); have n_gr := Aside0.mk (blk_below (by (with_reducible repeat (first | refine blk_drewN ?_ _ | refine blk_drew ?_ | refine blk_alloc ?_ _)); exact B_gr.out) hb_); clear HB B_gb B_gz B_gp B_gr; have HB := n0_; have B_gb := n_gb; have B_gz := n_gz; have B_gp := n_gp; have B_gr := n_gr; clear n0_ n_gb n_gz n_gp n_gr; clear hb_; obtain ⟨A1, c1, rfl⟩ := Kd.S_slice hs; have HS := Aside0.mk hs; clear hs CC) | ((with_reducible refine gate_dst (N := 5) rfl ?_); refine box_event ?hg (N := 5) ?hd (cs := #[.int .i64 0, .int .i64 0, .slice none 0 0]) (t := 30) ?hr ?_; (case hd => rfl); (case hg => rfl); (case hr => first | (go_simp; done) | (go_simp; rfl)); intro go hg_ w5 hbox_ hb_; have GE_go := Aside0.mk (show w.heap.size ≤ go by rw [hg_]; exact below_size (by repeat (first | (with_reducible first | exact HB.out | apply below_alloc | apply pw_below_drewN | apply below_drew1) | exact HB.out))); have NE_gb_go := Aside0.mk (show gb ≠ go by rw [hg_]; exact Nat.ne_of_lt (blk_lt (by (with_reducible repeat (first | refine blk_drewN ?_ _ | refine blk_drew ?_ | refine blk_alloc ?_ _)); exact B_gb.out))); have NE_gz_go := Aside0.mk (show gz ≠ go by rw [hg_]; exact Nat.ne_of_lt (blk_lt (by (with_reducible repeat (first | refine blk_drewN ?_ _ | refine blk_drew ?_ | refine blk_alloc ?_ _)); exact B_gz.out))); have NE_gp_go := Aside0.mk (show gp ≠ go by rw [hg_]; exact Nat.ne_of_lt (blk_lt (by (with_reducible repeat (first | refine blk_drewN ?_ _ | refine blk_drew ?_ | refine blk_alloc ?_ _)); exact B_gp.out))); have NE_gr_go := Aside0.mk (show gr ≠ go by rw [hg_]; exact Nat.ne_of_lt (blk_lt (by (with_reducible repeat (first | refine blk_drewN ?_ _ | refine blk_drew ?_ | refine blk_alloc ?_ _)); exact B_gr.out))); have n0_ := Aside0.mk (below_step (by repeat (first | (with_reducible first | exact HB.out | apply below_alloc | apply pw_below_drewN | apply below_drew1) | exact HB.out)) hb_); have n_gb := Aside0.mk (blk_below (by (with_reducible repeat (first | refine blk_drewN ?_ _ | refine blk_drew ?_ | refine blk_alloc ?_ _)); exact B_gb.out) hb_); have n_gz := Aside0.mk (blk_below (by (with_reducible repeat (first | refine blk_drewN ?_ _ | refine blk_drew ?_ | refine blk_alloc ?_ _)); exact B_gz.out) hb_); have n_gp := Aside0.mk (blk_below (by (with_reducible repeat (first | refine blk_drewN ?_ _ | refine blk_drew ?_ | refine blk_alloc ?_ _)); exact B_gp.out) hb_); have n_gr := Aside0.mk (blk_below (by (with_reducible repeat (first | refine blk_drewN ?_ _ | refine blk_drew ?_ | refine blk_alloc ?_ _)); exact B_gr.out) hb_); have nx_HS := Aside0.mk (Kd.S_below HS.out hb_); clear HB B_gb B_gz B_gp B_gr HS; have HB := n0_; have B_gb := n_gb; have B_gz := n_gz; have B_gp := n_gp; have B_gr := n_gr; have HS := nx_HS; clear n0_ n_gb n_gz n_gp n_gr nx_HS; have B_go := Aside0.mk hbox_; clear hb_ hbox_ hg_; have x_go_0 : w5.cell? ⟨go, 0, none⟩ = some (.int .i64 0) := (blk_cell B_go.out 0).trans rfl; have f_go_0 := blk_frozen B_go.out 0; have x_go_1 : w5.cell? ⟨go, 1, none⟩ = some (.int .i64 0) := (blk_cell B_go.out 1).trans rfl; have f_go_1 := blk_frozen B_go.out 1; have x_go_2 : w5.cell? ⟨go, 2, none⟩ = some (.slice none 0 0) := (blk_cell B_go.out 2).trans rfl; have f_go_2 := blk_frozen B_go.out 2))
    obtain ⟨w6, hw_⟩ : ∃ w_ : World, w_ = (((w5.setCell ⟨go, 0, none⟩ (.int .i64 a0)).setCell ⟨go, 1, none⟩ (.int .i64 a1)).setCell ⟨go, 2, none⟩ (.slice A1 l.length c1)) := ⟨_, rfl⟩
    rw [← hw_]
    clear x_go_0 f_go_0 x_go_1 f_go_1 x_go_2 f_go_2
    have m0_ := Aside0.mk (show Below w.heap.size w w6 by rw [hw_]; exact (below_set (below_set (below_set HB.out GE_go.out) GE_go.out) GE_go.out))
    have m_gb := Aside0.mk (show w6.heap[gb]? = some (.cells #[.int .i64 a0, .int .i64 a1, .slice A l.length c] 30 (0, 0)) by rw [hw_]; exact (blk_far (blk_far (blk_far B_gb.out NE_gb_go.out _) NE_gb_go.out _) NE_gb_go.out _))
    have m_gz := Aside0.mk (show w6.heap[gz]? = some (.cells #[.int .i64 0, .int .i64 0, .slice none 0 0] 30 (0, 0)) by rw [hw_]; exact (blk_far (blk_far (blk_far B_gz.out NE_gz_go.out _) NE_gz_go.out _) NE_gz_go.out _))
    have m_gp := Aside0.mk (show w6.heap[gp]? = some (.cells #[.bool p0, .bool p1, .bool p2, .bool p3, .bool p4, .bool p5] 54 (0, 0)) by rw [hw_]; exact (blk_far (blk_far (blk_far B_gp.out NE_gp_go.out _) NE_gp_go.out _) NE_gp_go.out _))
    have m_gr := Aside0.mk (show w6.heap[gr]? = some (.cells #[.bool q0, .bool q1, .bool q2, .bool q3, .bool q4, .bool q5] 54 (0, 0)) by rw [hw_]; exact (blk_far (blk_far (blk_far B_gr.out NE_gr_go.out _) NE_gr_go.out _) NE_gr_go.out _))
    have m_go := Aside0.mk (show w6.heap[go]? = some (.cells #[.int .i64 a0, .int .i64 a1, .slice A1 l.length c1] 30 (0, 0)) by rw [hw_]; exact (blk_put (cs := #[.int .i64 a0, .int .i64 a1, .slice none 0 0]) (blk_put (cs := #[.int .i64 a0, .int .i64 0, .slice none 0 0]) (blk_put (cs := #[.int .i64 0, .int .i64 0, .slice none 0 0]) B_go.out 0 _ rfl) 1 _ rfl) 2 _ rfl))
    have mx_HS := Aside0.mk (S_put (W' := w6) HS.out B_go.out (by decide) (fun k hk => by rw [hw_]; exact (Below.heap_setCell _ ⟨go, 2, none⟩ _ k hk).trans ((Below.heap_setCell _ ⟨go, 1, none⟩ _ k hk).trans (Below.heap_setCell _ ⟨go, 0, none⟩ _ k hk))))
    clear HB hw_ B_gb B_gz B_gp B_gr B_go HS
    have HB := m0_
    have B_gb := m_gb
    have B_gz := m_gz
    have B_gp := m_gp
    have B_gr := m_gr
    have B_go := m_go
    have HS := mx_HS
    clear m0_ m_gb m_gz m_gp m_gr m_go mx_HS
    have x_go_0 : w6.cell? ⟨go, 0, none⟩ = some (.int .i64 a0) := (blk_cell B_go.out 0).trans rfl
    have f_go_0 := blk_frozen B_go.out 0
    have x_go_1 : w6.cell? ⟨go, 1, none⟩ = some (.int .i64 a1) := (blk_cell B_go.out 1).trans rfl
    have f_go_1 := blk_frozen B_go.out 1
    have x_go_2 : w6.cell? ⟨go, 2, none⟩ = some (.slice A1 l.length c1) := (blk_cell B_go.out 2).trans rfl
    have f_go_2 := blk_frozen B_go.out 2
    obtain ⟨rw_, hrw⟩ : ∃ r_, r_ = (Value.slice A1 l.length c1).ownBlock := ⟨_, rfl⟩
    have RN_gb := Aside0.mk (show some gb ≠ rw_ by rw [hrw]; exact Kd.S_ne HS.out B_gb.out (by decide))
    have RN_gz := Aside0.mk (show some gz ≠ rw_ by rw [hrw]; exact Kd.S_ne HS.out B_gz.out (by decide))
    have RN_gp := Aside0.mk (show some gp ≠ rw_ by rw [hrw]; exact Kd.S_ne HS.out B_gp.out (by decide))
    have RN_gr := Aside0.mk (show some gr ≠ rw_ by rw [hrw]; exact Kd.S_ne HS.out B_gr.out (by decide))
    have RN_go := Aside0.mk (show some go ≠ rw_ by rw [hrw]; exact Kd.S_ne HS.out B_go.out (by decide))
    have RB := Aside0.mk (show ∀ k, rw_ = some k → w.heap.size ≤ k by rw [hrw]; exact Kd.S_base HS.out)
    have eg1 : ∀ args w, (callFunc 80 args).run Try.prog w = .ok (.enter 80 args) w := enters_of Try.func80 (by kernel_rfl) rfl
    have DL := delete_calls 80 #[.pointer (some ⟨gr, 0, none⟩), .pointer (some ⟨gp, 0, none⟩)] eg1 (useF1 [p0, p1, p2, p3, p4, p5] [q0, q1, q2, q3, q4, q5]) A1 c1 l.length l w6 w.heap.size (fun _ => True) HS.out (fun x => okR6 x) HOK.out (by rw [← hrw]; exact pred_u1 p0 p1 p2 p3 p4 p5 q0 q1 q2 q3 q4 q5 gp gr _ _ B_gp.out B_gr.out RN_gp.out RN_gr.out)
    rw [← hrw] at DL
    clear hrw eg1
    go_upto_region 4 with (first | (go_at_call 79; (with_reducible refine DL.mono ?_); rintro e w7 ⟨⟨v_, rfl, hs⟩, hg_⟩; clear DL; clear x_go_0 f_go_0 x_go_1 f_go_1 x_go_2 f_go_2; have n0_ := Aside0.mk (below_grown HB.out hg_ RB.out); have n_gb := Aside0.mk (blk_grown B_gb.out hg_ RN_gb.out); have n_gz := Aside0.mk (blk_grown B_gz.out hg_ RN_gz.out); have n_gp := Aside0.mk (blk_grown B_gp.out hg_ RN_gp.out); have n_gr := Aside0.mk (blk_grown B_gr.out hg_ RN_gr.out); have n_go := Aside0.mk (blk_grown B_go.out hg_ RN_go.out); clear HB HS RB B_gb RN_gb B_gz RN_gz B_gp RN_gp B_gr RN_gr B_go RN_go; have HB := n0_; have B_gb := n_gb; have B_gz := n_gz; have B_gp := n_gp; have B_gr := n_gr; have B_go := n_go; clear n0_ hg_ n_gb n_gz n_gp n_gr n_go; obtain ⟨A2, c2, rfl⟩ := Kd.S_slice hs; have HS := Aside0.mk hs; clear hs; rw [← EA.out] at HS ⊢; have HOK2 := Aside0.mk (show ∀ j : Nat, j < (useA l).length → okR6 (rd_T47 (useA l) j) by rw [EA.out]; exact filter_ok HOK.out); have EU := Aside0.mk (show usefulF l = (useA l).filter fun x => !useF2 (reachF (useA l)) x from rfl); clear EA HOK; generalize useA l = m at HS HOK2 EU ⊢; have x_go_0 : w7.cell? ⟨go, 0, none⟩ = some (.int .i64 a0) := (blk_cell B_go.out 0).trans rfl; have f_go_0 := blk_frozen B_go.out 0; have x_go_1 : w7.cell? ⟨go, 1, none⟩ = some (.int .i64 a1) := (blk_cell B_go.out 1).trans rfl; have f_go_1 := blk_frozen B_go.out 1; have x_go_2 : w7.cell? ⟨go, 2, none⟩ = some (.slice A1 l.length c1) := (blk_cell B_go.out 2).trans rfl; have f_go_2 := blk_frozen B_go.out 2))
    obtain ⟨w8, hw_⟩ : ∃ w_ : World, w_ = (w7.setCell ⟨go, 2, none⟩ (.slice A2 m.length c2)) := ⟨_, rfl⟩
    rw [← hw_]
    clear x_go_0 f_go_0 x_go_1 f_go_1 x_go_2 f_go_2
    have m0_ := Aside0.mk (show Below w.heap.size w w8 by rw [hw_]; exact (below_set HB.out GE_go.out))
    have m_gb := Aside0.mk (show w8.heap[gb]? = some (.cells #[.int .i64 a0, .int .i64 a1, .slice A l.length c] 30 (0, 0)) by rw [hw_]; exact (blk_far B_gb.out NE_gb_go.out _))
    have m_gz := Aside0.mk (show w8.heap[gz]? = some (.cells #[.int .i64 0, .int .i64 0, .slice none 0 0] 30 (0, 0)) by rw [hw_]; exact (blk_far B_gz.out NE_gz_go.out _))
    have m_gp := Aside0.mk (show w8.heap[gp]? = some (.cells #[.bool p0, .bool p1, .bool p2, .bool p3, .bool p4, .bool p5] 54 (0, 0)) by rw [hw_]; exact (blk_far B_gp.out NE_gp_go.out _))
    have m_gr := Aside0.mk (show w8.heap[gr]? = some (.cells #[.bool q0, .bool q1, .bool q2, .bool q3, .bool q4, .bool q5] 54 (0, 0)) by rw [hw_]; exact (blk_far B_gr.out NE_gr_go.out _))
    have m_go := Aside0.mk (show w8.heap[go]? = some (.cells #[.int .i64 a0, .int .i64 a1, .slice A2 m.length c2] 30 (0, 0)) by rw [hw_]; exact (blk_put (cs := #[.int .i64 a0, .int .i64 a1, .slice A1 l.length c1]) B_go.out 2 _ rfl))
    have mx_HS := Aside0.mk (S_put (W' := w8) HS.out B_go.out (by decide) (fun k hk => by rw [hw_]; exact Below.heap_setCell _ ⟨go, 2, none⟩ _ k hk))
    clear HB hw_ B_gb B_gz B_gp B_gr B_go HS
    have HB := m0_
    have B_gb := m_gb
    have B_gz := m_gz
    have B_gp := m_gp
    have B_gr := m_gr
    have B_go := m_go
    have HS := mx_HS
    clear m0_ m_gb m_gz m_gp m_gr m_go mx_HS
    have x_go_0 : w8.cell? ⟨go, 0, none⟩ = some (.int .i64 a0) := (blk_cell B_go.out 0).trans rfl
    have x_go_1 : w8.cell? ⟨go, 1, none⟩ = some (.int .i64 a1) := (blk_cell B_go.out 1).trans rfl
    have x_go_2 : w8.cell? ⟨go, 2, none⟩ = some (.slice A2 m.length c2) := (blk_cell B_go.out 2).trans rfl
    obtain ⟨_, hcm, hCm⟩ := Kd.S_reads' HS.out
    obtain ⟨t0, t1, t2, t3, t4, t5, htE⟩ := six (reachF m) (reachF_len _)
    have CR := reached_calls a0 a1 A2 c2 m w8 hCm hcm HOK2.out
    rw [htE] at CR EU
    clear hcm hCm htE
    go_upto_region 5 with (first | (go_at_call 43; (with_reducible refine (CR).mono ?_); rintro e w9 ⟨⟨y0, y1, y2, y3, y4, y5, rfl, hy⟩, hb_⟩; clear x_go_0 x_go_1 x_go_2; have n0_ := Aside0.mk (below_step (by repeat (first | (with_reducible first | exact HB.out | apply below_alloc | apply pw_below_drewN | apply below_drew1) | exact HB.out)) hb_); have n_gb := Aside0.mk (blk_below (by (with_reducible repeat (first | refine blk_drewN ?_ _ | refine blk_drew ?_ | refine blk_alloc ?_ _)); exact B_gb.out) hb_); have n_gz := Aside0.mk (blk_below (by (with_reducible repeat (first | refine blk_drewN ?_ _ | refine blk_drew ?_ | refine blk_alloc ?_ _)); exact B_gz.out) hb_); have n_gp := Aside0.mk (blk_below (by (with_reducible repeat (first | refine blk_drewN ?_ _ | refine blk_drew ?_ | refine blk_alloc ?_ _)); exact B_gp.out) hb_); have n_gr := Aside0.mk (blk_below (by (with_reducible repeat (first | refine blk_drewN ?_ _ | refine blk_drew ?_ | refine blk_alloc ?_ _)); exact B_gr.out) hb_); have n_go := Aside0.mk (blk_below (by (with_reducible repeat (first | refine blk_drewN ?_ _ | refine blk_drew ?_ | refine blk_alloc ?_ _)); exact B_go.out) hb_); have nx_HS := Aside0.mk (Kd.S_below HS.out hb_); clear HB B_gb B_gz B_gp B_gr B_go HS; have HB := n0_; have B_gb := n_gb; have B_gz := n_gz; have B_gp := n_gp; have B_gr := n_gr; have B_go := n_go; have HS := nx_HS; clear n0_ n_gb n_gz n_gp n_gr n_go nx_HS; clear hb_; have x_gr_0 : w9.cell? ⟨gr, 0, none⟩ = some (.bool q0) := (blk_cell B_gr.out 0).trans rfl; have f_gr_0 := blk_frozen B_gr.out 0; have x_gr_1 : w9.cell? ⟨gr, 1, none⟩ = some (.bool q1) := (blk_cell B_gr.out 1).trans rfl; have f_gr_1 := blk_frozen B_gr.out 1; have x_gr_2 : w9.cell? ⟨gr, 2, none⟩ = some (.bool q2) := (blk_cell B_gr.out 2).trans rfl; have f_gr_2 := blk_frozen B_gr.out 2; have x_gr_3 : w9.cell? ⟨gr, 3, none⟩ = some (.bool q3) := (blk_cell B_gr.out 3).trans rfl; have f_gr_3 := blk_frozen B_gr.out 3; have x_gr_4 : w9.cell? ⟨gr, 4, none⟩ = some (.bool q4) := (blk_cell B_gr.out 4).trans rfl; have f_gr_4 := blk_frozen B_gr.out 4; have x_gr_5 : w9.cell? ⟨gr, 5, none⟩ = some (.bool q5) := (blk_cell B_gr.out 5).trans rfl; have f_gr_5 := blk_frozen B_gr.out 5; have x_go_0 : w9.cell? ⟨go, 0, none⟩ = some (.int .i64 a0) := (blk_cell B_go.out 0).trans rfl; have x_go_1 : w9.cell? ⟨go, 1, none⟩ = some (.int .i64 a1) := (blk_cell B_go.out 1).trans rfl; have x_go_2 : w9.cell? ⟨go, 2, none⟩ = some (.slice A2 m.length c2) := (blk_cell B_go.out 2).trans rfl; simp only [List.cons.injEq, and_true] at hy; obtain ⟨rfl, rfl, rfl, rfl, rfl, rfl⟩ := hy; clear CR))
    obtain ⟨w10, hw_⟩ : ∃ w_ : World, w_ = ((((((w9.setCell ⟨gr, 0, none⟩ (.bool t0)).setCell ⟨gr, 1, none⟩ (.bool t1)).setCell ⟨gr, 2, none⟩ (.bool t2)).setCell ⟨gr, 3, none⟩ (.bool t3)).setCell ⟨gr, 4, none⟩ (.bool t4)).setCell ⟨gr, 5, none⟩ (.bool t5)) := ⟨_, rfl⟩
    rw [← hw_]
    clear x_gr_0 f_gr_0 x_gr_1 f_gr_1 x_gr_2 f_gr_2 x_gr_3 f_gr_3 x_gr_4 f_gr_4 x_gr_5 f_gr_5 x_go_0 x_go_1 x_go_2
    have m0_ := Aside0.mk (show Below w.heap.size w w10 by rw [hw_]; exact (below_set (below_set (below_set (below_set (below_set (below_set HB.out GE_gr.out) GE_gr.out) GE_gr.out) GE_gr.out) GE_gr.out) GE_gr.out))
    have m_gb := Aside0.mk (show w10.heap[gb]? = some (.cells #[.int .i64 a0, .int .i64 a1, .slice A l.length c] 30 (0, 0)) by rw [hw_]; exact (blk_far (blk_far (blk_far (blk_far (blk_far (blk_far B_gb.out NE_gb_gr.out _) NE_gb_gr.out _) NE_gb_gr.out _) NE_gb_gr.out _) NE_gb_gr.out _) NE_gb_gr.out _))
    have m_gz := Aside0.mk (show w10.heap[gz]? = some (.cells #[.int .i64 0, .int .i64 0, .slice none 0 0] 30 (0, 0)) by rw [hw_]; exact (blk_far (blk_far (blk_far (blk_far (blk_far (blk_far B_gz.out NE_gz_gr.out _) NE_gz_gr.out _) NE_gz_gr.out _) NE_gz_gr.out _) NE_gz_gr.out _) NE_gz_gr.out _))
    have m_gp := Aside0.mk (show w10.heap[gp]? = some (.cells #[.bool p0, .bool p1, .bool p2, .bool p3, .bool p4, .bool p5] 54 (0, 0)) by rw [hw_]; exact (blk_far (blk_far (blk_far (blk_far (blk_far (blk_far B_gp.out NE_gp_gr.out _) NE_gp_gr.out _) NE_gp_gr.out _) NE_gp_gr.out _) NE_gp_gr.out _) NE_gp_gr.out _))
    have m_gr := Aside0.mk (show w10.heap[gr]? = some (.cells #[.bool t0, .bool t1, .bool t2, .bool t3, .bool t4, .bool t5] 54 (0, 0)) by rw [hw_]; exact (blk_put (cs := #[.bool t0, .bool t1, .bool t2, .bool t3, .bool t4, .bool q5]) (blk_put (cs := #[.bool t0, .bool t1, .bool t2, .bool t3, .bool q4, .bool q5]) (blk_put (cs := #[.bool t0, .bool t1, .bool t2, .bool q3, .bool q4, .bool q5]) (blk_put (cs := #[.bool t0, .bool t1, .bool q2, .bool q3, .bool q4, .bool q5]) (blk_put (cs := #[.bool t0, .bool q1, .bool q2, .bool q3, .bool q4, .bool q5]) (blk_put (cs := #[.bool q0, .bool q1, .bool q2, .bool q3, .bool q4, .bool q5]) B_gr.out 0 _ rfl) 1 _ rfl) 2 _ rfl) 3 _ rfl) 4 _ rfl) 5 _ rfl))
    have m_go := Aside0.mk (show w10.heap[go]? = some (.cells #[.int .i64 a0, .int .i64 a1, .slice A2 m.length c2] 30 (0, 0)) by rw [hw_]; exact (blk_far (blk_far (blk_far (blk_far (blk_far (blk_far B_go.out (Ne.symm NE_gr_go.out) _) (Ne.symm NE_gr_go.out) _) (Ne.symm NE_gr_go.out) _) (Ne.symm NE_gr_go.out) _) (Ne.symm NE_gr_go.out) _) (Ne.symm NE_gr_go.out) _))
    have mx_HS := Aside0.mk (S_put (W' := w10) HS.out B_gr.out (by decide) (fun k hk => by rw [hw_]; exact (Below.heap_setCell _ ⟨gr, 5, none⟩ _ k hk).trans ((Below.heap_setCell _ ⟨gr, 4, none⟩ _ k hk).trans ((Below.heap_setCell _ ⟨gr, 3, none⟩ _ k hk).trans ((Below.heap_setCell _ ⟨gr, 2, none⟩ _ k hk).trans ((Below.heap_setCell _ ⟨gr, 1, none⟩ _ k hk).trans (Below.heap_setCell _ ⟨gr, 0, none⟩ _ k hk)))))))
    clear HB hw_ B_gb B_gz B_gp B_gr B_go HS
    have HB := m0_
    have B_gb := m_gb
    have B_gz := m_gz
    have B_gp := m_gp
    have B_gr := m_gr
    have B_go := m_go
    have HS := mx_HS
    clear m0_ m_gb m_gz m_gp m_gr m_go mx_HS
    have x_go_0 : w10.cell? ⟨go, 0, none⟩ = some (.int .i64 a0) := (blk_cell B_go.out 0).trans rfl
    have f_go_0 := blk_frozen B_go.out 0
    have x_go_1 : w10.cell? ⟨go, 1, none⟩ = some (.int .i64 a1) := (blk_cell B_go.out 1).trans rfl
    have f_go_1 := blk_frozen B_go.out 1
    have x_go_2 : w10.cell? ⟨go, 2, none⟩ = some (.slice A2 m.length c2) := (blk_cell B_go.out 2).trans rfl
    have f_go_2 := blk_frozen B_go.out 2
    obtain ⟨rw_, hrw⟩ : ∃ r_, r_ = (Value.slice A2 m.length c2).ownBlock := ⟨_, rfl⟩
    have RN_gb := Aside0.mk (show some gb ≠ rw_ by rw [hrw]; exact Kd.S_ne HS.out B_gb.out (by decide))
    have RN_gz := Aside0.mk (show some gz ≠ rw_ by rw [hrw]; exact Kd.S_ne HS.out B_gz.out (by decide))
    have RN_gp := Aside0.mk (show some gp ≠ rw_ by rw [hrw]; exact Kd.S_ne HS.out B_gp.out (by decide))
    have RN_gr := Aside0.mk (show some gr ≠ rw_ by rw [hrw]; exact Kd.S_ne HS.out B_gr.out (by decide))
    have RN_go := Aside0.mk (show some go ≠ rw_ by rw [hrw]; exact Kd.S_ne HS.out B_go.out (by decide))
    have RB := Aside0.mk (show ∀ k, rw_ = some k → w.heap.size ≤ k by rw [hrw]; exact Kd.S_base HS.out)
    have eg2 : ∀ args w, (callFunc 82 args).run Try.prog w = .ok (.enter 82 args) w := enters_of Try.func82 (by kernel_rfl) rfl
    have DL := delete_calls 82 #[.pointer (some ⟨gr, 0, none⟩)] eg2 (useF2 [t0, t1, t2, t3, t4, t5]) A2 c2 m.length m w10 w.heap.size (fun _ => True) HS.out (fun x => okR6 x) HOK2.out (by rw [← hrw]; exact pred_u2 t0 t1 t2 t3 t4 t5 gr _ _ B_gr.out RN_gr.out)
    rw [← hrw] at DL
    clear hrw eg2
    go_upto_region 6 with (first | (go_at_call 79; (with_reducible refine DL.mono ?_); rintro e w11 ⟨⟨v_, rfl, hs⟩, hg_⟩; clear DL; clear x_go_0 f_go_0 x_go_1 f_go_1 x_go_2 f_go_2; have n0_ := Aside0.mk (below_grown HB.out hg_ RB.out); have n_gb := Aside0.mk (blk_grown B_gb.out hg_ RN_gb.out); have n_gz := Aside0.mk (blk_grown B_gz.out hg_ RN_gz.out); have n_gp := Aside0.mk (blk_grown B_gp.out hg_ RN_gp.out); have n_gr := Aside0.mk (blk_grown B_gr.out hg_ RN_gr.out); have n_go := Aside0.mk (blk_grown B_go.out hg_ RN_go.out); clear HB HS RB B_gb RN_gb B_gz RN_gz B_gp RN_gp B_gr RN_gr B_go RN_go; have HB := n0_; have B_gb := n_gb; have B_gz := n_gz; have B_gp := n_gp; have B_gr := n_gr; have B_go := n_go; clear n0_ hg_ n_gb n_gz n_gp n_gr n_go; obtain ⟨A3, c3, rfl⟩ := Kd.S_slice hs; have HS := Aside0.mk hs; clear hs; rw [← EU.out] at HS ⊢; clear EU HOK2; obtain ⟨u, huE⟩ : ∃ u_, u_ = usefulF l := ⟨_, rfl⟩; rw [← huE] at HS ⊢; have UE := Aside0.mk huE; clear huE; have x_go_0 : w11.cell? ⟨go, 0, none⟩ = some (.int .i64 a0) := (blk_cell B_go.out 0).trans rfl; have f_go_0 := blk_frozen B_go.out 0; have x_go_1 : w11.cell? ⟨go, 1, none⟩ = some (.int .i64 a1) := (blk_cell B_go.out 1).trans rfl; have f_go_1 := blk_frozen B_go.out 1; have x_go_2 : w11.cell? ⟨go, 2, none⟩ = some (.slice A2 m.length c2) := (blk_cell B_go.out 2).trans rfl; have f_go_2 := blk_frozen B_go.out 2))
    obtain ⟨w12, hw_⟩ : ∃ w_ : World, w_ = (w11.setCell ⟨go, 2, none⟩ (.slice A3 u.length c3)) := ⟨_, rfl⟩
    rw [← hw_]
    clear x_go_0 f_go_0 x_go_1 f_go_1 x_go_2 f_go_2
    have m0_ := Aside0.mk (show Below w.heap.size w w12 by rw [hw_]; exact (below_set HB.out GE_go.out))
    have m_gb := Aside0.mk (show w12.heap[gb]? = some (.cells #[.int .i64 a0, .int .i64 a1, .slice A l.length c] 30 (0, 0)) by rw [hw_]; exact (blk_far B_gb.out NE_gb_go.out _))
    have m_gz := Aside0.mk (show w12.heap[gz]? = some (.cells #[.int .i64 0, .int .i64 0, .slice none 0 0] 30 (0, 0)) by rw [hw_]; exact (blk_far B_gz.out NE_gz_go.out _))
    have m_gp := Aside0.mk (show w12.heap[gp]? = some (.cells #[.bool p0, .bool p1, .bool p2, .bool p3, .bool p4, .bool p5] 54 (0, 0)) by rw [hw_]; exact (blk_far B_gp.out NE_gp_go.out _))
    have m_gr := Aside0.mk (show w12.heap[gr]? = some (.cells #[.bool t0, .bool t1, .bool t2, .bool t3, .bool t4, .bool t5] 54 (0, 0)) by rw [hw_]; exact (blk_far B_gr.out NE_gr_go.out _))
    have m_go := Aside0.mk (show w12.heap[go]? = some (.cells #[.int .i64 a0, .int .i64 a1, .slice A3 u.length c3] 30 (0, 0)) by rw [hw_]; exact (blk_put (cs := #[.int .i64 a0, .int .i64 a1, .slice A2 m.length c2]) B_go.out 2 _ rfl))
    have mx_HS := Aside0.mk (S_put (W' := w12) HS.out B_go.out (by decide) (fun k hk => by rw [hw_]; exact Below.heap_setCell _ ⟨go, 2, none⟩ _ k hk))
    clear HB hw_ B_gb B_gz B_gp B_gr B_go HS
    have HB := m0_
    have B_gb := m_gb
    have B_gz := m_gz
    have B_gp := m_gp
    have B_gr := m_gr
    have B_go := m_go
    have HS := mx_HS
    clear m0_ m_gb m_gz m_gp m_gr m_go mx_HS
    have x_gz_0 : w12.cell? ⟨gz, 0, none⟩ = some (.int .i64 0) := (blk_cell B_gz.out 0).trans rfl
    have f_gz_0 := blk_frozen B_gz.out 0
    have x_gz_1 : w12.cell? ⟨gz, 1, none⟩ = some (.int .i64 0) := (blk_cell B_gz.out 1).trans rfl
    have f_gz_1 := blk_frozen B_gz.out 1
    have x_gz_2 : w12.cell? ⟨gz, 2, none⟩ = some (.slice none 0 0) := (blk_cell B_gz.out 2).trans rfl
    have f_gz_2 := blk_frozen B_gz.out 2
    have x_go_0 : w12.cell? ⟨go, 0, none⟩ = some (.int .i64 a0) := (blk_cell B_go.out 0).trans rfl
    have x_go_1 : w12.cell? ⟨go, 1, none⟩ = some (.int .i64 a1) := (blk_cell B_go.out 1).trans rfl
    have x_go_2 : w12.cell? ⟨go, 2, none⟩ = some (.slice A3 u.length c3) := (blk_cell B_go.out 2).trans rfl
    go_wp2
    obtain ⟨w13, hw_⟩ : ∃ w_ : World, w_ = (((w12.setCell ⟨gz, 0, none⟩ (.int .i64 a0)).setCell ⟨gz, 1, none⟩ (.int .i64 a1)).setCell ⟨gz, 2, none⟩ (.slice A3 u.length c3)) := ⟨_, rfl⟩
    rw [← hw_]
    clear x_gz_0 f_gz_0 x_gz_1 f_gz_1 x_gz_2 f_gz_2 x_go_0 x_go_1 x_go_2
    have m0_ := Aside0.mk (show Below w.heap.size w w13 by rw [hw_]; exact (below_set (below_set (below_set HB.out GE_gz.out) GE_gz.out) GE_gz.out))
    have m_gb := Aside0.mk (show w13.heap[gb]? = some (.cells #[.int .i64 a0, .int .i64 a1, .slice A l.length c] 30 (0, 0)) by rw [hw_]; exact (blk_far (blk_far (blk_far B_gb.out NE_gb_gz.out _) NE_gb_gz.out _) NE_gb_gz.out _))
    have m_gz := Aside0.mk (show w13.heap[gz]? = some (.cells #[.int .i64 a0, .int .i64 a1, .slice A3 u.length c3] 30 (0, 0)) by rw [hw_]; exact (blk_put (cs := #[.int .i64 a0, .int .i64 a1, .slice none 0 0]) (blk_put (cs := #[.int .i64 a0, .int .i64 0, .slice none 0 0]) (blk_put (cs := #[.int .i64 0, .int .i64 0, .slice none 0 0]) B_gz.out 0 _ rfl) 1 _ rfl) 2 _ rfl))
    have m_gp := Aside0.mk (show w13.heap[gp]? = some (.cells #[.bool p0, .bool p1, .bool p2, .bool p3, .bool p4, .bool p5] 54 (0, 0)) by rw [hw_]; exact (blk_far (blk_far (blk_far B_gp.out (Ne.symm NE_gz_gp.out) _) (Ne.symm NE_gz_gp.out) _) (Ne.symm NE_gz_gp.out) _))
    have m_gr := Aside0.mk (show w13.heap[gr]? = some (.cells #[.bool t0, .bool t1, .bool t2, .bool t3, .bool t4, .bool t5] 54 (0, 0)) by rw [hw_]; exact (blk_far (blk_far (blk_far B_gr.out (Ne.symm NE_gz_gr.out) _) (Ne.symm NE_gz_gr.out) _) (Ne.symm NE_gz_gr.out) _))
    have m_go := Aside0.mk (show w13.heap[go]? = some (.cells #[.int .i64 a0, .int .i64 a1, .slice A3 u.length c3] 30 (0, 0)) by rw [hw_]; exact (blk_far (blk_far (blk_far B_go.out (Ne.symm NE_gz_go.out) _) (Ne.symm NE_gz_go.out) _) (Ne.symm NE_gz_go.out) _))
    have mx_HS := Aside0.mk (S_put (W' := w13) HS.out B_gz.out (by decide) (fun k hk => by rw [hw_]; exact (Below.heap_setCell _ ⟨gz, 2, none⟩ _ k hk).trans ((Below.heap_setCell _ ⟨gz, 1, none⟩ _ k hk).trans (Below.heap_setCell _ ⟨gz, 0, none⟩ _ k hk))))
    clear HB hw_ B_gb B_gz B_gp B_gr B_go HS
    have HB := m0_
    have B_gb := m_gb
    have B_gz := m_gz
    have B_gp := m_gp
    have B_gr := m_gr
    have B_go := m_go
    have HS := mx_HS
    clear m0_ m_gb m_gz m_gp m_gr m_go mx_HS
    have x_gz_0 : w13.cell? ⟨gz, 0, none⟩ = some (.int .i64 a0) := (blk_cell B_gz.out 0).trans rfl
    have x_gz_1 : w13.cell? ⟨gz, 1, none⟩ = some (.int .i64 a1) := (blk_cell B_gz.out 1).trans rfl
    have x_gz_2 : w13.cell? ⟨gz, 2, none⟩ = some (.slice A3 u.length c3) := (blk_cell B_gz.out 2).trans rfl
    refine bodyPost_ret (v := .agg #[.int .i64 a0, .int .i64 a1, .slice A3 u.length c3]) (by simp [results, Try.results51, go_sem, x_gz_0, x_gz_1, x_gz_2]) rfl ⟨⟨_, rfl, by rw [← UE.out]; exact HS.out⟩, HB.out⟩
end Go.Proofs.Ytohbdjdjjbieeaa.P
namespace Go.Proofs.Ytohbdjdjjbieeaa.P
open Go.RowKit Go.Proofs.YtohbdjdjjbieeaaW.PrintWords Go.Proofs.YtohbdjdjjbieeaaW.PrintLast Go.Proofs.YtohbdjdjjbieeaaW.PrintMore
set_option linter.unusedVariables false
set_option linter.unusedSimpArgs false
theorem goodG_smallI {a0 a1 : Int} {l : List S47} (h : goodG a0 a1 l = true) : smallI l := by
  have hl := goodG_okL h
  exact ⟨by have := hl.1; omega, fun i hi => by have := (hl.2 i hi).2; omega⟩
def impl_IsUseful.f (a0_0 a0_1 : Int) (l0_2 : List S47) : Option (Bool × Bool) := some (if goodG a0_0 a0_1 l0_2 = true then (((usefulF l0_2).length : Int) == (l0_2.length : Int), true) else (false, false))
set_option maxHeartbeats 4000000 in
theorem impl_IsUseful.calls (a0_0 a0_1 : Int) (A0_2 : Option Addr) (c0_2 : Nat) (l0_2 : List S47) (r1 r2 : Bool) (w : World) (hr0_2 : Kd.C k47 w A0_2 l0_2.length l0_2) (hc0_2 : l0_2.length ≤ c0_2) (h : impl_IsUseful.f a0_0 a0_1 l0_2 = some (r1, r2)) :
    Calls Try.prog 29 #[.agg #[.int .i64 a0_0, .int .i64 a0_1, .slice A0_2 l0_2.length c0_2]] w fun e w' => e = .returned (.tuple #[.bool r1, .bool r2]) ∧ Below w.heap.size w w' := by
  have hu := Try.underlying30
  have CI := fun (W : World) (hW : Below w.heap.size w W) => impl_isGrammar.calls a0_0 a0_1 A0_2 c0_2 l0_2 (goodG a0_0 a0_1 l0_2) W (Kd.C_below hr0_2 hW) hc0_2 rfl
  have HB := Aside0.mk (Below.refl w.heap.size w)
  have tok1 : True := trivial
  cases hg : goodG a0_0 a0_1 l0_2 with
  | true =>
    rw [hg] at CI
    have CN : ∀ (W : World) (hW : Below w.heap.size w W), Calls Try.prog 51 #[.agg #[.int .i64 a0_0, .int .i64 a0_1, .slice A0_2 l0_2.length c0_2]] W fun e w' => (∃ A3 c3, e = .returned (.agg #[.int .i64 a0_0, .int .i64 a0_1, .slice A3 (usefulF l0_2).length c3]) ∧ Kd.S k47 47 w' W.heap.size (fun _ => True) (.slice A3 (usefulF l0_2).length c3) (usefulF l0_2)) ∧ Below W.heap.size W w' := fun W hW =>
      (useful_calls a0_0 a0_1 A0_2 c0_2 l0_2 W (Kd.C_below hr0_2 hW) hc0_2 (goodG_smallI hg) (fun j hj => goodG_okR6 hg j hj)).mono fun e w' ⟨⟨v, he, hs⟩, hb⟩ => by obtain ⟨A3, c3, rfl⟩ := Kd.S_slice hs; exact ⟨⟨A3, c3, he, hs⟩, hb⟩
    have hf : (((usefulF l0_2).length : Int) == (l0_2.length : Int), true) = (r1, r2) := by unfold impl_IsUseful.f at h; rw [hg, if_pos rfl] at h; exact Option.some.inj h
    obtain ⟨e1, e2⟩ := Prod.mk.inj hf
    have E1 := Aside0.mk e1
    subst e2
    have hml : l0_2.length ≤ 9223372036854775807 := hr0_2.2.1
    have hfld : ∀ a b v : Value, ∀ w : World, (Instr.field 30 (.agg #[a, b, v]) 2).run Try.prog w = .ok v w := fun a b v w => by simp [Instr.field, part, isAgg, run_underlying hu, run_underlying Try.underlying28, asAgg]
    clear h hf hr0_2 e1
    generalize usefulF l0_2 = u at CN E1
    go_enter Try.func29, Try.ntmps29
    go_wp2_with (first | ((with_reducible refine gate_dst (N := 1) rfl ?_); refine box_event ?hg (N := 1) ?hd (cs := #[.int .i64 a0_0, .int .i64 a0_1, .slice A0_2 l0_2.length c0_2]) (t := 30) ?hr ?_; (case hd => rfl); (case hg => rfl); (case hr => first | (go_simp; done) | (go_simp; rfl)); intro gb hg_ w1 hbox_ hb_; have GE_gb := Aside0.mk (show w.heap.size ≤ gb by rw [hg_]; exact below_size (by repeat (first | (with_reducible first | exact HB.out | apply below_alloc | apply pw_below_drewN | apply below_drew1) | exact HB.out))); have n0_ := Aside0.mk (below_step (by repeat (first | (with_reducible first | exact HB.out | apply below_alloc | apply pw_below_drewN | apply below_drew1) | exact HB.out)) hb_); clear HB; have HB := n0_; clear n0_; have B_gb := Aside0.mk hbox_; clear hb_ hbox_ hg_; have x_gb_0 : w1.cell? ⟨gb, 0, none⟩ = some (.int .i64 a0_0) := (blk_cell B_gb.out 0).trans rfl; have x_gb_1 : w1.cell? ⟨gb, 1, none⟩ = some (.int .i64 a0_1) := (blk_cell B_gb.out 1).trans rfl; have x_gb_2 : w1.cell? ⟨gb, 2, none⟩ = some (.slice A0_2 l0_2.length c0_2) := (blk_cell B_gb.out 2).trans rfl) | (have _t := tok1; go_at_call 38; (with_reducible refine (CI _ HB.out).mono ?_); rintro e w2 ⟨rfl, hb_⟩; clear x_gb_0 x_gb_1 x_gb_2; have n0_ := Aside0.mk (below_step (by repeat (first | (with_reducible first | exact HB.out | apply below_alloc | apply pw_below_drewN | apply below_drew1) | exact HB.out)) hb_); have n_gb := Aside0.mk (blk_below (by (with_reducible repeat (first | refine blk_drewN ?_ _ | refine blk_drew ?_ | refine blk_alloc ?_ _)); exact B_gb.out) hb_); clear HB B_gb; have HB := n0_; have B_gb := n_gb; clear n0_ n_gb; clear hb_; have x_gb_0 : w2.cell? ⟨gb, 0, none⟩ = some (.int .i64 a0_0) := (blk_cell B_gb.out 0).trans rfl; have x_gb_1 : w2.cell? ⟨gb, 1, none⟩ = some (.int .i64 a0_1) := (blk_cell B_gb.out 1).trans rfl; have x_gb_2 : w2.cell? ⟨gb, 2, none⟩ = some (.slice A0_2 l0_2.length c0_2) := (blk_cell B_gb.out 2).trans rfl; clear CI tok1))
    refine region_inv (by kernel_rfl) (back_of (by kernel_rfl)) (fun L a W => ∃ s2 s3 s7 s8 s9 s10 s11 s12 s13 s14 : Value, a = (⟨#[.agg #[.int .i64 a0_0, .int .i64 a0_1, .slice A0_2 l0_2.length c0_2], .pointer (some ⟨gb, 0, none⟩), s2, s3, .agg #[.int .i64 a0_0, .int .i64 a0_1, .slice A0_2 l0_2.length c0_2], .bool true, .bool false, s7, s8, s9, s10, s11, s12, s13, s14], []⟩ : Act) ∧ Below w.heap.size w W ∧ W.heap[gb]? = some (.cells #[.int .i64 a0_0, .int .i64 a0_1, .slice A0_2 l0_2.length c0_2] 30 (0, 0)) ∧ (L 0 = true → s7 = .agg #[.int .i64 a0_0, .int .i64 a0_1, .slice A0_2 l0_2.length c0_2]) ∧ (L 1 = true → ∃ A3 c3, s8 = .agg #[.int .i64 a0_0, .int .i64 a0_1, .slice A3 u.length c3]) ∧ (L 2 = true → ∃ A3 c3, s9 = .slice A3 u.length c3) ∧ (L 3 = true → s10 = .int .i64 (u.length : Int)) ∧ (L 4 = true → s11 = .pointer (some ⟨gb, 2, none⟩)) ∧ (L 5 = true → s12 = .slice A0_2 l0_2.length c0_2) ∧ (L 6 = true → s13 = .int .i64 (l0_2.length : Int)) ∧ (L 7 = true → s14 = .bool ((u.length : Int) == (l0_2.length : Int))) ∧ (L 8 = true → s2 = .bool ((u.length : Int) == (l0_2.length : Int))) ∧ (L 9 = true → s3 = .bool true)) ?h0 ?hstep ?hend
    case h0 => exact ⟨_, _, _, _, _, _, _, _, _, _, rfl, HB.out.drew, (blk_drew B_gb.out), by simp, by simp, by simp, by simp, by simp, by simp, by simp, by simp, by simp, by simp⟩
    case hstep =>
      intro L a W i o hI hLi ho hd
      obtain ⟨s2, s3, s7, s8, s9, s10, s11, s12, s13, s14, rfl, hB, hgb, f0, f1, f2, f3, f4, f5, f6, f7, f8, f9⟩ := hI
      rcases i with _ | _ | _ | _ | _ | _ | _ | _ | _ | _ | i
      · simp at ho
        subst ho
        simp [Region.binds] at hd
        have x0 : W.cell? ⟨gb, 0, none⟩ = some (.int .i64 a0_0) := (blk_cell hgb 0).trans rfl
        have x1 : W.cell? ⟨gb, 1, none⟩ = some (.int .i64 a0_1) := (blk_cell hgb 1).trans rfl
        have x2 : W.cell? ⟨gb, 2, none⟩ = some (.slice A0_2 l0_2.length c0_2) := (blk_cell hgb 2).trans rfl
        refine value_ (N := some 7) (v := .agg #[.int .i64 a0_0, .int .i64 a0_1, .slice A0_2 l0_2.length c0_2]) (w1 := W) rfl rfl (by first | (go_simp; done) | (go_simp; rfl)) ?_
        exact ⟨s2, s3, .agg #[.int .i64 a0_0, .int .i64 a0_1, .slice A0_2 l0_2.length c0_2], s8, s9, s10, s11, s12, s13, s14, rfl, hB, hgb, fun _ => rfl, fun h => f1 (by simpa using h), fun h => f2 (by simpa using h), fun h => f3 (by simpa using h), fun h => f4 (by simpa using h), fun h => f5 (by simpa using h), fun h => f6 (by simpa using h), fun h => f7 (by simpa using h), fun h => f8 (by simpa using h), fun h => f9 (by simpa using h)⟩
      · simp at ho
        subst ho
        simp [Region.binds] at hd
        obtain rfl := f0 (by simpa using hd)
        refine goes_ Try.func51 (by kernel_rfl) rfl #[.agg #[.int .i64 a0_0, .int .i64 a0_1, .slice A0_2 l0_2.length c0_2]] rfl rfl rfl (by simp [Act.eval]) ?_
        refine (CN W hB).mono ?_
        rintro e W2 ⟨⟨A3, c3, rfl, _⟩, hb⟩
        refine ⟨_, rfl, ?_⟩
        exact ⟨s2, s3, .agg #[.int .i64 a0_0, .int .i64 a0_1, .slice A0_2 l0_2.length c0_2], _, s9, s10, s11, s12, s13, s14, rfl, (below_step hB hb), (blk_below hgb hb), fun h => f0 (by simpa using h), fun _ => ⟨A3, c3, rfl⟩, fun h => f2 (by simpa using h), fun h => f3 (by simpa using h), fun h => f4 (by simpa using h), fun h => f5 (by simpa using h), fun h => f6 (by simpa using h), fun h => f7 (by simpa using h), fun h => f8 (by simpa using h), fun h => f9 (by simpa using h)⟩
      · simp at ho
        subst ho
        simp [Region.binds] at hd
        obtain ⟨A3, c3, rfl⟩ := f1 (by simp_all)
        refine value_ (N := some 9) (v := .slice A3 u.length c3) (w1 := W) rfl rfl (by first | (go_simp; done) | (go_simp; rfl)) ?_
        exact ⟨s2, s3, s7, _, _, s10, s11, s12, s13, s14, rfl, hB, hgb, fun h => f0 (by simpa using h), fun h => f1 (by simpa using h), fun _ => ⟨A3, c3, rfl⟩, fun h => f3 (by simpa using h), fun h => f4 (by simpa using h), fun h => f5 (by simpa using h), fun h => f6 (by simpa using h), fun h => f7 (by simpa using h), fun h => f8 (by simpa using h), fun h => f9 (by simpa using h)⟩
      · simp at ho
        subst ho
        simp [Region.binds] at hd
        obtain ⟨A3, c3, rfl⟩ := f2 (by simp_all)
        refine value_ (N := some 10) (v := .int .i64 (u.length : Int)) (w1 := W) rfl rfl (by first | (go_simp; done) | (go_simp; rfl)) ?_
        exact ⟨s2, s3, s7, s8, _, .int .i64 (u.length : Int), s11, s12, s13, s14, rfl, hB, hgb, fun h => f0 (by simpa using h), fun h => f1 (by simpa using h), fun h => f2 (by simpa using h), fun _ => rfl, fun h => f4 (by simpa using h), fun h => f5 (by simpa using h), fun h => f6 (by simpa using h), fun h => f7 (by simpa using h), fun h => f8 (by simpa using h), fun h => f9 (by simpa using h)⟩
      · simp at ho
        subst ho
        simp [Region.binds] at hd
        refine value_ (N := some 11) (v := .pointer (some ⟨gb, 2, none⟩)) (w1 := W) rfl rfl (by first | (go_simp; done) | (go_simp; rfl)) ?_
        exact ⟨s2, s3, s7, s8, s9, s10, .pointer (some ⟨gb, 2, none⟩), s12, s13, s14, rfl, hB, hgb, fun h => f0 (by simpa using h), fun h => f1 (by simpa using h), fun h => f2 (by simpa using h), fun h => f3 (by simpa using h), fun _ => rfl, fun h => f5 (by simpa using h), fun h => f6 (by simpa using h), fun h => f7 (by simpa using h), fun h => f8 (by simpa using h), fun h => f9 (by simpa using h)⟩
      · simp at ho
        subst ho
        simp [Region.binds] at hd
        obtain rfl := f4 (by simp_all)
        have x0 : W.cell? ⟨gb, 0, none⟩ = some (.int .i64 a0_0) := (blk_cell hgb 0).trans rfl
        have x1 : W.cell? ⟨gb, 1, none⟩ = some (.int .i64 a0_1) := (blk_cell hgb 1).trans rfl
        have x2 : W.cell? ⟨gb, 2, none⟩ = some (.slice A0_2 l0_2.length c0_2) := (blk_cell hgb 2).trans rfl
        refine value_ (N := some 12) (v := .slice A0_2 l0_2.length c0_2) (w1 := W) rfl rfl (by first | (go_simp; done) | (go_simp; rfl)) ?_
        exact ⟨s2, s3, s7, s8, s9, s10, _, .slice A0_2 l0_2.length c0_2, s13, s14, rfl, hB, hgb, fun h => f0 (by simpa using h), fun h => f1 (by simpa using h), fun h => f2 (by simpa using h), fun h => f3 (by simpa using h), fun h => f4 (by simpa using h), fun _ => rfl, fun h => f6 (by simpa using h), fun h => f7 (by simpa using h), fun h => f8 (by simpa using h), fun h => f9 (by simpa using h)⟩
      · simp at ho
        subst ho
        simp [Region.binds] at hd
        obtain rfl := f5 (by simp_all)
        refine value_ (N := some 13) (v := .int .i64 (l0_2.length : Int)) (w1 := W) rfl rfl (by first | (go_simp; done) | (go_simp; rfl)) ?_
        exact ⟨s2, s3, s7, s8, s9, s10, s11, _, .int .i64 (l0_2.length : Int), s14, rfl, hB, hgb, fun h => f0 (by simpa using h), fun h => f1 (by simpa using h), fun h => f2 (by simpa using h), fun h => f3 (by simpa using h), fun h => f4 (by simpa using h), fun h => f5 (by simpa using h), fun _ => rfl, fun h => f7 (by simpa using h), fun h => f8 (by simpa using h), fun h => f9 (by simpa using h)⟩
      · simp at ho
        subst ho
        simp [Region.binds] at hd
        obtain rfl := f3 (by simp_all)
        obtain rfl := f6 (by simp_all)
        refine value_ (N := some 14) (v := .bool ((u.length : Int) == (l0_2.length : Int))) (w1 := W) rfl rfl (by first | (go_simp; done) | (go_simp; rfl)) ?_
        exact ⟨s2, s3, s7, s8, s9, _, s11, s12, _, .bool ((u.length : Int) == (l0_2.length : Int)), rfl, hB, hgb, fun h => f0 (by simpa using h), fun h => f1 (by simpa using h), fun h => f2 (by simpa using h), fun h => f3 (by simpa using h), fun h => f4 (by simpa using h), fun h => f5 (by simpa using h), fun h => f6 (by simpa using h), fun _ => rfl, fun h => f8 (by simpa using h), fun h => f9 (by simpa using h)⟩
      · simp at ho
        subst ho
        simp [Region.binds] at hd
        obtain rfl := f7 (by simp_all)
        refine value_ (N := some 2) (v := .bool ((u.length : Int) == (l0_2.length : Int))) (w1 := W) rfl rfl (by first | (go_simp; done) | (go_simp; rfl)) ?_
        exact ⟨.bool ((u.length : Int) == (l0_2.length : Int)), s3, s7, s8, s9, s10, s11, s12, s13, _, rfl, hB, hgb, fun h => f0 (by simpa using h), fun h => f1 (by simpa using h), fun h => f2 (by simpa using h), fun h => f3 (by simpa using h), fun h => f4 (by simpa using h), fun h => f5 (by simpa using h), fun h => f6 (by simpa using h), fun h => f7 (by simpa using h), fun _ => rfl, fun h => f9 (by simpa using h)⟩
      · simp at ho
        subst ho
        simp [Region.binds] at hd
        refine value_ (N := some 3) (v := .bool true) (w1 := W) rfl rfl (by first | (go_simp; done) | (go_simp; rfl)) ?_
        exact ⟨s2, .bool true, s7, s8, s9, s10, s11, s12, s13, s14, rfl, hB, hgb, fun h => f0 (by simpa using h), fun h => f1 (by simpa using h), fun h => f2 (by simpa using h), fun h => f3 (by simpa using h), fun h => f4 (by simpa using h), fun h => f5 (by simpa using h), fun h => f6 (by simpa using h), fun h => f7 (by simpa using h), fun h => f8 (by simpa using h), fun _ => rfl⟩
      · simp at ho
    case hend =>
      intro L a W hL hI
      obtain ⟨s2, s3, s7, s8, s9, s10, s11, s12, s13, s14, rfl, hB, hgb, f0, f1, f2, f3, f4, f5, f6, f7, f8, f9⟩ := hI
      obtain rfl := f8 (hL 8 (by decide))
      obtain rfl := f9 (hL 9 (by decide))
      have HB2 := Aside0.mk hB
      clear f0 f1 f2 f3 f4 f5 f6 f7 f8 f9 hL hgb hB
      go_wp2
      go_ret2
      exact ⟨by rw [← E1.out]; rfl, HB2.out⟩
  | false =>
    rw [hg] at CI
    have hf : (false, false) = (r1, r2) := by unfold impl_IsUseful.f at h; rw [hg, if_neg (by decide)] at h; exact Option.some.inj h
    obtain ⟨e1, e2⟩ := Prod.mk.inj hf
    subst e1 e2
    clear h hf hr0_2
    go_enter Try.func29, Try.ntmps29
    go_wp2_with (first | ((with_reducible refine gate_dst (N := 1) rfl ?_); refine box_event ?hg (N := 1) ?hd (cs := #[.int .i64 a0_0, .int .i64 a0_1, .slice A0_2 l0_2.length c0_2]) (t := 30) ?hr ?_; (case hd => rfl); (case hg => rfl); (case hr => first | (go_simp; done) | (go_simp; rfl)); intro gb hg_ w1 hbox_ hb_; have GE_gb := Aside0.mk (show w.heap.size ≤ gb by rw [hg_]; exact below_size (by repeat (first | (with_reducible first | exact HB.out | apply below_alloc | apply pw_below_drewN | apply below_drew1) | exact HB.out))); have n0_ := Aside0.mk (below_step (by repeat (first | (with_reducible first | exact HB.out | apply below_alloc | apply pw_below_drewN | apply below_drew1) | exact HB.out)) hb_); clear HB; have HB := n0_; clear n0_; have B_gb := Aside0.mk hbox_; clear hb_ hbox_ hg_; have x_gb_0 : w1.cell? ⟨gb, 0, none⟩ = some (.int .i64 a0_0) := (blk_cell B_gb.out 0).trans rfl; have x_gb_1 : w1.cell? ⟨gb, 1, none⟩ = some (.int .i64 a0_1) := (blk_cell B_gb.out 1).trans rfl; have x_gb_2 : w1.cell? ⟨gb, 2, none⟩ = some (.slice A0_2 l0_2.length c0_2) := (blk_cell B_gb.out 2).trans rfl) | (have _t := tok1; go_at_call 38; (with_reducible refine (CI _ HB.out).mono ?_); rintro e w2 ⟨rfl, hb_⟩; clear x_gb_0 x_gb_1 x_gb_2; have n0_ := Aside0.mk (below_step (by repeat (first | (with_reducible first | exact HB.out | apply below_alloc | apply pw_below_drewN | apply below_drew1) | exact HB.out)) hb_); have n_gb := Aside0.mk (blk_below (by (with_reducible repeat (first | refine blk_drewN ?_ _ | refine blk_drew ?_ | refine blk_alloc ?_ _)); exact B_gb.out) hb_); clear HB B_gb; have HB := n0_; have B_gb := n_gb; clear n0_ n_gb; clear hb_; have x_gb_0 : w2.cell? ⟨gb, 0, none⟩ = some (.int .i64 a0_0) := (blk_cell B_gb.out 0).trans rfl; have x_gb_1 : w2.cell? ⟨gb, 1, none⟩ = some (.int .i64 a0_1) := (blk_cell B_gb.out 1).trans rfl; have x_gb_2 : w2.cell? ⟨gb, 2, none⟩ = some (.slice A0_2 l0_2.length c0_2) := (blk_cell B_gb.out 2).trans rfl; clear CI tok1))
    go_ret2
    exact ⟨rfl, HB.out⟩
def impl_UsefulOf.f (a0_0 a0_1 : Int) (l0_2 : List S47) : Option (Int × Int × List S47 × Bool) := some (if goodG a0_0 a0_1 l0_2 = true then (a0_0, a0_1, usefulF l0_2, true) else (0, 0, [], false))
end Go.Proofs.Ytohbdjdjjbieeaa.P
namespace Go.Proofs.Ytohbdjdjjbieeaa.P
open Go.RowKit Go.Proofs.YtohbdjdjjbieeaaW.PrintWords Go.Proofs.YtohbdjdjjbieeaaW.PrintLast Go.Proofs.YtohbdjdjjbieeaaW.PrintMore
attribute [local go_sem] max2_int min2_int max_two min_two max_three min_three max_four min_four
set_option linter.unusedVariables false
set_option linter.unusedSimpArgs false
def spec_IsUseful.f (k : Nat) (a0_0 : Int) (a0_1 : Int) (l0_2 : List (S47)) : Option (Bool × Bool) := (spec_GoodGrammar.f k a0_0 a0_1 l0_2).bind fun t102 => (if t102 = true then ((spec_l3Useful.f k a0_0 a0_1 l0_2).bind fun bt103 => (some (((bt103.2.2.length : Int) == (l0_2.length : Int)), true))) else (some (false, false)))
def spec_IsUseful.T3 : Bool × List (List Nat × List Nat) := (true, [([], []), ([0], [0]), ([1], [1]), ([2], [2]), ([], []), ([4], [4]), ([5], [5]), ([3, 6], [3, 6]), ([7, 1, 0, 1, 2, 3, 4, 5, 6, 7], [7]), ([8, 0, 1, 2, 3, 4, 5, 6, 7, 8], [])])
def spec_IsUseful.B3 : List Nat := [0, 1, 3, 7, 0, 16, 48, 127, 255, 511]
theorem spec_IsUseful.tab3 : rtab .any (opsOf Try.f28 3) = spec_IsUseful.T3 := by kernel_rfl
theorem spec_IsUseful.bits3 : waitsOk spec_IsUseful.T3.2 spec_IsUseful.B3 = true := by kernel_rfl
set_option maxHeartbeats 8000000 in
set_option maxRecDepth 100000 in
theorem spec_IsUseful.calls (k : Nat) (a0_0 : Int) (a0_1 : Int) (A0_2 : Option Addr) (c0_2 : Nat) (l0_2 : List (S47)) (r1 : Bool) (r2 : Bool) (w : World) (hr0_2 : Kd.C k47 w A0_2 l0_2.length l0_2) (hc0_2 : l0_2.length ≤ c0_2) (h : spec_IsUseful.f k a0_0 a0_1 l0_2 = some (r1, r2)) :
    Calls Try.prog 28 #[.agg #[.int .i64 a0_0, .int .i64 a0_1, .slice A0_2 l0_2.length c0_2]] w fun e w' => e = .returned (.tuple #[.bool r1, .bool r2]) ∧ Below w.heap.size w w' := by
  have hu30 := Try.underlying30
  have hfld : ∀ a b v : Value, ∀ w : World, (Instr.field 30 (.agg #[a, b, v]) 2).run Try.prog w = .ok v w := fun a b v w => by simp [Instr.field, part, isAgg, run_underlying hu30, run_underlying Try.underlying28, asAgg]
  have HR0_2 := Aside0.mk hr0_2
  have HC0_2 := Aside0.mk hc0_2
  clear hr0_2 hc0_2
  have HB := Aside0.mk (Below.refl w.heap.size w)
  have H : ((spec_GoodGrammar.f k a0_0 a0_1 l0_2).bind fun t102 => (if t102 = true then ((spec_l3Useful.f k a0_0 a0_1 l0_2).bind fun bt103 => (some (((bt103.2.2.length : Int) == (l0_2.length : Int)), true))) else (some (false, false)))) = some (r1, r2) := h
  clear h
  replace H := Option.bind_eq_some_iff.mp H
  obtain ⟨t102, A20, H⟩ := H
  replace H : (if t102 = true then ((spec_l3Useful.f k a0_0 a0_1 l0_2).bind fun bt103 => (some (((bt103.2.2.length : Int) == (l0_2.length : Int)), true))) else (some (false, false))) = some (r1, r2) := H
  have A2 := Aside0.mk A20
  clear A20
  by_cases c3 : t102 = true
  · subst c3
    have H1 : ((spec_l3Useful.f k a0_0 a0_1 l0_2).bind fun bt103 => (some (((bt103.2.2.length : Int) == (l0_2.length : Int)), true))) = some (r1, r2) := by rw [if_pos rfl] at H; exact H
    clear H
    have H := H1
    clear H1
    replace H := Option.bind_eq_some_iff.mp H
    obtain ⟨⟨t103, t104, t105⟩, A40, H⟩ := H
    replace H : (some (((t105.length : Int) == (l0_2.length : Int)), true)) = some (r1, r2) := H
    have A4 := Aside0.mk A40
    clear A40
    simp only [Option.some.injEq, Prod.mk.injEq] at H
    obtain ⟨rfl, rfl⟩ := H
    go_enter Try.func28, Try.ntmps28
    try go_wp2_with (first | ((with_reducible refine gate_dst (N := 1) rfl ?_); refine box_event ?hg (N := 1) ?hd (cs := #[.int .i64 a0_0, .int .i64 a0_1, .slice A0_2 l0_2.length c0_2]) (t := 30) ?hr ?_; (case hd => rfl); (case hg => rfl); (case hr => first | (go_simp; done) | (go_simp; rfl)); intro gb101 hg w5 hbox hb; have n0_ := Aside0.mk (below_step (by repeat (first | (with_reducible first | exact HB.out | apply below_alloc | apply pw_below_drewN | apply below_drew1) | exact HB.out)) hb); have n1_ := Aside0.mk (hbox); have n2_ := Aside0.mk ((by rw [hg]; exact (below_size (by repeat (first | (with_reducible first | exact HB.out | apply below_alloc | apply pw_below_drewN | apply below_drew1) | exact HB.out))) : w.heap.size ≤ gb101)); have n3_ := Aside0.mk ((by rw [hg]; exact (below_size (by repeat (first | (with_reducible first | exact HB.out | apply below_alloc | apply pw_below_drewN | apply below_drew1) | exact HB.out))) : w.heap.size ≤ gb101)); clear HB; have HB := n0_; have BK101 := n1_; have GW101 := n2_; have GE101 := n3_; clear n0_ n1_ n2_ n3_; clear hb hbox hg; have hcz6_0 : w5.cell? ⟨gb101, 0, none⟩ = some (.int .i64 a0_0) := (blk_cell BK101.out 0).trans rfl; have hcz6_1 : w5.cell? ⟨gb101, 1, none⟩ = some (.int .i64 a0_1) := (blk_cell BK101.out 1).trans rfl; have hcz6_2 : w5.cell? ⟨gb101, 2, none⟩ = some (.slice A0_2 l0_2.length c0_2) := (blk_cell BK101.out 2).trans rfl; have hfz6_0 := blk_frozen BK101.out 0; have hfz6_1 := blk_frozen BK101.out 1; have hfz6_2 := blk_frozen BK101.out 2) | ((with_reducible refine gate_callee (f := 36) rfl ?_); refine goesL_ (some 5) rfl rfl Try.func36 (by kernel_rfl) rfl #[.agg #[.int .i64 a0_0, .int .i64 a0_1, .slice A0_2 l0_2.length c0_2]] rfl (by (try simp only [List.map_toArray, List.map_cons, List.map_nil]); first | done | rfl | (simp only [List.length_drop, List.length_take]; rfl)) ?_; (with_reducible refine (spec_GoodGrammar.calls k a0_0 a0_1 _ _ l0_2 true _ ?side1 ?side2 A2.out).mono ?_); (case side1 => repeat (first | exact (Kd.C_below HR0_2.out HB.out) | (with_reducible refine Kd.C_alloc ?_ _) | (with_reducible refine Kd.C_drewN ?_ _) | (with_reducible refine Kd.C_drew ?_))); (case side2 => exact HC0_2.out); rintro e w7 ⟨rfl, hb⟩; refine ⟨_, rfl, ?_⟩; have n0_ := Aside0.mk (blk_below (g := gb101) (o := .cells #[.int .i64 a0_0, .int .i64 a0_1, .slice A0_2 l0_2.length c0_2] 30 (0, 0)) (by (with_reducible repeat (first | refine blk_drewN ?_ _ | refine blk_drew ?_ | refine blk_alloc ?_ _)); exact BK101.out) hb); have n1_ := Aside0.mk (below_step (by repeat (first | (with_reducible first | exact HB.out | apply below_alloc | apply pw_below_drewN | apply below_drew1 | refine below_set ?_ GE101.out) | exact HB.out)) hb); clear BK101; clear HB; have BK101 := n0_; have HB := n1_; clear n0_ n1_; (try clear hb); (try clear hb2); (try clear hk); (try clear hi)))
    have n0_ := Aside0.mk (blk_drew BK101.out)
    have n1_ := Aside0.mk (below_drew1 HB.out)
    clear BK101
    clear HB
    have BK101 := n0_
    have HB := n1_
    clear n0_ n1_
    refine start_ (n := 10) (S := fun w' => w'.cell? ⟨gb101, 0, none⟩ = some (.int .i64 a0_0) ∧ w'.cell? ⟨gb101, 1, none⟩ = some (.int .i64 a0_1) ∧ w'.cell? ⟨gb101, 2, none⟩ = some (.slice A0_2 l0_2.length c0_2)) (ds := []) #[false, false, false, false, false, false, false, false, false, false] (by kernel_rfl) rfl rfl ⟨(blk_cell BK101.out 0).trans rfl, (blk_cell BK101.out 1).trans rfl, (blk_cell BK101.out 2).trans rfl⟩ (fun hHeld => ?_); refine with_tabW spec_IsUseful.tab3 spec_IsUseful.bits3 (fun HT_ HW_ => ?_)
    generalize w7.drew = w8 at BK101 HB hHeld ⊢
    refine pure_ (i := 4) (N := some 11) (v := ?_) (a' := ?_) #[false, false, false, false, true, false, false, false, false, false] rfl rfl (any_of HT_.out (by kernel_rfl)) (fun _ _ _ h => h) (Or.inl ⟨by rfl, ?_⟩) ?_ ?_
    rotate_left
    · intro w'
      go_simp
      with_reducible rfl
    rotate_left
    · simp only [Act.put, List.setIfInBounds_toArray, List.set_cons_zero, List.set_cons_succ, i64_w, i32_w]
      rfl
    refine take_ (i := 0) (N := some 7) (v := ?_) (a' := ?_) #[true, false, false, false, true, false, false, false, false, false] rfl rfl (take_ofW HT_.out HW_.out (by kernel_rfl)) (fun _ _ _ h => h) (Or.inl ⟨by rfl, ?_⟩) hHeld ?_ ?_
    rotate_left
    · rintro w' ⟨s0, s1, s2⟩
      go_simp
      with_reducible rfl
    rotate_left
    · simp only [Act.put, List.setIfInBounds_toArray, List.set_cons_zero, List.set_cons_succ, i64_w, i32_w]
      rfl
    refine take_ (i := 5) (N := some 12) (v := ?_) (a' := ?_) #[true, false, false, false, true, true, false, false, false, false] rfl rfl (take_ofW HT_.out HW_.out (by kernel_rfl)) (fun _ _ _ h => h) (Or.inl ⟨by rfl, ?_⟩) hHeld ?_ ?_
    rotate_left
    · rintro w' ⟨s0, s1, s2⟩
      go_simp
      with_reducible rfl
    rotate_left
    · simp only [Act.put, List.setIfInBounds_toArray, List.set_cons_zero, List.set_cons_succ, i64_w, i32_w]
      rfl
    refine pure_ (i := 6) (N := some 13) (v := ?_) (a' := ?_) #[true, false, false, false, true, true, true, false, false, false] rfl rfl (any_of HT_.out (by kernel_rfl)) (fun _ _ _ h => h) (Or.inl ⟨by rfl, ?_⟩) ?_ ?_
    rotate_left
    · intro w'
      go_simp
      with_reducible rfl
    rotate_left
    · simp only [Act.put, List.setIfInBounds_toArray, List.set_cons_zero, List.set_cons_succ, i64_w, i32_w]
      rfl
    refine one_ (i := 1) (N := some 8) #[true, true, false, false, true, true, true, false, false, false] rfl rfl (one_of HT_.out (by kernel_rfl)) (by decide) (fun K hK => ?_)
    refine goes_ Try.func50 (by kernel_rfl) rfl #[.agg #[.int .i64 a0_0, .int .i64 a0_1, .slice A0_2 l0_2.length c0_2]] (by rfl) rfl rfl (by (try simp only [List.map_toArray, List.map_cons, List.map_nil]); first | done | rfl | (simp only [List.length_drop, List.length_take]; rfl)) ?_
    with_reducible refine (spec_l3Useful.calls k a0_0 a0_1 _ _ l0_2 t103 t104 t105 _ ?side1 ?side2 A4.out).mono ?_
    (case side1 => repeat (first | exact (Kd.C_below HR0_2.out HB.out) | (with_reducible refine Kd.C_alloc ?_ _) | (with_reducible refine Kd.C_drewN ?_ _) | (with_reducible refine Kd.C_drew ?_)))
    (case side2 => exact HC0_2.out)
    rintro e w9 ⟨v106, rfl, ho0, hb⟩
    refine ⟨_, rfl, ?_⟩
    have n0_ := Aside0.mk (Kd.N_lower (Kd.N_mono (ok' := fun k_ => k_ ≠ gb101) ho0 (fun k_ hk_ => (Kd.freshB (g := gb101) (o := .cells #[.int .i64 a0_0, .int .i64 a0_1, .slice A0_2 l0_2.length c0_2] 30 (0, 0)) (by (with_reducible repeat (first | refine blk_drewN ?_ _ | refine blk_drew ?_ | refine blk_alloc ?_ _)); exact BK101.out) k_ hk_))) (below_size (by repeat (first | (with_reducible first | exact HB.out | apply below_alloc | apply pw_below_drewN | apply below_drew1 | refine below_set ?_ GE101.out) | exact HB.out))))
    have n1_ := Aside0.mk (blk_below (g := gb101) (o := .cells #[.int .i64 a0_0, .int .i64 a0_1, .slice A0_2 l0_2.length c0_2] 30 (0, 0)) (by (with_reducible repeat (first | refine blk_drewN ?_ _ | refine blk_drew ?_ | refine blk_alloc ?_ _)); exact BK101.out) hb)
    have n2_ := Aside0.mk (below_step (by repeat (first | (with_reducible first | exact HB.out | apply below_alloc | apply pw_below_drewN | apply below_drew1 | refine below_set ?_ GE101.out) | exact HB.out)) hb)
    clear BK101
    clear HB
    have HO107 := n0_
    have BK101 := n1_
    have HB := n2_
    clear n0_ n1_ n2_
    (try clear hb)
    (try clear hb2)
    (try clear hk)
    (try clear hi)
    (try clear ho0)
    obtain ⟨Ao10, co10, eo10⟩ := Kd.N_slice HO107.out
    (first | subst eo10 | (injection eo10 with f1_ f2_ f3_; have f4_ := f1_.symm; have f5_ := f3_.symm; clear f1_ f2_ f3_; subst f4_; subst f5_))
    refine hK.out _ _ ⟨(blk_cell BK101.out 0).trans rfl, (blk_cell BK101.out 1).trans rfl, (blk_cell BK101.out 2).trans rfl⟩ (fun hHeld => ?_)
    clear hK K
    refine norm_ (a' := ?_) ?_ ?_
    rotate_left
    · show Act.put _ (some 8) _ = _
      simp only [Act.put, List.setIfInBounds_toArray, List.set_cons_zero, List.set_cons_succ, i64_w, i32_w]
      rfl
    refine pure_ (i := 2) (N := some 9) (v := ?_) (a' := ?_) #[true, true, true, false, true, true, true, false, false, false] rfl rfl (any_of HT_.out (by kernel_rfl)) (fun _ _ _ h => h) (Or.inl ⟨by rfl, ?_⟩) ?_ ?_
    rotate_left
    · intro w'
      go_simp
      with_reducible rfl
    rotate_left
    · simp only [Act.put, List.setIfInBounds_toArray, List.set_cons_zero, List.set_cons_succ, i64_w, i32_w]
      rfl
    refine pure_ (i := 3) (N := some 10) (v := ?_) (a' := ?_) #[true, true, true, true, true, true, true, false, false, false] rfl rfl (any_of HT_.out (by kernel_rfl)) (fun _ _ _ h => h) (Or.inl ⟨by rfl, ?_⟩) ?_ ?_
    rotate_left
    · intro w'
      go_simp
      with_reducible rfl
    rotate_left
    · simp only [Act.put, List.setIfInBounds_toArray, List.set_cons_zero, List.set_cons_succ, i64_w, i32_w]
      rfl
    refine pure_ (i := 7) (N := some 14) (v := ?_) (a' := ?_) #[true, true, true, true, true, true, true, true, false, false] rfl rfl (any_of HT_.out (by kernel_rfl)) (fun _ _ _ h => h) (Or.inl ⟨by rfl, ?_⟩) ?_ ?_
    rotate_left
    · intro w'
      go_simp
      with_reducible rfl
    rotate_left
    · simp only [Act.put, List.setIfInBounds_toArray, List.set_cons_zero, List.set_cons_succ, i64_w, i32_w]
      rfl
    refine pure_ (i := 8) (N := some 2) (v := ?_) (a' := ?_) #[true, true, true, true, true, true, true, true, true, false] rfl rfl (any_of HT_.out (by kernel_rfl)) (fun _ _ _ h => h) (Or.inl ⟨by rfl, ?_⟩) ?_ ?_
    rotate_left
    · intro w'
      go_simp
      with_reducible rfl
    rotate_left
    · simp only [Act.put, List.setIfInBounds_toArray, List.set_cons_zero, List.set_cons_succ, i64_w, i32_w]
      rfl
    refine pure_ (i := 9) (N := some 3) (v := ?_) (a' := ?_) #[true, true, true, true, true, true, true, true, true, true] rfl rfl (any_of HT_.out (by kernel_rfl)) (fun _ _ _ h => h) (Or.inl ⟨by rfl, ?_⟩) ?_ ?_
    rotate_left
    · intro w'
      go_simp
      with_reducible rfl
    rotate_left
    · simp only [Act.put, List.setIfInBounds_toArray, List.set_cons_zero, List.set_cons_succ, i64_w, i32_w]
      rfl
    refine done_ (done_of HT_.out (by kernel_rfl)) ?_
    try go_wp2
    go_ret2
    exact ⟨by first | rfl | (simp [errW_none, errW_some] <;> rfl) | (simp [*, errW_none, errW_some] <;> rfl), by repeat (first | (with_reducible first | exact HB.out | apply below_alloc | apply pw_below_drewN | apply below_drew1 | refine below_set ?_ GE101.out) | exact HB.out)⟩
  · replace c3 := Bool.eq_false_iff.mpr c3
    subst c3
    have H1 : (some (false, false)) = some (r1, r2) := by rw [if_neg (show ¬ (false = true) by decide)] at H; exact H
    clear H
    have H := H1
    clear H1
    simp only [Option.some.injEq, Prod.mk.injEq] at H
    obtain ⟨rfl, rfl⟩ := H
    go_enter Try.func28, Try.ntmps28
    go_wp2_with (first | ((with_reducible refine gate_dst (N := 1) rfl ?_); refine box_event ?hg (N := 1) ?hd (cs := #[.int .i64 a0_0, .int .i64 a0_1, .slice A0_2 l0_2.length c0_2]) (t := 30) ?hr ?_; (case hd => rfl); (case hg => rfl); (case hr => first | (go_simp; done) | (go_simp; rfl)); intro gb101 hg w11 hbox hb; have n0_ := Aside0.mk (below_step (by repeat (first | (with_reducible first | exact HB.out | apply below_alloc | apply pw_below_drewN | apply below_drew1) | exact HB.out)) hb); have n1_ := Aside0.mk (hbox); have n2_ := Aside0.mk ((by rw [hg]; exact (below_size (by repeat (first | (with_reducible first | exact HB.out | apply below_alloc | apply pw_below_drewN | apply below_drew1) | exact HB.out))) : w.heap.size ≤ gb101)); have n3_ := Aside0.mk ((by rw [hg]; exact (below_size (by repeat (first | (with_reducible first | exact HB.out | apply below_alloc | apply pw_below_drewN | apply below_drew1) | exact HB.out))) : w.heap.size ≤ gb101)); clear HB; have HB := n0_; have BK101 := n1_; have GW101 := n2_; have GE101 := n3_; clear n0_ n1_ n2_ n3_; clear hb hbox hg; have hcz12_0 : w11.cell? ⟨gb101, 0, none⟩ = some (.int .i64 a0_0) := (blk_cell BK101.out 0).trans rfl; have hcz12_1 : w11.cell? ⟨gb101, 1, none⟩ = some (.int .i64 a0_1) := (blk_cell BK101.out 1).trans rfl; have hcz12_2 : w11.cell? ⟨gb101, 2, none⟩ = some (.slice A0_2 l0_2.length c0_2) := (blk_cell BK101.out 2).trans rfl; have hfz12_0 := blk_frozen BK101.out 0; have hfz12_1 := blk_frozen BK101.out 1; have hfz12_2 := blk_frozen BK101.out 2) | ((with_reducible refine gate_callee (f := 36) rfl ?_); refine goesL_ (some 5) rfl rfl Try.func36 (by kernel_rfl) rfl #[.agg #[.int .i64 a0_0, .int .i64 a0_1, .slice A0_2 l0_2.length c0_2]] rfl (by (try simp only [List.map_toArray, List.map_cons, List.map_nil]); first | done | rfl | (simp only [List.length_drop, List.length_take]; rfl)) ?_; (with_reducible refine (spec_GoodGrammar.calls k a0_0 a0_1 _ _ l0_2 false _ ?side1 ?side2 A2.out).mono ?_); (case side1 => repeat (first | exact (Kd.C_below HR0_2.out HB.out) | (with_reducible refine Kd.C_alloc ?_ _) | (with_reducible refine Kd.C_drewN ?_ _) | (with_reducible refine Kd.C_drew ?_))); (case side2 => exact HC0_2.out); rintro e w13 ⟨rfl, hb⟩; refine ⟨_, rfl, ?_⟩; have n0_ := Aside0.mk (blk_below (g := gb101) (o := .cells #[.int .i64 a0_0, .int .i64 a0_1, .slice A0_2 l0_2.length c0_2] 30 (0, 0)) (by (with_reducible repeat (first | refine blk_drewN ?_ _ | refine blk_drew ?_ | refine blk_alloc ?_ _)); exact BK101.out) hb); have n1_ := Aside0.mk (below_step (by repeat (first | (with_reducible first | exact HB.out | apply below_alloc | apply pw_below_drewN | apply below_drew1 | refine below_set ?_ GE101.out) | exact HB.out)) hb); clear BK101; clear HB; have BK101 := n0_; have HB := n1_; clear n0_ n1_; (try clear hb); (try clear hb2); (try clear hk); (try clear hi)))
    go_ret2
    exact ⟨by first | rfl | (simp [errW_none, errW_some] <;> rfl) | (simp [*, errW_none, errW_some] <;> rfl), by repeat (first | (with_reducible first | exact HB.out | apply below_alloc | apply pw_below_drewN | apply below_drew1 | refine below_set ?_ GE101.out) | exact HB.out)⟩
end Go.Proofs.Ytohbdjdjjbieeaa.P
namespace Go.Proofs.Ytohbdjdjjbieeaa.P
open Go.RowKit Go.Proofs.YtohbdjdjjbieeaaW.PrintWords Go.Proofs.YtohbdjdjjbieeaaW.PrintLast Go.Proofs.YtohbdjdjjbieeaaW.PrintMore
attribute [local go_sem] max2_int min2_int max_two min_two max_three min_three max_four min_four
set_option linter.unusedVariables false
set_option linter.unusedSimpArgs false
def laws_FnExactIsUseful.j0 : Nat → Bool → Int → Int → List (S62) → Int → Int → List (S47) → Option (Bool)
  | 0, _, _, _, _, _, _, _ => none
  | k + 1, x34, x102000, x102001, x102002, x116000, x116001, x116002 => if x34 = true then (some false) else ((laws_toGrammar.f k x102000 x102001 x102002).bind fun bt118 => ((laws_eqGrammar.f k x116000 x116001 x116002 bt118.1 bt118.2.1 bt118.2.2).bind fun t123 => (if t123 = true then (some true) else (some false))))
def laws_FnExactIsUseful.f (k : Nat) (a0_0 : Int) (a0_1 : Int) (l0_2 : List (S62)) : Option (Bool) := (laws_szGrammar.f k a0_0 a0_1 l0_2 1048576).bind fun t102 => (if t102 < 0 then (some true) else ((laws_toGrammar.f k a0_0 a0_1 l0_2).bind fun bt103 => ((spec_IsUseful.f k bt103.1 bt103.2.1 bt103.2.2).bind fun bt108 => ((laws_toGrammar.f k a0_0 a0_1 l0_2).bind fun bt110 => ((impl_IsUseful.f bt110.1 bt110.2.1 bt110.2.2).bind fun bt116 => (if (bt116.1 != bt108.1) = true then (laws_FnExactIsUseful.j0 k true a0_0 a0_1 l0_2 bt110.1 bt110.2.1 bt110.2.2) else (laws_FnExactIsUseful.j0 k (bt116.2 != bt108.2) a0_0 a0_1 l0_2 bt110.1 bt110.2.1 bt110.2.2)))))))
set_option maxHeartbeats 8000000 in
set_option maxRecDepth 100000 in
theorem laws_FnExactIsUseful.calls (k : Nat) (a0_0 : Int) (a0_1 : Int) (A0_2 : Option Addr) (c0_2 : Nat) (l0_2 : List (S62)) (r : Bool) (w : World) (hr0_2 : Kd.C k62 w A0_2 l0_2.length l0_2) (hc0_2 : l0_2.length ≤ c0_2) (h : laws_FnExactIsUseful.f k a0_0 a0_1 l0_2 = some r) :
    Calls Try.prog 8 #[.agg #[.int .i64 a0_0, .int .i64 a0_1, .slice A0_2 l0_2.length c0_2]] w fun e w' => e = .returned (.bool r) ∧ Below w.heap.size w w' := by
  have hu24 := Try.underlying24
  have hu30 := Try.underlying30
  have HR0_2 := Aside0.mk hr0_2
  have HC0_2 := Aside0.mk hc0_2
  clear hr0_2 hc0_2
  have HB := Aside0.mk (Below.refl w.heap.size w)
  have H : ((laws_szGrammar.f k a0_0 a0_1 l0_2 1048576).bind fun t102 => (if t102 < 0 then (some true) else ((laws_toGrammar.f k a0_0 a0_1 l0_2).bind fun bt103 => ((spec_IsUseful.f k bt103.1 bt103.2.1 bt103.2.2).bind fun bt108 => ((laws_toGrammar.f k a0_0 a0_1 l0_2).bind fun bt110 => ((impl_IsUseful.f bt110.1 bt110.2.1 bt110.2.2).bind fun bt116 => (if (bt116.1 != bt108.1) = true then (laws_FnExactIsUseful.j0 k true a0_0 a0_1 l0_2 bt110.1 bt110.2.1 bt110.2.2) else (laws_FnExactIsUseful.j0 k (bt116.2 != bt108.2) a0_0 a0_1 l0_2 bt110.1 bt110.2.1 bt110.2.2)))))))) = some r := h
  clear h
  replace H := Option.bind_eq_some_iff.mp H
  obtain ⟨t102, A20, H⟩ := H
  replace H : (if t102 < 0 then (some true) else ((laws_toGrammar.f k a0_0 a0_1 l0_2).bind fun bt103 => ((spec_IsUseful.f k bt103.1 bt103.2.1 bt103.2.2).bind fun bt108 => ((laws_toGrammar.f k a0_0 a0_1 l0_2).bind fun bt110 => ((impl_IsUseful.f bt110.1 bt110.2.1 bt110.2.2).bind fun bt116 => (if (bt116.1 != bt108.1) = true then (laws_FnExactIsUseful.j0 k true a0_0 a0_1 l0_2 bt110.1 bt110.2.1 bt110.2.2) else (laws_FnExactIsUseful.j0 k (bt116.2 != bt108.2) a0_0 a0_1 l0_2 bt110.1 bt110.2.1 bt110.2.2))))))) = some r := H
  have A2 := Aside0.mk A20
  clear A20
  by_cases c3 : t102 < 0
  · rw [if_pos c3] at H
    have c3b0 : decide (t102 < 0) = true := decide_eq_true c3
    clear c3
    obtain rfl := Option.some.inj H
    go_enter Try.func8, Try.ntmps8
    go_wp2_with (first | ((with_reducible refine gate_dst (N := 1) rfl ?_); refine box_event ?hg (N := 1) ?hd (cs := #[.int .i64 a0_0, .int .i64 a0_1, .slice A0_2 l0_2.length c0_2]) (t := 24) ?hr ?_; (case hd => rfl); (case hg => rfl); (case hr => first | (go_simp; done) | (go_simp; rfl)); intro gb101 hg w4 hbox hb; have n0_ := Aside0.mk (below_step (by repeat (first | (with_reducible first | exact HB.out | apply below_alloc | apply pw_below_drewN | apply below_drew1) | exact HB.out)) hb); have n1_ := Aside0.mk (hbox); have n2_ := Aside0.mk ((by rw [hg]; exact (below_size (by repeat (first | (with_reducible first | exact HB.out | apply below_alloc | apply pw_below_drewN | apply below_drew1) | exact HB.out))) : w.heap.size ≤ gb101)); have n3_ := Aside0.mk ((by rw [hg]; exact (below_size (by repeat (first | (with_reducible first | exact HB.out | apply below_alloc | apply pw_below_drewN | apply below_drew1) | exact HB.out))) : w.heap.size ≤ gb101)); clear HB; have HB := n0_; have BK101 := n1_; have GW101 := n2_; have GE101 := n3_; clear n0_ n1_ n2_ n3_; clear hb hbox hg; have hcz5_0 : w4.cell? ⟨gb101, 0, none⟩ = some (.int .i64 a0_0) := (blk_cell BK101.out 0).trans rfl; have hcz5_1 : w4.cell? ⟨gb101, 1, none⟩ = some (.int .i64 a0_1) := (blk_cell BK101.out 1).trans rfl; have hcz5_2 : w4.cell? ⟨gb101, 2, none⟩ = some (.slice A0_2 l0_2.length c0_2) := (blk_cell BK101.out 2).trans rfl; have hfz5_0 := blk_frozen BK101.out 0; have hfz5_1 := blk_frozen BK101.out 1; have hfz5_2 := blk_frozen BK101.out 2) | ((with_reducible refine gate_callee (f := 11) rfl ?_); refine goesL_ (some 11) rfl rfl Try.func11 (by kernel_rfl) rfl #[.agg #[.int .i64 a0_0, .int .i64 a0_1, .slice A0_2 l0_2.length c0_2], .int .i64 1048576] rfl (by (try simp only [List.map_toArray, List.map_cons, List.map_nil]); first | done | rfl | (simp only [List.length_drop, List.length_take]; rfl)) ?_; (with_reducible refine (laws_szGrammar.calls k a0_0 a0_1 _ _ l0_2 1048576 t102 _ ?side1 ?side2 A2.out).mono ?_); (case side1 => repeat (first | exact (Kd.C_below HR0_2.out HB.out) | (with_reducible refine Kd.C_alloc ?_ _) | (with_reducible refine Kd.C_drewN ?_ _) | (with_reducible refine Kd.C_drew ?_))); (case side2 => exact HC0_2.out); rintro e w6 ⟨rfl, hb⟩; refine ⟨_, rfl, ?_⟩; have n0_ := Aside0.mk (blk_below (g := gb101) (o := .cells #[.int .i64 a0_0, .int .i64 a0_1, .slice A0_2 l0_2.length c0_2] 24 (0, 0)) (by (with_reducible repeat (first | refine blk_drewN ?_ _ | refine blk_drew ?_ | refine blk_alloc ?_ _)); exact BK101.out) hb); have n1_ := Aside0.mk (below_step (by repeat (first | (with_reducible first | exact HB.out | apply below_alloc | apply pw_below_drewN | apply below_drew1 | refine below_set ?_ GE101.out) | exact HB.out)) hb); clear BK101; clear HB; have BK101 := n0_; have HB := n1_; clear n0_ n1_; (try clear hb); (try clear hb2); (try clear hk); (try clear hi)))
    go_ret
    exact ⟨by first | rfl | (simp [errW_none, errW_some] <;> rfl) | (simp [*, errW_none, errW_some] <;> rfl), by repeat (first | (with_reducible first | exact HB.out | apply below_alloc | apply pw_below_drewN | apply below_drew1 | refine below_set ?_ GE101.out) | exact HB.out)⟩
  · rw [if_neg c3] at H
    have c3b0 : decide (t102 < 0) = false := decide_eq_false c3
    clear c3
    replace H := Option.bind_eq_some_iff.mp H
    obtain ⟨⟨t103, t104, t105⟩, A70, H⟩ := H
    replace H : ((spec_IsUseful.f k t103 t104 t105).bind fun bt108 => ((laws_toGrammar.f k a0_0 a0_1 l0_2).bind fun bt110 => ((impl_IsUseful.f bt110.1 bt110.2.1 bt110.2.2).bind fun bt116 => (if (bt116.1 != bt108.1) = true then (laws_FnExactIsUseful.j0 k true a0_0 a0_1 l0_2 bt110.1 bt110.2.1 bt110.2.2) else (laws_FnExactIsUseful.j0 k (bt116.2 != bt108.2) a0_0 a0_1 l0_2 bt110.1 bt110.2.1 bt110.2.2))))) = some r := H
    have A7 := Aside0.mk A70
    clear A70
    replace H := Option.bind_eq_some_iff.mp H
    obtain ⟨⟨t108, t109⟩, A80, H⟩ := H
    replace H : ((laws_toGrammar.f k a0_0 a0_1 l0_2).bind fun bt110 => ((impl_IsUseful.f bt110.1 bt110.2.1 bt110.2.2).bind fun bt116 => (if (bt116.1 != t108) = true then (laws_FnExactIsUseful.j0 k true a0_0 a0_1 l0_2 bt110.1 bt110.2.1 bt110.2.2) else (laws_FnExactIsUseful.j0 k (bt116.2 != t109) a0_0 a0_1 l0_2 bt110.1 bt110.2.1 bt110.2.2)))) = some r := H
    have A8 := Aside0.mk A80
    clear A80
    replace H := Option.bind_eq_some_iff.mp H
    obtain ⟨⟨t110, t111, t112⟩, A90, H⟩ := H
    replace H : ((impl_IsUseful.f t110 t111 t112).bind fun bt116 => (if (bt116.1 != t108) = true then (laws_FnExactIsUseful.j0 k true a0_0 a0_1 l0_2 t110 t111 t112) else (laws_FnExactIsUseful.j0 k (bt116.2 != t109) a0_0 a0_1 l0_2 t110 t111 t112))) = some r := H
    have A9 := Aside0.mk A90
    clear A90
    replace H := Option.bind_eq_some_iff.mp H
    obtain ⟨⟨t116, t117⟩, A100, H⟩ := H
    replace H : (if (t116 != t108) = true then (laws_FnExactIsUseful.j0 k true a0_0 a0_1 l0_2 t110 t111 t112) else (laws_FnExactIsUseful.j0 k (t117 != t109) a0_0 a0_1 l0_2 t110 t111 t112)) = some r := H
    have A10 := Aside0.mk A100
    clear A100
    have HC11 := Aside0.mk H
    clear H
    go_enter Try.func8, Try.ntmps8
    go_upto_region 8 with (first | ((with_reducible refine gate_dst (N := 1) rfl ?_); refine box_event ?hg (N := 1) ?hd (cs := #[.int .i64 a0_0, .int .i64 a0_1, .slice A0_2 l0_2.length c0_2]) (t := 24) ?hr ?_; (case hd => rfl); (case hg => rfl); (case hr => first | (go_simp; done) | (go_simp; rfl)); intro gb101 hg w12 hbox hb; have n0_ := Aside0.mk (below_step (by repeat (first | (with_reducible first | exact HB.out | apply below_alloc | apply pw_below_drewN | apply below_drew1) | exact HB.out)) hb); have n1_ := Aside0.mk (hbox); have n2_ := Aside0.mk ((by rw [hg]; exact (below_size (by repeat (first | (with_reducible first | exact HB.out | apply below_alloc | apply pw_below_drewN | apply below_drew1) | exact HB.out))) : w.heap.size ≤ gb101)); have n3_ := Aside0.mk ((by rw [hg]; exact (below_size (by repeat (first | (with_reducible first | exact HB.out | apply below_alloc | apply pw_below_drewN | apply below_drew1) | exact HB.out))) : w.heap.size ≤ gb101)); clear HB; have HB := n0_; have BK101 := n1_; have GW101 := n2_; have GE101 := n3_; clear n0_ n1_ n2_ n3_; clear hb hbox hg; have hcz13_0 : w12.cell? ⟨gb101, 0, none⟩ = some (.int .i64 a0_0) := (blk_cell BK101.out 0).trans rfl; have hcz13_1 : w12.cell? ⟨gb101, 1, none⟩ = some (.int .i64 a0_1) := (blk_cell BK101.out 1).trans rfl; have hcz13_2 : w12.cell? ⟨gb101, 2, none⟩ = some (.slice A0_2 l0_2.length c0_2) := (blk_cell BK101.out 2).trans rfl; have hfz13_0 := blk_frozen BK101.out 0; have hfz13_1 := blk_frozen BK101.out 1; have hfz13_2 := blk_frozen BK101.out 2) | ((with_reducible refine gate_callee (f := 11) rfl ?_); refine goesL_ (some 11) rfl rfl Try.func11 (by kernel_rfl) rfl #[.agg #[.int .i64 a0_0, .int .i64 a0_1, .slice A0_2 l0_2.length c0_2], .int .i64 1048576] rfl (by (try simp only [List.map_toArray, List.map_cons, List.map_nil]); first | done | rfl | (simp only [List.length_drop, List.length_take]; rfl)) ?_; (with_reducible refine (laws_szGrammar.calls k a0_0 a0_1 _ _ l0_2 1048576 t102 _ ?side1 ?side2 A2.out).mono ?_); (case side1 => repeat (first | exact (Kd.C_below HR0_2.out HB.out) | (with_reducible refine Kd.C_alloc ?_ _) | (with_reducible refine Kd.C_drewN ?_ _) | (with_reducible refine Kd.C_drew ?_))); (case side2 => exact HC0_2.out); rintro e w14 ⟨rfl, hb⟩; refine ⟨_, rfl, ?_⟩; have n0_ := Aside0.mk (blk_below (g := gb101) (o := .cells #[.int .i64 a0_0, .int .i64 a0_1, .slice A0_2 l0_2.length c0_2] 24 (0, 0)) (by (with_reducible repeat (first | refine blk_drewN ?_ _ | refine blk_drew ?_ | refine blk_alloc ?_ _)); exact BK101.out) hb); have n1_ := Aside0.mk (below_step (by repeat (first | (with_reducible first | exact HB.out | apply below_alloc | apply pw_below_drewN | apply below_drew1 | refine below_set ?_ GE101.out) | exact HB.out)) hb); clear BK101; clear HB; have BK101 := n0_; have HB := n1_; clear n0_ n1_; (try clear hb); (try clear hb2); (try clear hk); (try clear hi); have hcz15_0 : w14.cell? ⟨gb101, 0, none⟩ = some (.int .i64 a0_0) := (blk_cell BK101.out 0).trans rfl; have hcz15_1 : w14.cell? ⟨gb101, 1, none⟩ = some (.int .i64 a0_1) := (blk_cell BK101.out 1).trans rfl; have hcz15_2 : w14.cell? ⟨gb101, 2, none⟩ = some (.slice A0_2 l0_2.length c0_2) := (blk_cell BK101.out 2).trans rfl; have hfz15_0 := blk_frozen BK101.out 0; have hfz15_1 := blk_frozen BK101.out 1; have hfz15_2 := blk_frozen BK101.out 2) | ((with_reducible refine gate_callee (f := 13) rfl ?_); refine goesL_ (some 16) rfl rfl Try.func13 (by kernel_rfl) rfl #[.agg #[.int .i64 a0_0, .int .i64 a0_1, .slice A0_2 l0_2.length c0_2]] rfl (by (try simp only [List.map_toArray, List.map_cons, List.map_nil]); first | done | rfl | (simp only [List.length_drop, List.length_take]; rfl)) ?_; (with_reducible refine (laws_toGrammar.calls k a0_0 a0_1 _ _ l0_2 t103 t104 t105 _ ?side1 ?side2 A7.out).mono ?_); (case side1 => repeat (first | exact (Kd.C_below HR0_2.out HB.out) | (with_reducible refine Kd.C_alloc ?_ _) | (with_reducible refine Kd.C_drewN ?_ _) | (with_reducible refine Kd.C_drew ?_))); (case side2 => exact HC0_2.out); rintro e w16 ⟨v106, rfl, ho0, hb⟩; refine ⟨_, rfl, ?_⟩; have n0_ := Aside0.mk (Kd.S_lower ho0 (below_size (by repeat (first | (with_reducible first | exact HB.out | apply below_alloc | apply pw_below_drewN | apply below_drew1 | refine below_set ?_ GE101.out) | exact HB.out)))); have n1_ := Aside0.mk (blk_below (g := gb101) (o := .cells #[.int .i64 a0_0, .int .i64 a0_1, .slice A0_2 l0_2.length c0_2] 24 (0, 0)) (by (with_reducible repeat (first | refine blk_drewN ?_ _ | refine blk_drew ?_ | refine blk_alloc ?_ _)); exact BK101.out) hb); have n2_ := Aside0.mk (below_step (by repeat (first | (with_reducible first | exact HB.out | apply below_alloc | apply pw_below_drewN | apply below_drew1 | refine below_set ?_ GE101.out) | exact HB.out)) hb); clear BK101; clear HB; have HO107 := n0_; have BK101 := n1_; have HB := n2_; clear n0_ n1_ n2_; (try clear hb); (try clear hb2); (try clear hk); (try clear hi); (try clear ho0); obtain ⟨Ao17, co17, eo17⟩ := Kd.S_slice HO107.out; subst eo17) | ((with_reducible refine gate_callee (f := 28) rfl ?_); refine goesL_ (some 17) rfl rfl Try.func28 (by kernel_rfl) rfl #[.agg #[.int .i64 t103, .int .i64 t104, .slice Ao17 t105.length co17]] rfl (by (try simp only [List.map_toArray, List.map_cons, List.map_nil]); first | done | rfl | (simp only [List.length_drop, List.length_take]; rfl)) ?_; (with_reducible refine (spec_IsUseful.calls k t103 t104 _ _ t105 t108 t109 _ ?side1 ?side2 A8.out).mono ?_); (case side1 => repeat (first | exact (Kd.S_reads' HO107.out).2.2 | (with_reducible refine Kd.C_alloc ?_ _) | (with_reducible refine Kd.C_drewN ?_ _) | (with_reducible refine Kd.C_drew ?_))); (case side2 => exact (Kd.S_reads' HO107.out).2.1); rintro e w18 ⟨rfl, hb⟩; refine ⟨_, rfl, ?_⟩; have n0_ := Aside0.mk (Kd.S_below (by (with_reducible repeat (first | apply Kd.S_alloc | apply Kd.S_drewN | apply Kd.S_drew)); exact HO107.out) hb); have n1_ := Aside0.mk (blk_below (g := gb101) (o := .cells #[.int .i64 a0_0, .int .i64 a0_1, .slice A0_2 l0_2.length c0_2] 24 (0, 0)) (by (with_reducible repeat (first | refine blk_drewN ?_ _ | refine blk_drew ?_ | refine blk_alloc ?_ _)); exact BK101.out) hb); have n2_ := Aside0.mk (below_step (by repeat (first | (with_reducible first | exact HB.out | apply below_alloc | apply pw_below_drewN | apply below_drew1 | refine below_set ?_ GE101.out) | exact HB.out)) hb); clear HO107; clear BK101; clear HB; have HO107 := n0_; have BK101 := n1_; have HB := n2_; clear n0_ n1_ n2_; (try clear hb); (try clear hb2); (try clear hk); (try clear hi); have hcz19_0 : w18.cell? ⟨gb101, 0, none⟩ = some (.int .i64 a0_0) := (blk_cell BK101.out 0).trans rfl; have hcz19_1 : w18.cell? ⟨gb101, 1, none⟩ = some (.int .i64 a0_1) := (blk_cell BK101.out 1).trans rfl; have hcz19_2 : w18.cell? ⟨gb101, 2, none⟩ = some (.slice A0_2 l0_2.length c0_2) := (blk_cell BK101.out 2).trans rfl; have hfz19_0 := blk_frozen BK101.out 0; have hfz19_1 := blk_frozen BK101.out 1; have hfz19_2 := blk_frozen BK101.out 2) | ((with_reducible refine gate_callee (f := 13) rfl ?_); refine goesL_ (some 21) rfl rfl Try.func13 (by kernel_rfl) rfl #[.agg #[.int .i64 a0_0, .int .i64 a0_1, .slice A0_2 l0_2.length c0_2]] rfl (by (try simp only [List.map_toArray, List.map_cons, List.map_nil]); first | done | rfl | (simp only [List.length_drop, List.length_take]; rfl)) ?_; (with_reducible refine (laws_toGrammar.calls k a0_0 a0_1 _ _ l0_2 t110 t111 t112 _ ?side1 ?side2 A9.out).mono ?_); (case side1 => repeat (first | exact (Kd.C_below HR0_2.out HB.out) | (with_reducible refine Kd.C_alloc ?_ _) | (with_reducible refine Kd.C_drewN ?_ _) | (with_reducible refine Kd.C_drew ?_))); (case side2 => exact HC0_2.out); rintro e w20 ⟨v113, rfl, ho0, hb⟩; refine ⟨_, rfl, ?_⟩; have n0_ := Aside0.mk (Kd.S_elder' (by (with_reducible repeat (first | apply Kd.S_alloc | apply Kd.S_drewN | apply Kd.S_drew)); exact HO107.out) (Kd.S_base ho0) hb); have n1_ := Aside0.mk (Kd.S_lower (Kd.S_new' ho0 (Kd.S_lt (by (with_reducible repeat (first | apply Kd.S_alloc | apply Kd.S_drewN | apply Kd.S_drew)); exact HO107.out))) (below_size (by repeat (first | (with_reducible first | exact HB.out | apply below_alloc | apply pw_below_drewN | apply below_drew1 | refine below_set ?_ GE101.out) | exact HB.out)))); have n2_ := Aside0.mk (blk_below (g := gb101) (o := .cells #[.int .i64 a0_0, .int .i64 a0_1, .slice A0_2 l0_2.length c0_2] 24 (0, 0)) (by (with_reducible repeat (first | refine blk_drewN ?_ _ | refine blk_drew ?_ | refine blk_alloc ?_ _)); exact BK101.out) hb); have n3_ := Aside0.mk (below_step (by repeat (first | (with_reducible first | exact HB.out | apply below_alloc | apply pw_below_drewN | apply below_drew1 | refine below_set ?_ GE101.out) | exact HB.out)) hb); clear HO107; clear BK101; clear HB; have HO107 := n0_; have HO114 := n1_; have BK101 := n2_; have HB := n3_; clear n0_ n1_ n2_ n3_; (try clear hb); (try clear hb2); (try clear hk); (try clear hi); (try clear ho0)) | ((with_reducible refine gate_dst (N := 6) rfl ?_); refine box_event ?hg (N := 6) ?hd (cs := #[.int .i64 0, .int .i64 0, .slice none 0 0]) (t := 30) ?hr ?_; (case hd => rfl); (case hg => rfl); (case hr => first | (go_simp; done) | (go_simp; rfl)); intro gb115 hg w21 hbox hb; have n0_ := Aside0.mk (Kd.S_below (by (with_reducible repeat (first | apply Kd.S_alloc | apply Kd.S_drewN | apply Kd.S_drew)); exact HO107.out) hb); have n1_ := Aside0.mk (Kd.S_below (by (with_reducible repeat (first | apply Kd.S_alloc | apply Kd.S_drewN | apply Kd.S_drew)); exact HO114.out) hb); have n2_ := Aside0.mk (blk_below (g := gb101) (o := .cells #[.int .i64 a0_0, .int .i64 a0_1, .slice A0_2 l0_2.length c0_2] 24 (0, 0)) (by (with_reducible repeat (first | refine blk_drewN ?_ _ | refine blk_drew ?_ | refine blk_alloc ?_ _)); exact BK101.out) hb); have n3_ := Aside0.mk (below_step (by repeat (first | (with_reducible first | exact HB.out | apply below_alloc | apply pw_below_drewN | apply below_drew1 | refine below_set ?_ GE101.out) | exact HB.out)) hb); have n4_ := Aside0.mk (hbox); have n5_ := Aside0.mk ((by rw [hg]; exact (below_size (by repeat (first | (with_reducible first | exact HB.out | apply below_alloc | apply pw_below_drewN | apply below_drew1 | refine below_set ?_ GE101.out) | exact HB.out))) : w.heap.size ≤ gb115)); have n6_ := Aside0.mk ((by rw [hg]; exact (below_size (by repeat (first | (with_reducible first | exact HB.out | apply below_alloc | apply pw_below_drewN | apply below_drew1 | refine below_set ?_ GE101.out) | exact HB.out))) : w.heap.size ≤ gb115)); have n7_ := Aside0.mk ((by rw [hg]; exact Nat.ne_of_lt (blk_lt (g := gb101) (o := .cells #[.int .i64 a0_0, .int .i64 a0_1, .slice A0_2 l0_2.length c0_2] 24 (0, 0)) (by (with_reducible repeat (first | refine blk_drewN ?_ _ | refine blk_drew ?_ | refine blk_alloc ?_ _)); exact BK101.out)) : gb101 ≠ gb115)); have n8_ := Aside0.mk ((by rw [hg]; exact Nat.ne_of_gt (blk_lt (g := gb101) (o := .cells #[.int .i64 a0_0, .int .i64 a0_1, .slice A0_2 l0_2.length c0_2] 24 (0, 0)) (by (with_reducible repeat (first | refine blk_drewN ?_ _ | refine blk_drew ?_ | refine blk_alloc ?_ _)); exact BK101.out)) : gb115 ≠ gb101)); clear HO107; clear HO114; clear BK101; clear HB; have HO107 := n0_; have HO114 := n1_; have BK101 := n2_; have HB := n3_; have BK115 := n4_; have GW115 := n5_; have GE115 := n6_; have NB101_115 := n7_; have NB115_101 := n8_; clear n0_ n1_ n2_ n3_ n4_ n5_ n6_ n7_ n8_; clear hb hbox hg; have hnb22 := NB115_101.out; have hnc22 := NB101_115.out; have hcz23_0 : w21.cell? ⟨gb115, 0, none⟩ = some (.int .i64 0) := (blk_cell BK115.out 0).trans rfl; have hcz23_1 : w21.cell? ⟨gb115, 1, none⟩ = some (.int .i64 0) := (blk_cell BK115.out 1).trans rfl; have hcz23_2 : w21.cell? ⟨gb115, 2, none⟩ = some (.slice none 0 0) := (blk_cell BK115.out 2).trans rfl; have hfz23_0 := blk_frozen BK115.out 0; have hfz23_1 := blk_frozen BK115.out 1; have hfz23_2 := blk_frozen BK115.out 2; obtain ⟨Ao24, co24, eo24⟩ := Kd.S_slice HO114.out; subst eo24) | ((with_reducible refine gate_callee (f := 29) rfl ?_); refine goesL_ (some 24) rfl rfl Try.func29 (by kernel_rfl) rfl #[.agg #[.int .i64 t110, .int .i64 t111, .slice Ao24 t112.length co24]] rfl (by (try simp only [List.map_toArray, List.map_cons, List.map_nil]); first | done | rfl | (simp only [List.length_drop, List.length_take]; rfl)) ?_; (with_reducible refine (impl_IsUseful.calls t110 t111 _ _ t112 t116 t117 _ ?side1 ?side2 A10.out).mono ?_); (case side1 => refine (Kd.S_reads' (e := 47) (base := w.heap.size) (ok := fun k_ => (True ∧ some k_ ≠ (.slice Ao17 t105.length co17 : Value).ownBlock)) (n := t112.length) (c := co24) ?_).2.2; exact (by (with_reducible repeat (first | apply Kd.S_alloc | apply Kd.S_drewN | apply Kd.S_drew)); exact (Kd.S_mono (Kd.S_far (p := ⟨gb115, 2, none⟩) (Kd.S_far (p := ⟨gb115, 1, none⟩) (Kd.S_far (p := ⟨gb115, 0, none⟩) (Kd.S_types HO114.out BK115.out (by decide)) (fun _ hk => hk.2) (.int .i64 t110)) (fun _ hk => hk.2) (.int .i64 t111)) (fun _ hk => hk.2) (.slice Ao24 t112.length co24)) (fun _ h_ => h_.1)))); (case side2 => exact (Kd.S_reads' HO114.out).2.1); rintro e w25 ⟨rfl, hb⟩; refine ⟨_, rfl, ?_⟩; have n0_ := Aside0.mk (Kd.S_below (by (with_reducible repeat (first | apply Kd.S_alloc | apply Kd.S_drewN | apply Kd.S_drew)); exact (Kd.S_mono (Kd.S_far (p := ⟨gb115, 2, none⟩) (Kd.S_far (p := ⟨gb115, 1, none⟩) (Kd.S_far (p := ⟨gb115, 0, none⟩) (Kd.S_types HO107.out BK115.out (by decide)) (fun _ hk => hk.2) (.int .i64 t110)) (fun _ hk => hk.2) (.int .i64 t111)) (fun _ hk => hk.2) (.slice Ao24 t112.length co24)) (fun _ h_ => h_.1))) hb); have n1_ := Aside0.mk (Kd.S_below (by (with_reducible repeat (first | apply Kd.S_alloc | apply Kd.S_drewN | apply Kd.S_drew)); exact (Kd.S_mono (Kd.S_far (p := ⟨gb115, 2, none⟩) (Kd.S_far (p := ⟨gb115, 1, none⟩) (Kd.S_far (p := ⟨gb115, 0, none⟩) (Kd.S_types HO114.out BK115.out (by decide)) (fun _ hk => hk.2) (.int .i64 t110)) (fun _ hk => hk.2) (.int .i64 t111)) (fun _ hk => hk.2) (.slice Ao24 t112.length co24)) (fun _ h_ => h_.1))) hb); have n2_ := Aside0.mk (blk_below (g := gb101) (o := .cells #[.int .i64 a0_0, .int .i64 a0_1, .slice A0_2 l0_2.length c0_2] 24 (0, 0)) (by (with_reducible repeat (first | refine blk_drewN ?_ _ | refine blk_drew ?_ | refine blk_alloc ?_ _)); refine blk_far ?_ NB101_115.out _; (with_reducible repeat (first | refine blk_drewN ?_ _ | refine blk_drew ?_ | refine blk_alloc ?_ _)); refine blk_far ?_ NB101_115.out _; (with_reducible repeat (first | refine blk_drewN ?_ _ | refine blk_drew ?_ | refine blk_alloc ?_ _)); refine blk_far ?_ NB101_115.out _; (with_reducible repeat (first | refine blk_drewN ?_ _ | refine blk_drew ?_ | refine blk_alloc ?_ _)); exact BK101.out) hb); have n3_ := Aside0.mk (blk_below (g := gb115) (o := .cells #[.int .i64 t110, .int .i64 t111, .slice Ao24 t112.length co24] 30 (0, 0)) (by (with_reducible repeat (first | refine blk_drewN ?_ _ | refine blk_drew ?_ | refine blk_alloc ?_ _)); refine blk_put (cs := #[.int .i64 t110, .int .i64 t111, .slice none 0 0]) ?_ 2 _ rfl; (with_reducible repeat (first | refine blk_drewN ?_ _ | refine blk_drew ?_ | refine blk_alloc ?_ _)); refine blk_put (cs := #[.int .i64 t110, .int .i64 0, .slice none 0 0]) ?_ 1 _ rfl; (with_reducible repeat (first | refine blk_drewN ?_ _ | refine blk_drew ?_ | refine blk_alloc ?_ _)); refine blk_put (cs := #[.int .i64 0, .int .i64 0, .slice none 0 0]) ?_ 0 _ rfl; (with_reducible repeat (first | refine blk_drewN ?_ _ | refine blk_drew ?_ | refine blk_alloc ?_ _)); exact BK115.out) hb); have n4_ := Aside0.mk (below_step (by repeat (first | (with_reducible first | exact HB.out | apply below_alloc | apply pw_below_drewN | apply below_drew1 | refine below_set ?_ GE101.out | refine below_set ?_ GE115.out) | exact HB.out)) hb); clear HO107; clear HO114; clear BK101; clear BK115; clear HB; have HO107 := n0_; have HO114 := n1_; have BK101 := n2_; have BK115 := n3_; have HB := n4_; clear n0_ n1_ n2_ n3_ n4_; (try clear hb); (try clear hb2); (try clear hk); (try clear hi)))
    (try simp only [Act.put, List.setIfInBounds_toArray, List.set_cons_zero, List.set_cons_succ])
    go_cut [34] (fun v34 wc => ∃ (kq : Nat) (x34_10 : Bool), v34 = .bool x34_10 ∧ Aside0 (laws_FnExactIsUseful.j0 kq x34_10 a0_0 a0_1 l0_2 t110 t111 t112 = some r) ∧ Aside0 (kq ≤ k) ∧ Aside0 (Kd.S k47 47 wc w.heap.size (fun _ => True) (.slice Ao24 t112.length co24) t112) ∧ Aside0 (wc.heap[gb101]? = some (.cells #[.int .i64 a0_0, .int .i64 a0_1, (.slice A0_2 l0_2.length c0_2)] 24 (0, 0))) ∧ Aside0 (wc.heap[gb115]? = some (.cells #[.int .i64 t110, .int .i64 t111, (.slice Ao24 t112.length co24)] 30 (0, 0))) ∧ Aside0 (Below w.heap.size w wc))
    case first =>
      have H := HC11.out
      clear HC11
      by_cases c26 : (t116 != t108) = true
      · rw [if_pos c26] at H
        have c26b0 : (t116 != t108) = true := c26
        (try (have c26b1 : decide (t116 = t108) = false := by simpa using c26))
        (try (have c26b2 : (t116 == t108) = false := by simpa using c26))
        (try (have c26b3 : ¬ (t116 = t108) := by simpa using c26))
        clear c26
        (first | rw [c26b0] | (simp only [i64_w, i32_w]; rw [c26b0]) | skip)
        have H' := Aside0.mk H
        clear H
        go_wp2
        go_meet
        case rel => exact ⟨_, (true), (by first | rfl | (simp; done) | (simp [*]; done)), H', ⟨by first | omega | exact Nat.le_refl _⟩, ⟨by (with_reducible repeat (first | apply Kd.S_alloc | apply Kd.S_drewN | apply Kd.S_drew)); exact Kd.S_mono HO114.out (fun _ hk => trivial)⟩, ⟨by (with_reducible repeat (first | refine blk_drewN ?_ _ | refine blk_drew ?_ | refine blk_alloc ?_ _)); exact BK101.out⟩, ⟨by (with_reducible repeat (first | refine blk_drewN ?_ _ | refine blk_drew ?_ | refine blk_alloc ?_ _)); exact BK115.out⟩, ⟨by repeat (first | (with_reducible first | exact HB.out | apply below_alloc | apply pw_below_drewN | apply below_drew1 | refine below_set ?_ GE101.out | refine below_set ?_ GE115.out) | exact HB.out)⟩⟩
      · rw [if_neg c26] at H
        have c26b0 : (t116 != t108) = false := by simpa using c26
        (try (have c26b1 : decide (t116 = t108) = true := by simpa using c26))
        (try (have c26b2 : (t116 == t108) = true := by simpa using c26))
        clear c26
        (first | rw [c26b0] | (simp only [i64_w, i32_w]; rw [c26b0]) | skip)
        have H' := Aside0.mk H
        clear H
        go_wp2
        go_meet
        case rel => exact ⟨_, ((t117 != t109)), (by first | rfl | (simp; done) | (simp [*]; done)), H', ⟨by first | omega | exact Nat.le_refl _⟩, ⟨by (with_reducible repeat (first | apply Kd.S_alloc | apply Kd.S_drewN | apply Kd.S_drew)); exact Kd.S_mono HO114.out (fun _ hk => trivial)⟩, ⟨by (with_reducible repeat (first | refine blk_drewN ?_ _ | refine blk_drew ?_ | refine blk_alloc ?_ _)); exact BK101.out⟩, ⟨by (with_reducible repeat (first | refine blk_drewN ?_ _ | refine blk_drew ?_ | refine blk_alloc ?_ _)); exact BK115.out⟩, ⟨by repeat (first | (with_reducible first | exact HB.out | apply below_alloc | apply pw_below_drewN | apply below_drew1 | refine below_set ?_ GE101.out | refine below_set ?_ GE115.out) | exact HB.out)⟩⟩
    case rest =>
      clear HC11
      try clear c1
      try clear c2
      try clear p2
      try clear c3
      try clear c3b0
      try clear c8
      try clear c11
      try clear c13
      try clear c22
      try clear c26
      try clear c26b0
      try clear c26b1
      try clear c26b2
      try clear hcz13_0
      try clear hcz13_1
      try clear hcz13_2
      try clear hcz15_0
      try clear hcz15_1
      try clear hcz15_2
      try clear hcz19_0
      try clear hcz19_1
      try clear hcz19_2
      try clear hcz23_0
      try clear hcz23_1
      try clear hcz23_2
      try clear hcz5_0
      try clear hcz5_1
      try clear hcz5_2
      try clear hfz13_0
      try clear hfz13_1
      try clear hfz13_2
      try clear hfz15_0
      try clear hfz15_1
      try clear hfz15_2
      try clear hfz19_0
      try clear hfz19_1
      try clear hfz19_2
      try clear hfz23_0
      try clear hfz23_1
      try clear hfz23_2
      try clear hfz5_0
      try clear hfz5_1
      try clear hfz5_2
      obtain ⟨kq, x34_10, rfl, HA, HJ10, HO_116002, BK101, BK115, HB⟩ := hcut
      cases kq with
      | zero => exact absurd HA.out (by simp [laws_FnExactIsUseful.j0])
      | succ kj10 =>
        have H := HA.out
        clear HA
        simp only [laws_FnExactIsUseful.j0] at H
        by_cases c27 : x34_10 = true
        · subst c27
          have H1 : (some false) = some r := by rw [if_pos rfl] at H; exact H
          clear H
          have H := H1
          clear H1
          obtain rfl := Option.some.inj H
          go_wp2
          go_ret
          exact ⟨by first | rfl | (simp [errW_none, errW_some] <;> rfl) | (simp [*, errW_none, errW_some] <;> rfl), by repeat (first | (with_reducible first | exact HB.out | apply below_alloc | apply pw_below_drewN | apply below_drew1 | refine below_set ?_ GE101.out | refine below_set ?_ GE115.out) | exact HB.out)⟩
        · replace c27 := Bool.eq_false_iff.mpr c27
          subst c27
          have H1 : ((laws_toGrammar.f kj10 a0_0 a0_1 l0_2).bind fun bt118 => ((laws_eqGrammar.f kj10 t110 t111 t112 bt118.1 bt118.2.1 bt118.2.2).bind fun t123 => (if t123 = true then (some true) else (some false)))) = some r := by rw [if_neg (show ¬ (false = true) by decide)] at H; exact H
          clear H
          have H := H1
          clear H1
          replace H := Option.bind_eq_some_iff.mp H
          obtain ⟨⟨t118, t119, t120⟩, A280, H⟩ := H
          replace H : ((laws_eqGrammar.f kj10 t110 t111 t112 t118 t119 t120).bind fun t123 => (if t123 = true then (some true) else (some false))) = some r := H
          have A28 := Aside0.mk A280
          clear A280
          replace H := Option.bind_eq_some_iff.mp H
          obtain ⟨t123, A290, H⟩ := H
          replace H : (if t123 = true then (some true) else (some false)) = some r := H
          have A29 := Aside0.mk A290
          clear A290
          by_cases c30 : t123 = true
          · subst c30
            have H1 : (some true) = some r := by rw [if_pos rfl] at H; exact H
            clear H
            have H := H1
            clear H1
            obtain rfl := Option.some.inj H
            try go_wp2
            have n0_ := Aside0.mk (Kd.S_drew HO_116002.out)
            have n1_ := Aside0.mk (blk_drew BK101.out)
            have n2_ := Aside0.mk (blk_drew BK115.out)
            have n3_ := Aside0.mk (below_drew1 HB.out)
            clear HO_116002
            clear BK101
            clear BK115
            clear HB
            have HO_116002 := n0_
            have BK101 := n1_
            have BK115 := n2_
            have HB := n3_
            clear n0_ n1_ n2_ n3_
            refine start_ (n := 5) (S := fun w' => w'.cell? ⟨gb115, 0, none⟩ = some (.int .i64 t110) ∧ w'.cell? ⟨gb115, 1, none⟩ = some (.int .i64 t111) ∧ w'.cell? ⟨gb115, 2, none⟩ = some (.slice Ao24 t112.length co24) ∧ w'.cell? ⟨gb101, 0, none⟩ = some (.int .i64 a0_0) ∧ w'.cell? ⟨gb101, 1, none⟩ = some (.int .i64 a0_1) ∧ w'.cell? ⟨gb101, 2, none⟩ = some (.slice A0_2 l0_2.length c0_2)) (ds := []) #[false, false, false, false, false] (by kernel_rfl) rfl rfl ⟨(blk_cell BK115.out 0).trans rfl, (blk_cell BK115.out 1).trans rfl, (blk_cell BK115.out 2).trans rfl, (blk_cell BK101.out 0).trans rfl, (blk_cell BK101.out 1).trans rfl, (blk_cell BK101.out 2).trans rfl⟩ (fun hHeld => ?_)
            generalize wc.drew = w31 at HO_116002 BK101 BK115 HB hHeld ⊢
            refine take_ (i := 0) (N := some 35) (v := ?_) (a' := ?_) #[true, false, false, false, false] rfl rfl (by kernel_rfl) (fun _ _ _ h => h) (Or.inl ⟨by rfl, ?_⟩) hHeld ?_ ?_
            rotate_left
            · rintro w' ⟨s0, s1, s2, s3, s4, s5⟩
              go_simp
              with_reducible rfl
            rotate_left
            · simp only [Act.put, List.setIfInBounds_toArray, List.set_cons_zero, List.set_cons_succ, i64_w, i32_w]
              rfl
            refine take_ (i := 1) (N := some 36) (v := ?_) (a' := ?_) #[true, true, false, false, false] rfl rfl (by kernel_rfl) (fun _ _ _ h => h) (Or.inl ⟨by rfl, ?_⟩) hHeld ?_ ?_
            rotate_left
            · rintro w' ⟨s0, s1, s2, s3, s4, s5⟩
              go_simp
              with_reducible rfl
            rotate_left
            · simp only [Act.put, List.setIfInBounds_toArray, List.set_cons_zero, List.set_cons_succ, i64_w, i32_w]
              rfl
            refine one_ (i := 2) (N := some 37) #[true, true, true, false, false] rfl rfl (by kernel_rfl) (by decide) (fun K hK => ?_)
            refine goes_ Try.func13 (by kernel_rfl) rfl #[.agg #[.int .i64 a0_0, .int .i64 a0_1, .slice A0_2 l0_2.length c0_2]] (by rfl) rfl rfl (by (try simp only [List.map_toArray, List.map_cons, List.map_nil]); first | done | rfl | (simp only [List.length_drop, List.length_take]; rfl)) ?_
            with_reducible refine (laws_toGrammar.calls kj10 a0_0 a0_1 _ _ l0_2 t118 t119 t120 _ ?side1 ?side2 A28.out).mono ?_
            (case side1 => repeat (first | exact (Kd.C_below HR0_2.out HB.out) | (with_reducible refine Kd.C_alloc ?_ _) | (with_reducible refine Kd.C_drewN ?_ _) | (with_reducible refine Kd.C_drew ?_)))
            (case side2 => exact HC0_2.out)
            rintro e w32 ⟨v121, rfl, ho0, hb⟩
            refine ⟨_, rfl, ?_⟩
            have n0_ := Aside0.mk (Kd.S_elder' (by (with_reducible repeat (first | apply Kd.S_alloc | apply Kd.S_drewN | apply Kd.S_drew)); exact HO_116002.out) (Kd.S_base ho0) hb)
            have n1_ := Aside0.mk (Kd.S_lower (Kd.S_new' ho0 (Kd.S_lt (by (with_reducible repeat (first | apply Kd.S_alloc | apply Kd.S_drewN | apply Kd.S_drew)); exact HO_116002.out))) (below_size (by repeat (first | (with_reducible first | exact HB.out | apply below_alloc | apply pw_below_drewN | apply below_drew1 | refine below_set ?_ GE101.out | refine below_set ?_ GE115.out) | exact HB.out))))
            have n2_ := Aside0.mk (blk_below (g := gb101) (o := .cells #[.int .i64 a0_0, .int .i64 a0_1, .slice A0_2 l0_2.length c0_2] 24 (0, 0)) (by (with_reducible repeat (first | refine blk_drewN ?_ _ | refine blk_drew ?_ | refine blk_alloc ?_ _)); exact BK101.out) hb)
            have n3_ := Aside0.mk (blk_below (g := gb115) (o := .cells #[.int .i64 t110, .int .i64 t111, .slice Ao24 t112.length co24] 30 (0, 0)) (by (with_reducible repeat (first | refine blk_drewN ?_ _ | refine blk_drew ?_ | refine blk_alloc ?_ _)); exact BK115.out) hb)
            have n4_ := Aside0.mk (below_step (by repeat (first | (with_reducible first | exact HB.out | apply below_alloc | apply pw_below_drewN | apply below_drew1 | refine below_set ?_ GE101.out | refine below_set ?_ GE115.out) | exact HB.out)) hb)
            clear HO_116002
            clear BK101
            clear BK115
            clear HB
            have HO_116002 := n0_
            have HO122 := n1_
            have BK101 := n2_
            have BK115 := n3_
            have HB := n4_
            clear n0_ n1_ n2_ n3_ n4_
            (try clear hb)
            (try clear hb2)
            (try clear hk)
            (try clear hi)
            (try clear ho0)
            obtain ⟨Ao33, co33, eo33⟩ := Kd.S_slice HO122.out
            (first | subst eo33 | (injection eo33 with f1_ f2_ f3_; have f4_ := f1_.symm; have f5_ := f3_.symm; clear f1_ f2_ f3_; subst f4_; subst f5_))
            refine hK.out _ _ ⟨(blk_cell BK115.out 0).trans rfl, (blk_cell BK115.out 1).trans rfl, (blk_cell BK115.out 2).trans rfl, (blk_cell BK101.out 0).trans rfl, (blk_cell BK101.out 1).trans rfl, (blk_cell BK101.out 2).trans rfl⟩ (fun hHeld => ?_)
            clear hK K
            refine norm_ (a' := ?_) ?_ ?_
            rotate_left
            · show Act.put _ (some 37) _ = _
              simp only [Act.put, List.setIfInBounds_toArray, List.set_cons_zero, List.set_cons_succ, i64_w, i32_w]
              rfl
            refine one_ (i := 3) (N := some 38) #[true, true, true, true, false] rfl rfl (by kernel_rfl) (by decide) (fun K hK => ?_)
            refine goes_ Try.func15 (by kernel_rfl) rfl #[.agg #[.int .i64 t110, .int .i64 t111, .slice Ao24 t112.length co24], .agg #[.int .i64 t118, .int .i64 t119, .slice Ao33 t120.length co33]] (by rfl) rfl rfl (by (try simp only [List.map_toArray, List.map_cons, List.map_nil]); first | done | rfl | (simp only [List.length_drop, List.length_take]; rfl)) ?_
            with_reducible refine (laws_eqGrammar.calls kj10 t110 t111 _ _ t112 t118 t119 _ _ t120 true _ ?side1 ?side2 ?side3 ?side4 A29.out).mono ?_
            (case side1 => repeat (first | exact (Kd.S_reads' HO_116002.out).2.2 | (with_reducible refine Kd.C_alloc ?_ _) | (with_reducible refine Kd.C_drewN ?_ _) | (with_reducible refine Kd.C_drew ?_)))
            (case side2 => exact (Kd.S_reads' HO_116002.out).2.1)
            (case side3 => repeat (first | exact (Kd.S_reads' HO122.out).2.2 | (with_reducible refine Kd.C_alloc ?_ _) | (with_reducible refine Kd.C_drewN ?_ _) | (with_reducible refine Kd.C_drew ?_)))
            (case side4 => exact (Kd.S_reads' HO122.out).2.1)
            rintro e w34 ⟨rfl, hb⟩
            refine ⟨_, rfl, ?_⟩
            have n0_ := Aside0.mk (Kd.S_below (by (with_reducible repeat (first | apply Kd.S_alloc | apply Kd.S_drewN | apply Kd.S_drew)); exact HO_116002.out) hb)
            have n1_ := Aside0.mk (Kd.S_below (by (with_reducible repeat (first | apply Kd.S_alloc | apply Kd.S_drewN | apply Kd.S_drew)); exact HO122.out) hb)
            have n2_ := Aside0.mk (blk_below (g := gb101) (o := .cells #[.int .i64 a0_0, .int .i64 a0_1, .slice A0_2 l0_2.length c0_2] 24 (0, 0)) (by (with_reducible repeat (first | refine blk_drewN ?_ _ | refine blk_drew ?_ | refine blk_alloc ?_ _)); exact BK101.out) hb)
            have n3_ := Aside0.mk (blk_below (g := gb115) (o := .cells #[.int .i64 t110, .int .i64 t111, .slice Ao24 t112.length co24] 30 (0, 0)) (by (with_reducible repeat (first | refine blk_drewN ?_ _ | refine blk_drew ?_ | refine blk_alloc ?_ _)); exact BK115.out) hb)
            have n4_ := Aside0.mk (below_step (by repeat (first | (with_reducible first | exact HB.out | apply below_alloc | apply pw_below_drewN | apply below_drew1 | refine below_set ?_ GE101.out | refine below_set ?_ GE115.out) | exact HB.out)) hb)
            clear HO_116002
            clear HO122
            clear BK101
            clear BK115
            clear HB
            have HO_116002 := n0_
            have HO122 := n1_
            have BK101 := n2_
            have BK115 := n3_
            have HB := n4_
            clear n0_ n1_ n2_ n3_ n4_
            (try clear hb)
            (try clear hb2)
            (try clear hk)
            (try clear hi)
            refine hK.out _ _ ⟨(blk_cell BK115.out 0).trans rfl, (blk_cell BK115.out 1).trans rfl, (blk_cell BK115.out 2).trans rfl, (blk_cell BK101.out 0).trans rfl, (blk_cell BK101.out 1).trans rfl, (blk_cell BK101.out 2).trans rfl⟩ (fun hHeld => ?_)
            clear hK K
            refine norm_ (a' := ?_) ?_ ?_
            rotate_left
            · show Act.put _ (some 38) _ = _
              simp only [Act.put, List.setIfInBounds_toArray, List.set_cons_zero, List.set_cons_succ, i64_w, i32_w]
              rfl
            refine pure_ (i := 4) (N := some 39) (v := ?_) (a' := ?_) #[true, true, true, true, true] rfl rfl (by kernel_rfl) (fun _ _ _ h => h) (Or.inl ⟨by rfl, ?_⟩) ?_ ?_
            rotate_left
            · intro w'
              go_simp
              with_reducible rfl
            rotate_left
            · simp only [Act.put, List.setIfInBounds_toArray, List.set_cons_zero, List.set_cons_succ, i64_w, i32_w]
              rfl
            refine done_ (by kernel_rfl) ?_
            try go_wp2
            go_ret
            exact ⟨by first | rfl | (simp [errW_none, errW_some] <;> rfl) | (simp [*, errW_none, errW_some] <;> rfl), by repeat (first | (with_reducible first | exact HB.out | apply below_alloc | apply pw_below_drewN | apply below_drew1 | refine below_set ?_ GE101.out | refine below_set ?_ GE115.out) | exact HB.out)⟩
          · replace c30 := Bool.eq_false_iff.mpr c30
            subst c30
            have H1 : (some false) = some r := by rw [if_neg (show ¬ (false = true) by decide)] at H; exact H
            clear H
            have H := H1
            clear H1
            obtain rfl := Option.some.inj H
            try go_wp2
            have n0_ := Aside0.mk (Kd.S_drew HO_116002.out)
            have n1_ := Aside0.mk (blk_drew BK101.out)
            have n2_ := Aside0.mk (blk_drew BK115.out)
            have n3_ := Aside0.mk (below_drew1 HB.out)
            clear HO_116002
            clear BK101
            clear BK115
            clear HB
            have HO_116002 := n0_
            have BK101 := n1_
            have BK115 := n2_
            have HB := n3_
            clear n0_ n1_ n2_ n3_
            refine start_ (n := 5) (S := fun w' => w'.cell? ⟨gb115, 0, none⟩ = some (.int .i64 t110) ∧ w'.cell? ⟨gb115, 1, none⟩ = some (.int .i64 t111) ∧ w'.cell? ⟨gb115, 2, none⟩ = some (.slice Ao24 t112.length co24) ∧ w'.cell? ⟨gb101, 0, none⟩ = some (.int .i64 a0_0) ∧ w'.cell? ⟨gb101, 1, none⟩ = some (.int .i64 a0_1) ∧ w'.cell? ⟨gb101, 2, none⟩ = some (.slice A0_2 l0_2.length c0_2)) (ds := []) #[false, false, false, false, false] (by kernel_rfl) rfl rfl ⟨(blk_cell BK115.out 0).trans rfl, (blk_cell BK115.out 1).trans rfl, (blk_cell BK115.out 2).trans rfl, (blk_cell BK101.out 0).trans rfl, (blk_cell BK101.out 1).trans rfl, (blk_cell BK101.out 2).trans rfl⟩ (fun hHeld => ?_)
            generalize wc.drew = w35 at HO_116002 BK101 BK115 HB hHeld ⊢
            refine take_ (i := 0) (N := some 35) (v := ?_) (a' := ?_) #[true, false, false, false, false] rfl rfl (by kernel_rfl) (fun _ _ _ h => h) (Or.inl ⟨by rfl, ?_⟩) hHeld ?_ ?_
            rotate_left
            · rintro w' ⟨s0, s1, s2, s3, s4, s5⟩
              go_simp
              with_reducible rfl
            rotate_left
            · simp only [Act.put, List.setIfInBounds_toArray, List.set_cons_zero, List.set_cons_succ, i64_w, i32_w]
              rfl
            refine take_ (i := 1) (N := some 36) (v := ?_) (a' := ?_) #[true, true, false, false, false] rfl rfl (by kernel_rfl) (fun _ _ _ h => h) (Or.inl ⟨by rfl, ?_⟩) hHeld ?_ ?_
            rotate_left
            · rintro w' ⟨s0, s1, s2, s3, s4, s5⟩
              go_simp
              with_reducible rfl
            rotate_left
            · simp only [Act.put, List.setIfInBounds_toArray, List.set_cons_zero, List.set_cons_succ, i64_w, i32_w]
              rfl
            refine one_ (i := 2) (N := some 37) #[true, true, true, false, false] rfl rfl (by kernel_rfl) (by decide) (fun K hK => ?_)
            refine goes_ Try.func13 (by kernel_rfl) rfl #[.agg #[.int .i64 a0_0, .int .i64 a0_1, .slice A0_2 l0_2.length c0_2]] (by rfl) rfl rfl (by (try simp only [List.map_toArray, List.map_cons, List.map_nil]); first | done | rfl | (simp only [List.length_drop, List.length_take]; rfl)) ?_
            with_reducible refine (laws_toGrammar.calls kj10 a0_0 a0_1 _ _ l0_2 t118 t119 t120 _ ?side1 ?side2 A28.out).mono ?_
            (case side1 => repeat (first | exact (Kd.C_below HR0_2.out HB.out) | (with_reducible refine Kd.C_alloc ?_ _) | (with_reducible refine Kd.C_drewN ?_ _) | (with_reducible refine Kd.C_drew ?_)))
            (case side2 => exact HC0_2.out)
            rintro e w36 ⟨v121, rfl, ho0, hb⟩
            refine ⟨_, rfl, ?_⟩
            have n0_ := Aside0.mk (Kd.S_elder' (by (with_reducible repeat (first | apply Kd.S_alloc | apply Kd.S_drewN | apply Kd.S_drew)); exact HO_116002.out) (Kd.S_base ho0) hb)
            have n1_ := Aside0.mk (Kd.S_lower (Kd.S_new' ho0 (Kd.S_lt (by (with_reducible repeat (first | apply Kd.S_alloc | apply Kd.S_drewN | apply Kd.S_drew)); exact HO_116002.out))) (below_size (by repeat (first | (with_reducible first | exact HB.out | apply below_alloc | apply pw_below_drewN | apply below_drew1 | refine below_set ?_ GE101.out | refine below_set ?_ GE115.out) | exact HB.out))))
            have n2_ := Aside0.mk (blk_below (g := gb101) (o := .cells #[.int .i64 a0_0, .int .i64 a0_1, .slice A0_2 l0_2.length c0_2] 24 (0, 0)) (by (with_reducible repeat (first | refine blk_drewN ?_ _ | refine blk_drew ?_ | refine blk_alloc ?_ _)); exact BK101.out) hb)
            have n3_ := Aside0.mk (blk_below (g := gb115) (o := .cells #[.int .i64 t110, .int .i64 t111, .slice Ao24 t112.length co24] 30 (0, 0)) (by (with_reducible repeat (first | refine blk_drewN ?_ _ | refine blk_drew ?_ | refine blk_alloc ?_ _)); exact BK115.out) hb)
            have n4_ := Aside0.mk (below_step (by repeat (first | (with_reducible first | exact HB.out | apply below_alloc | apply pw_below_drewN | apply below_drew1 | refine below_set ?_ GE101.out | refine below_set ?_ GE115.out) | exact HB.out)) hb)
            clear HO_116002
            clear BK101
            clear BK115
            clear HB
            have HO_116002 := n0_
            have HO122 := n1_
            have BK101 := n2_
            have BK115 := n3_
            have HB := n4_
            clear n0_ n1_ n2_ n3_ n4_
            (try clear hb)
            (try clear hb2)
            (try clear hk)
            (try clear hi)
            (try clear ho0)
            obtain ⟨Ao37, co37, eo37⟩ := Kd.S_slice HO122.out
            (first | subst eo37 | (injection eo37 with f1_ f2_ f3_; have f4_ := f1_.symm; have f5_ := f3_.symm; clear f1_ f2_ f3_; subst f4_; subst f5_))
            refine hK.out _ _ ⟨(blk_cell BK115.out 0).trans rfl, (blk_cell BK115.out 1).trans rfl, (blk_cell BK115.out 2).trans rfl, (blk_cell BK101.out 0).trans rfl, (blk_cell BK101.out 1).trans rfl, (blk_cell BK101.out 2).trans rfl⟩ (fun hHeld => ?_)
            clear hK K
            refine norm_ (a' := ?_) ?_ ?_
            rotate_left
            · show Act.put _ (some 37) _ = _
              simp only [Act.put, List.setIfInBounds_toArray, List.set_cons_zero, List.set_cons_succ, i64_w, i32_w]
              rfl
            refine one_ (i := 3) (N := some 38) #[true, true, true, true, false] rfl rfl (by kernel_rfl) (by decide) (fun K hK => ?_)
            refine goes_ Try.func15 (by kernel_rfl) rfl #[.agg #[.int .i64 t110, .int .i64 t111, .slice Ao24 t112.length co24], .agg #[.int .i64 t118, .int .i64 t119, .slice Ao37 t120.length co37]] (by rfl) rfl rfl (by (try simp only [List.map_toArray, List.map_cons, List.map_nil]); first | done | rfl | (simp only [List.length_drop, List.length_take]; rfl)) ?_
            with_reducible refine (laws_eqGrammar.calls kj10 t110 t111 _ _ t112 t118 t119 _ _ t120 false _ ?side1 ?side2 ?side3 ?side4 A29.out).mono ?_
            (case side1 => repeat (first | exact (Kd.S_reads' HO_116002.out).2.2 | (with_reducible refine Kd.C_alloc ?_ _) | (with_reducible refine Kd.C_drewN ?_ _) | (with_reducible refine Kd.C_drew ?_)))
            (case side2 => exact (Kd.S_reads' HO_116002.out).2.1)
            (case side3 => repeat (first | exact (Kd.S_reads' HO122.out).2.2 | (with_reducible refine Kd.C_alloc ?_ _) | (with_reducible refine Kd.C_drewN ?_ _) | (with_reducible refine Kd.C_drew ?_)))
            (case side4 => exact (Kd.S_reads' HO122.out).2.1)
            rintro e w38 ⟨rfl, hb⟩
            refine ⟨_, rfl, ?_⟩
            have n0_ := Aside0.mk (Kd.S_below (by (with_reducible repeat (first | apply Kd.S_alloc | apply Kd.S_drewN | apply Kd.S_drew)); exact HO_116002.out) hb)
            have n1_ := Aside0.mk (Kd.S_below (by (with_reducible repeat (first | apply Kd.S_alloc | apply Kd.S_drewN | apply Kd.S_drew)); exact HO122.out) hb)
            have n2_ := Aside0.mk (blk_below (g := gb101) (o := .cells #[.int .i64 a0_0, .int .i64 a0_1, .slice A0_2 l0_2.length c0_2] 24 (0, 0)) (by (with_reducible repeat (first | refine blk_drewN ?_ _ | refine blk_drew ?_ | refine blk_alloc ?_ _)); exact BK101.out) hb)
            have n3_ := Aside0.mk (blk_below (g := gb115) (o := .cells #[.int .i64 t110, .int .i64 t111, .slice Ao24 t112.length co24] 30 (0, 0)) (by (with_reducible repeat (first | refine blk_drewN ?_ _ | refine blk_drew ?_ | refine blk_alloc ?_ _)); exact BK115.out) hb)
            have n4_ := Aside0.mk (below_step (by repeat (first | (with_reducible first | exact HB.out | apply below_alloc | apply pw_below_drewN | apply below_drew1 | refine below_set ?_ GE101.out | refine below_set ?_ GE115.out) | exact HB.out)) hb)
            clear HO_116002
            clear HO122
            clear BK101
            clear BK115
            clear HB
            have HO_116002 := n0_
            have HO122 := n1_
            have BK101 := n2_
            have BK115 := n3_
            have HB := n4_
            clear n0_ n1_ n2_ n3_ n4_
            (try clear hb)
            (try clear hb2)
            (try clear hk)
            (try clear hi)
            refine hK.out _ _ ⟨(blk_cell BK115.out 0).trans rfl, (blk_cell BK115.out 1).trans rfl, (blk_cell BK115.out 2).trans rfl, (blk_cell BK101.out 0).trans rfl, (blk_cell BK101.out 1).trans rfl, (blk_cell BK101.out 2).trans rfl⟩ (fun hHeld => ?_)
            clear hK K
            refine norm_ (a' := ?_) ?_ ?_
            rotate_left
            · show Act.put _ (some 38) _ = _
              simp only [Act.put, List.setIfInBounds_toArray, List.set_cons_zero, List.set_cons_succ, i64_w, i32_w]
              rfl
            refine pure_ (i := 4) (N := some 39) (v := ?_) (a' := ?_) #[true, true, true, true, true] rfl rfl (by kernel_rfl) (fun _ _ _ h => h) (Or.inl ⟨by rfl, ?_⟩) ?_ ?_
            rotate_left
            · intro w'
              go_simp
              with_reducible rfl
            rotate_left
            · simp only [Act.put, List.setIfInBounds_toArray, List.set_cons_zero, List.set_cons_succ, i64_w, i32_w]
              rfl
            refine done_ (by kernel_rfl) ?_
            try go_wp2
            go_ret
            exact ⟨by first | rfl | (simp [errW_none, errW_some] <;> rfl) | (simp [*, errW_none, errW_some] <;> rfl), by repeat (first | (with_reducible first | exact HB.out | apply below_alloc | apply pw_below_drewN | apply below_drew1 | refine below_set ?_ GE101.out | refine below_set ?_ GE115.out) | exact HB.out)⟩
end Go.Proofs.Ytohbdjdjjbieeaa.P
namespace Go.Proofs.Ytohbdjdjjbieeaa.P
open Go.RowKit Go.Proofs.YtohbdjdjjbieeaaW.PrintWords
set_option linter.unusedSimpArgs false
theorem pure_IsUseful (a0 a1 : Int) (l : List S47) (hs : smallI l) : ∃ r : Bool × Bool, Ev (fun k => spec_IsUseful.f k a0 a1 l) r ∧ impl_IsUseful.f a0 a1 l = some r := by
  obtain ⟨K, h⟩ := spec_GoodGrammar_ev a0 a1 l hs
  dsimp only at h
  cases hg : goodG a0 a1 l with
  | true =>
    obtain ⟨K2, h2⟩ := l3Useful_ev a0 a1 l (goodG_okL hg)
    dsimp only at h2
    refine ⟨(((usefulF l).length : Int) == (l.length : Int), true), ⟨K + K2, fun k hk => ?_⟩, ?_⟩
    · dsimp only
      unfold spec_IsUseful.f
      rw [h k (by omega), hg]; simp only [Option.bind_some]
      rw [if_pos trivial, h2 k (by omega)]; simp only [Option.bind_some]
    · unfold impl_IsUseful.f
      rw [hg, if_pos rfl]
  | false =>
    refine ⟨(false, false), ⟨K, fun k hk => ?_⟩, ?_⟩
    · dsimp only
      unfold spec_IsUseful.f
      rw [h k hk, hg]; rfl
    · unfold impl_IsUseful.f
      rw [hg]; rfl
theorem holds_FnExactIsUseful (w : World) (a0_0 a0_1 : Int) (A0_2 : Option Addr) (c0_2 : Nat) (l0_2 : List S62) (hr : Kd.C k62 w A0_2 l0_2.length l0_2) (hc : l0_2.length ≤ c0_2) :
    Calls Try.prog 8 #[.agg #[.int .i64 a0_0, .int .i64 a0_1, .slice A0_2 l0_2.length c0_2]] w fun e w' => e = .returned (.bool true) ∧ Below w.heap.size w w' := by
  obtain ⟨hl, hri⟩ := reads_small hr
  obtain ⟨t, ⟨K0, hz⟩, hsm⟩ := szGrammar_ev a0_0 a0_1 l0_2 hl hri
  dsimp only at hz
  have key : ∃ k, laws_FnExactIsUseful.f k a0_0 a0_1 l0_2 = some true := by
    by_cases ht : t < 0
    · refine ⟨K0, ?_⟩
      unfold laws_FnExactIsUseful.f
      rw [hz K0 (Nat.le_refl _)]; simp only [Option.bind_some]; rw [if_pos ht]
    · have hs := hsm (by omega)
      obtain ⟨K1, h1⟩ := toGrammar_ev a0_0 a0_1 l0_2 hs
      obtain ⟨r, ⟨K2, h2⟩, h4⟩ := pure_IsUseful a0_0 a0_1 (convs l0_2) (smallI_convs hs)
      obtain ⟨K3, h3⟩ := eqGrammar_ev a0_0 a0_1 (convs l0_2) (smallI_convs hs)
      dsimp only at h1 h2 h3
      refine ⟨K0 + K1 + K2 + K3 + 1, ?_⟩
      unfold laws_FnExactIsUseful.f
      rw [hz _ (by omega)]; simp only [Option.bind_some]
      rw [if_neg ht, h1 _ (by omega)]; simp only [Option.bind_some]
      rw [h2 _ (by omega)]; simp only [Option.bind_some]
      rw [h4]; simp only [Option.bind_some]
      rw [if_neg (by simp), show (r.2 != r.2) = false by simp]
      simp only [laws_FnExactIsUseful.j0]
      rw [if_neg (by simp), h1 _ (by omega)]; simp only [Option.bind_some]
      rw [h3 _ (by omega)]; rfl
  obtain ⟨k, h⟩ := key
  exact laws_FnExactIsUseful.calls k a0_0 a0_1 A0_2 c0_2 l0_2 true w hr hc h
end Go.Proofs.Ytohbdjdjjbieeaa.P
namespace Go.Proofs.Ytohbdjdjjbieeaa.fnExactIsUseful
open Go.ChangeShapes Go.WideShapes Go.ChangeAt Go.RowKit
open Go.ChangeMaps (open_string shut_string)
set_option linter.unusedVariables false
theorem own : ownKnob Try.prog.godebug = none := by kernel_rfl
theorem laidOut : laidOutB Try.prog = true := by kernel_rfl
set_option maxRecDepth 100000 in
theorem lifted (os : Os) (started : os.Started) (H : Type) (enc : TypeId × Value → H) :
    ReturnsInHanded {} Try.checked os 8 .any (Rows.fnExactIsUsefulSpec.pre6 enc Try.prog Try.f8 Rows.fnExactIsUsefulRow.domain false) (Rows.fnExactIsUsefulSpec.post enc Try.prog Try.f8 false true false false) := by
  refine returnsInHanded_of_change_sized (C := Try.checked) own started (by kernel_rfl) Try.func8
    (ChangeSpec.witness6 (enc := enc) (C := Try.checked) false ⟨#[], #[.agg #[.int .i64 0, .int .i64 0, .slice none 0 0]], []⟩ 8 (by kernel_rfl) (by kernel_rfl) (by kernel_rfl) (by kernel_rfl)) ?_
  intro W base args ds gs before hval0 hW hcnd hsz0 _
  have hval : ∀ (j : Nat) t v, Try.f8.params[j]? = some t → args[j]? = some v → Value.okWide Try.prog W .any base t v := hval0
  have hW' := hW
  obtain ⟨p, q, hA0, hV, rfl, hfz, hnd⟩ := hW
  have hA : DataW.TrodAll enc Try.prog W 0 (fun _ => true) true Try.f8.params.toList args.toList ds p := hA0
  rw [Try.params8] at hA hval
  obtain ⟨v0, vs0, d0, ds0, p0, q0, hargs, rfl, rfl, h0, r0⟩ := trodAll_cons hA
  obtain ⟨rfl, rfl, rfl⟩ := trodAll_nil r0
  obtain rfl : args = #[v0] := by cases args; simp_all
  obtain ⟨rfl, rfl⟩ := trodVars_none hV
  have lt0 : ∀ x ∈ p0, x.block < W.heap.size := by obtain ⟨m, hm⟩ := h0; exact DataW.trod_lt m _ _ _ hm
  have k0 := h0
  obtain ⟨a0_0, a0_1, A0_2, c0_2, l0_2, rfl, hc0_2, hr0_2⟩ := Open.open_grammar (hval 0 24 v0 rfl rfl) h0
  clear hA0 hval0 hsz0
  refine (P.holds_FnExactIsUseful W a0_0 a0_1 A0_2 c0_2 l0_2 hr0_2 hc0_2).mono fun e W' ⟨he, bel⟩ => ?_
  subst he
  exact ⟨_, rfl, _, _, _, [], _, [], hW', trodAll_mk1 (shut_bool Try.underlying4 _), (trodAll_cons_mk (Below.trod laidOut (by kernel_rfl) (of_decide_eq_true (by kernel_rfl)) k0 bel lt0) trodAll_mk0), rfl, bel.frame _, fun h => by cases h⟩
theorem over : Rows.fnExactIsUsefulRow.holds Try.pinned (OpenSpec.ofChange Rows.fnExactIsUsefulSpec) :=
  OpenClaim.holds_of_wide 8 Try.f8 rfl rfl rfl rfl rfl rfl rfl ⟨rfl, rfl, rfl, rfl, rfl⟩ rfl rfl rfl rfl rfl (by kernel_rfl) Try.func8 (by kernel_rfl)
    (of_decide_eq_true (by kernel_rfl)) (by unfold Func.isWrapper; first | (rw [if_pos (by decide +kernel)]; kernel_rfl) | (rw [if_neg (by decide +kernel)]; exact ⟨rfl, rfl⟩))
    (fun os started H enc _ => lifted os started H enc)
theorem proved : Rows.FnExactIsUsefulSaid := over
#print axioms proved
end Go.Proofs.Ytohbdjdjjbieeaa.fnExactIsUseful
namespace Go.Proofs.Ytohbdjdjjbieeaa
theorem fnExactIsUseful_holds : Rows.FnExactIsUsefulSaid := fnExactIsUseful.proved
end Go.Proofs.Ytohbdjdjjbieeaa
