/- Proved: for all arguments UsefulOf of the program returns what UsefulOf of the reference returns; it leaves its arguments as they were, and shares no memory. No condition. -/
import Derived.Below
import Derived.Deep.Draws
import Derived.Deep.AppendLies
import Derived.Maps.AppendAt
import Derived.OwnWalk
import Derived.Laws.BytesArg
import Derived.Laws.MakeOwn
import Derived.Laws.OwnMore
import Derived.Deep.OwnRows
import Derived.Tactics
import Derived.Lib.ConvBytes
import Derived.Laws.Slices
import Derived.WalkKit
import Derived.KernelRfl
import Derived.RowKit3
import Derived.Deep.LoopGhost
import Derived.Deep.QuietTactic
import Derived.BigQuiet
import Derived.WideLaws
import Derived.Deep.DeepCutAuto
import Derived.Deep.CutBlock
import Derived.Deep.RegionHeld3
import Derived.Laws.Rows
import Derived.Lib.AppendStr
import Derived.ArgAppend
import Derived.Laws.IdiomCopy
import Derived.RowKit
import Derived.OrdersHeld
import Derived.Laws.BitsLemmas
import Derived.Laws.StructEq
import Derived.Test.YtekoclhnfhbmeaaProg
import Derived.Shelf.Abstract
import Derived.Lib.SliceRun
import Derived.Orders
import Derived.DataReads
import Derived.Deep.Slices
import Derived.OpenShut
import Derived.Test.YtekoclhnfhbmeaaRows
import Derived.ProofKit
import Derived.ShutString
import Derived.ChangeOld
import Derived.SizedLaws
import Derived.Test.YtekoclhnfhbmeaaTFnExactUsefulOfp6
namespace Go.Proofs.Ytekoclhnfhbmeaa.P
open Go.RowKit Go.Proofs.YtekoclhnfhbmeaaW.PrintWords Go.Proofs.YtekoclhnfhbmeaaW.PrintLast Go.Proofs.YtekoclhnfhbmeaaW.PrintMore
attribute [local go_sem] max2_int min2_int max_two min_two max_three min_three max_four min_four
set_option linter.unusedVariables false
set_option linter.unusedSimpArgs false
def impl_copyGrammar.l0 : Nat → List (S87) → Int → Int → Int → Int → List (S87) → Option (Int × Int × (List (S87)))
  | 0, _, _, _, _, _, _ => none
  | k + 1, x12, x13, x14, x104000, x104001, x104002 => if x14 < x13 then (if 0 ≤ x14 then (if x14 < (x12.length : Int) then ((some (([] : List Int) : List Int)).bind fun y106 => (if y106.length + ((rd_T87 x12 x14).f1).length < 17592186044416 then (if x104002.length < 4398046511104 then (impl_copyGrammar.l0 k x12 x13 (wrap64 (x14 + 1)) x104000 x104001 (x104002 ++ [(⟨(rd_T87 x12 x14).f0, (y106 ++ ((rd_T87 x12 x14).f1))⟩ : S87)])) else (none)) else (none))) else (none)) else (none)) else (some (x104000, x104001, x104002))
def impl_copyGrammar.f (k : Nat) (a0_0 : Int) (a0_1 : Int) (l0_2 : List (S87)) : Option (Int × Int × (List (S87))) := impl_copyGrammar.l0 k l0_2 (l0_2.length : Int) 0 a0_0 a0_1 ([] : List (S87))
def impl_copyGrammar.T5 : Bool × List (List Nat × List Nat) := (true, [([], []), ([0], [0]), ([], []), ([2], [2]), ([], []), ([], []), ([5], [5]), ([4, 6], [4, 6]), ([3, 7], [3, 7]), ([8], [8]), ([1, 9, 7], [1, 9]), ([0, 1, 2, 3, 4, 5, 6, 7, 8, 9, 10], []), ([11, 10, 10, 0, 1, 2, 3, 4, 5, 6, 7, 8, 9, 10], [10, 11])])
def impl_copyGrammar.B5 : List Nat := [0, 1, 0, 4, 0, 0, 32, 112, 252, 508, 1023, 2047, 4095]
theorem impl_copyGrammar.tab5 : rtab .any (opsOf Try.f81 5) = impl_copyGrammar.T5 := by kernel_rfl
theorem impl_copyGrammar.bits5 : waitsOk impl_copyGrammar.T5.2 impl_copyGrammar.B5 = true := by kernel_rfl
set_option maxHeartbeats 8000000 in
set_option maxRecDepth 100000 in
theorem impl_copyGrammar.calls (k : Nat) (a0_0 : Int) (a0_1 : Int) (A0_2 : Option Addr) (c0_2 : Nat) (l0_2 : List (S87)) (r1 : Int) (r2 : Int) (r3 : List (S87)) (w : World) (hr0_2 : Kd.C k87 w A0_2 l0_2.length l0_2) (hc0_2 : l0_2.length ≤ c0_2) (h : impl_copyGrammar.f k a0_0 a0_1 l0_2 = some (r1, r2, r3)) :
    Calls Try.prog 81 #[.agg #[.int .i64 a0_0, .int .i64 a0_1, .slice A0_2 l0_2.length c0_2]] w fun e w' => ∃ v2_ : Value, e = .returned (.agg #[.int .i64 r1, .int .i64 r2, v2_]) ∧ Kd.S k87 87 w' w.heap.size (fun _ => True) v2_ r3 ∧ Below w.heap.size w w' := by
  have hu28 := Try.underlying28
  have hu87 := Try.underlying87
  have HR0_2 := Aside0.mk hr0_2
  have HC0_2 := Aside0.mk hc0_2
  clear hr0_2 hc0_2
  have HB := Aside0.mk (Below.refl w.heap.size w)
  have H : (impl_copyGrammar.l0 k l0_2 (l0_2.length : Int) 0 a0_0 a0_1 ([] : List (S87))) = some (r1, r2, r3) := h
  clear h
  have H' := Aside0.mk H
  clear H
  go_enter Try.func81, Try.ntmps81
  go_wp2_with (first | ((with_reducible refine gate_dst (N := 1) rfl ?_); refine box_event ?hg (N := 1) ?hd (cs := #[.int .i64 a0_0, .int .i64 a0_1, .slice A0_2 l0_2.length c0_2]) (t := 28) ?hr ?_; (case hd => rfl); (case hg => rfl); (case hr => first | (go_simp; done) | (go_simp; rfl)); intro gb101 hg w2 hbox hb; have n0_ := Aside0.mk (below_step (by repeat (first | (with_reducible first | exact HB.out | apply below_alloc | apply pw_below_drewN | apply below_drew1) | exact HB.out)) hb); have n1_ := Aside0.mk (hbox); have n2_ := Aside0.mk ((by rw [hg]; exact (below_size (by repeat (first | (with_reducible first | exact HB.out | apply below_alloc | apply pw_below_drewN | apply below_drew1) | exact HB.out))) : w.heap.size ≤ gb101)); have n3_ := Aside0.mk ((by rw [hg]; exact (below_size (by repeat (first | (with_reducible first | exact HB.out | apply below_alloc | apply pw_below_drewN | apply below_drew1) | exact HB.out))) : w.heap.size ≤ gb101)); clear HB; have HB := n0_; have BK101 := n1_; have GW101 := n2_; have GE101 := n3_; clear n0_ n1_ n2_ n3_; clear hb hbox hg) | ((with_reducible refine gate_dst (N := 2) rfl ?_); refine box_event ?hg (N := 2) ?hd (cs := #[.int .i64 0, .int .i64 0, .slice none 0 0]) (t := 28) ?hr ?_; (case hd => rfl); (case hg => rfl); (case hr => first | (go_simp; done) | (go_simp; rfl)); intro gb102 hg w3 hbox hb; have n0_ := Aside0.mk (blk_below (g := gb101) (o := .cells #[.int .i64 a0_0, .int .i64 a0_1, .slice A0_2 l0_2.length c0_2] 28 (0, 0)) (by (with_reducible repeat (first | refine blk_drewN ?_ _ | refine blk_drew ?_ | refine blk_alloc ?_ _)); exact BK101.out) hb); have n1_ := Aside0.mk (below_step (by repeat (first | (with_reducible first | exact HB.out | apply below_alloc | apply pw_below_drewN | apply below_drew1 | refine below_set ?_ GE101.out) | exact HB.out)) hb); have n2_ := Aside0.mk (hbox); have n3_ := Aside0.mk ((by rw [hg]; exact (below_size (by repeat (first | (with_reducible first | exact HB.out | apply below_alloc | apply pw_below_drewN | apply below_drew1 | refine below_set ?_ GE101.out) | exact HB.out))) : w.heap.size ≤ gb102)); have n4_ := Aside0.mk ((by rw [hg]; exact (below_size (by repeat (first | (with_reducible first | exact HB.out | apply below_alloc | apply pw_below_drewN | apply below_drew1 | refine below_set ?_ GE101.out) | exact HB.out))) : w.heap.size ≤ gb102)); have n5_ := Aside0.mk ((by rw [hg]; exact Nat.ne_of_lt (blk_lt (g := gb101) (o := .cells #[.int .i64 a0_0, .int .i64 a0_1, .slice A0_2 l0_2.length c0_2] 28 (0, 0)) (by (with_reducible repeat (first | refine blk_drewN ?_ _ | refine blk_drew ?_ | refine blk_alloc ?_ _)); exact BK101.out)) : gb101 ≠ gb102)); have n6_ := Aside0.mk ((by rw [hg]; exact Nat.ne_of_gt (blk_lt (g := gb101) (o := .cells #[.int .i64 a0_0, .int .i64 a0_1, .slice A0_2 l0_2.length c0_2] 28 (0, 0)) (by (with_reducible repeat (first | refine blk_drewN ?_ _ | refine blk_drew ?_ | refine blk_alloc ?_ _)); exact BK101.out)) : gb102 ≠ gb101)); clear BK101; clear HB; have BK101 := n0_; have HB := n1_; have BK102 := n2_; have GW102 := n3_; have GE102 := n4_; have NB101_102 := n5_; have NB102_101 := n6_; clear n0_ n1_ n2_ n3_ n4_ n5_ n6_; clear hb hbox hg; have hnb4 := NB101_102.out; have hnc4 := NB102_101.out; have hcz5_0 : w3.cell? ⟨gb101, 0, none⟩ = some (.int .i64 a0_0) := (blk_cell BK101.out 0).trans rfl; have hcz5_1 : w3.cell? ⟨gb101, 1, none⟩ = some (.int .i64 a0_1) := (blk_cell BK101.out 1).trans rfl; have hcz5_2 : w3.cell? ⟨gb101, 2, none⟩ = some (.slice A0_2 l0_2.length c0_2) := (blk_cell BK101.out 2).trans rfl; have hfz5_0 := blk_frozen BK101.out 0; have hfz5_1 := blk_frozen BK101.out 1; have hfz5_2 := blk_frozen BK101.out 2) | ((with_reducible refine gate_dst (N := 3) rfl ?_); refine box_event ?hg (N := 3) ?hd (cs := #[.int .i64 0, .int .i64 0, .slice none 0 0]) (t := 28) ?hr ?_; (case hd => rfl); (case hg => rfl); (case hr => first | (go_simp; done) | (go_simp; rfl)); intro gb103 hg w6 hbox hb; have n0_ := Aside0.mk (blk_below (g := gb101) (o := .cells #[.int .i64 a0_0, .int .i64 a0_1, .slice A0_2 l0_2.length c0_2] 28 (0, 0)) (by (with_reducible repeat (first | refine blk_drewN ?_ _ | refine blk_drew ?_ | refine blk_alloc ?_ _)); exact BK101.out) hb); have n1_ := Aside0.mk (blk_below (g := gb102) (o := .cells #[.int .i64 0, .int .i64 0, .slice none 0 0] 28 (0, 0)) (by (with_reducible repeat (first | refine blk_drewN ?_ _ | refine blk_drew ?_ | refine blk_alloc ?_ _)); exact BK102.out) hb); have n2_ := Aside0.mk (below_step (by repeat (first | (with_reducible first | exact HB.out | apply below_alloc | apply pw_below_drewN | apply below_drew1 | refine below_set ?_ GE101.out | refine below_set ?_ GE102.out) | exact HB.out)) hb); have n3_ := Aside0.mk (hbox); have n4_ := Aside0.mk ((by rw [hg]; exact (below_size (by repeat (first | (with_reducible first | exact HB.out | apply below_alloc | apply pw_below_drewN | apply below_drew1 | refine below_set ?_ GE101.out | refine below_set ?_ GE102.out) | exact HB.out))) : w.heap.size ≤ gb103)); have n5_ := Aside0.mk ((by rw [hg]; exact (below_size (by repeat (first | (with_reducible first | exact HB.out | apply below_alloc | apply pw_below_drewN | apply below_drew1 | refine below_set ?_ GE101.out | refine below_set ?_ GE102.out) | exact HB.out))) : w.heap.size ≤ gb103)); have n6_ := Aside0.mk ((by rw [hg]; exact Nat.ne_of_lt (blk_lt (g := gb101) (o := .cells #[.int .i64 a0_0, .int .i64 a0_1, .slice A0_2 l0_2.length c0_2] 28 (0, 0)) (by (with_reducible repeat (first | refine blk_drewN ?_ _ | refine blk_drew ?_ | refine blk_alloc ?_ _)); exact BK101.out)) : gb101 ≠ gb103)); have n7_ := Aside0.mk ((by rw [hg]; exact Nat.ne_of_gt (blk_lt (g := gb101) (o := .cells #[.int .i64 a0_0, .int .i64 a0_1, .slice A0_2 l0_2.length c0_2] 28 (0, 0)) (by (with_reducible repeat (first | refine blk_drewN ?_ _ | refine blk_drew ?_ | refine blk_alloc ?_ _)); exact BK101.out)) : gb103 ≠ gb101)); have n8_ := Aside0.mk ((by rw [hg]; exact Nat.ne_of_lt (blk_lt (g := gb102) (o := .cells #[.int .i64 0, .int .i64 0, .slice none 0 0] 28 (0, 0)) (by (with_reducible repeat (first | refine blk_drewN ?_ _ | refine blk_drew ?_ | refine blk_alloc ?_ _)); exact BK102.out)) : gb102 ≠ gb103)); have n9_ := Aside0.mk ((by rw [hg]; exact Nat.ne_of_gt (blk_lt (g := gb102) (o := .cells #[.int .i64 0, .int .i64 0, .slice none 0 0] 28 (0, 0)) (by (with_reducible repeat (first | refine blk_drewN ?_ _ | refine blk_drew ?_ | refine blk_alloc ?_ _)); exact BK102.out)) : gb103 ≠ gb102)); clear BK101; clear BK102; clear HB; have BK101 := n0_; have BK102 := n1_; have HB := n2_; have BK103 := n3_; have GW103 := n4_; have GE103 := n5_; have NB101_103 := n6_; have NB103_101 := n7_; have NB102_103 := n8_; have NB103_102 := n9_; clear n0_ n1_ n2_ n3_ n4_ n5_ n6_ n7_ n8_ n9_; clear hb hbox hg; have hnb7 := NB103_101.out; have hnc7 := NB101_103.out; have hnb8 := NB103_102.out; have hnc8 := NB102_103.out; have hcz9_0 : w6.cell? ⟨gb103, 0, none⟩ = some (.int .i64 0) := (blk_cell BK103.out 0).trans rfl; have hcz9_1 : w6.cell? ⟨gb103, 1, none⟩ = some (.int .i64 0) := (blk_cell BK103.out 1).trans rfl; have hcz9_2 : w6.cell? ⟨gb103, 2, none⟩ = some (.slice none 0 0) := (blk_cell BK103.out 2).trans rfl; have hfz9_0 := blk_frozen BK103.out 0; have hfz9_1 := blk_frozen BK103.out 1; have hfz9_2 := blk_frozen BK103.out 2; have hcz10_0 : w6.cell? ⟨gb101, 0, none⟩ = some (.int .i64 a0_0) := (blk_cell BK101.out 0).trans rfl; have hcz10_1 : w6.cell? ⟨gb101, 1, none⟩ = some (.int .i64 a0_1) := (blk_cell BK101.out 1).trans rfl; have hcz10_2 : w6.cell? ⟨gb101, 2, none⟩ = some (.slice A0_2 l0_2.length c0_2) := (blk_cell BK101.out 2).trans rfl; have hfz10_0 := blk_frozen BK101.out 0; have hfz10_1 := blk_frozen BK101.out 1; have hfz10_2 := blk_frozen BK101.out 2))
  go_loopg [14] k (fun kq v14 w' => ∃ (x14_1 : Int) (x104002_1 : List (S87)) (u104002 : Value), v14 = .int .i64 x14_1 ∧ Aside0 (impl_copyGrammar.l0 kq l0_2 (l0_2.length : Int) x14_1 a0_0 a0_1 x104002_1 = some (r1, r2, r3)) ∧ Aside0 (kq ≤ k) ∧ Aside0 (Kd.S k87 87 w' w.heap.size (fun _ => True) u104002 x104002_1) ∧ Aside0 (w'.heap[gb101]? = some (.cells #[.int .i64 a0_0, .int .i64 a0_1, (.slice A0_2 l0_2.length c0_2)] 28 (0, 0))) ∧ Aside0 (w'.heap[gb102]? = some (.cells #[.int .i64 0, .int .i64 0, (.slice none 0 0)] 28 (0, 0))) ∧ Aside0 (w'.heap[gb103]? = some (.cells #[.int .i64 a0_0, .int .i64 a0_1, u104002] 28 (0, 0))) ∧ Aside0 (Below w.heap.size w w'))
  case atStart => exact ⟨(0), (([] : List (S87))), (.slice none 0 0), (by first | rfl | (simp; done) | (simp [*]; done)), H', ⟨Nat.le_refl _⟩, ⟨by first | exact Kd.S_nil _ _ _ _ _ | exact Kd.N_nil _ _ _ _ _ | exact Kd.V_nil _ _ _ _ _ | exact Kd.Q_nil _ _ _ _ _ | exact Kd.R_nil _ _ _ _ _⟩, ⟨by (with_reducible repeat (first | refine blk_drewN ?_ _ | refine blk_drew ?_ | refine blk_alloc ?_ _)); refine blk_far ?_ NB101_103.out _; (with_reducible repeat (first | refine blk_drewN ?_ _ | refine blk_drew ?_ | refine blk_alloc ?_ _)); refine blk_far ?_ NB101_103.out _; (with_reducible repeat (first | refine blk_drewN ?_ _ | refine blk_drew ?_ | refine blk_alloc ?_ _)); refine blk_far ?_ NB101_103.out _; (with_reducible repeat (first | refine blk_drewN ?_ _ | refine blk_drew ?_ | refine blk_alloc ?_ _)); exact BK101.out⟩, ⟨by (with_reducible repeat (first | refine blk_drewN ?_ _ | refine blk_drew ?_ | refine blk_alloc ?_ _)); refine blk_far ?_ NB102_103.out _; (with_reducible repeat (first | refine blk_drewN ?_ _ | refine blk_drew ?_ | refine blk_alloc ?_ _)); refine blk_far ?_ NB102_103.out _; (with_reducible repeat (first | refine blk_drewN ?_ _ | refine blk_drew ?_ | refine blk_alloc ?_ _)); refine blk_far ?_ NB102_103.out _; (with_reducible repeat (first | refine blk_drewN ?_ _ | refine blk_drew ?_ | refine blk_alloc ?_ _)); exact BK102.out⟩, ⟨by (with_reducible repeat (first | refine blk_drewN ?_ _ | refine blk_drew ?_ | refine blk_alloc ?_ _)); refine blk_put (cs := #[.int .i64 a0_0, .int .i64 a0_1, .slice none 0 0]) ?_ 2 _ rfl; (with_reducible repeat (first | refine blk_drewN ?_ _ | refine blk_drew ?_ | refine blk_alloc ?_ _)); refine blk_put (cs := #[.int .i64 a0_0, .int .i64 0, .slice none 0 0]) ?_ 1 _ rfl; (with_reducible repeat (first | refine blk_drewN ?_ _ | refine blk_drew ?_ | refine blk_alloc ?_ _)); refine blk_put (cs := #[.int .i64 0, .int .i64 0, .slice none 0 0]) ?_ 0 _ rfl; (with_reducible repeat (first | refine blk_drewN ?_ _ | refine blk_drew ?_ | refine blk_alloc ?_ _)); exact BK103.out⟩, ⟨by repeat (first | (with_reducible first | exact HB.out | apply below_alloc | apply pw_below_drewN | apply below_drew1 | refine below_set ?_ GE101.out | refine below_set ?_ GE102.out | refine below_set ?_ GE103.out) | exact HB.out)⟩⟩
  case round =>
    clear H'
    try clear p2
    try clear c4
    try clear c7
    try clear c8
    try clear hcz10_0
    try clear hcz10_1
    try clear hcz10_2
    try clear hcz5_0
    try clear hcz5_1
    try clear hcz5_2
    try clear hcz9_0
    try clear hcz9_1
    try clear hcz9_2
    try clear hfz10_0
    try clear hfz10_1
    try clear hfz10_2
    try clear hfz5_0
    try clear hfz5_1
    try clear hfz5_2
    try clear hfz9_0
    try clear hfz9_1
    try clear hfz9_2
    obtain ⟨x14_1, x104002_1, u104002, rfl, HA, HK1, HO_104002, BK101, BK102, BK103, HB⟩ := hrel
    cases gk with
    | zero => exact absurd HA.out (by simp [impl_copyGrammar.l0])
    | succ k1 =>
      have H := HA.out
      clear HA
      simp only [impl_copyGrammar.l0] at H
      by_cases c11 : x14_1 < (l0_2.length : Int)
      · rw [if_pos c11] at H
        have c11b0 : decide (x14_1 < (l0_2.length : Int)) = true := decide_eq_true c11
        clear c11
        by_cases c12 : 0 ≤ x14_1
        · rw [if_pos c12] at H
          have c12b0 : decide (0 ≤ x14_1) = true := decide_eq_true c12
          clear c12
          by_cases c13 : x14_1 < (l0_2.length : Int)
          · rw [if_pos c13] at H
            have c13b0 : decide (x14_1 < (l0_2.length : Int)) = true := decide_eq_true c13
            clear c13
            obtain ⟨y106, hy106⟩ : ∃ y_ : List Int, y_ = (([] : List Int)) := ⟨_, rfl⟩
            replace H : (if y106.length + ((rd_T87 l0_2 x14_1).f1).length < 17592186044416 then (if x104002_1.length < 4398046511104 then (impl_copyGrammar.l0 k1 l0_2 (l0_2.length : Int) (wrap64 (x14_1 + 1)) a0_0 a0_1 (x104002_1 ++ [(⟨(rd_T87 l0_2 x14_1).f0, (y106 ++ ((rd_T87 l0_2 x14_1).f1))⟩ : S87)])) else (none)) else (none)) = some (r1, r2, r3) := by first | (rw [hy106]; with_reducible exact H) | (have H2_ := (Option.bind_some _ _).symm.trans H; rw [hy106]; with_reducible exact H2_) | (have H2_ := (Option.bind_some _ _).symm.trans H; with_reducible exact H2_) | with_reducible exact H | (rw [hy106]; exact H) | exact H
            have Ny106 := Aside0.mk hy106
            clear hy106
            by_cases c14 : y106.length + ((rd_T87 l0_2 x14_1).f1).length < 17592186044416
            · rw [if_pos c14] at H
              have LMc14 := Aside0.mk c14
              clear c14
              obtain ⟨y109, hy109⟩ : ∃ y_ : List Int, y_ = (y106 ++ ((rd_T87 l0_2 x14_1).f1)) := ⟨_, rfl⟩
              replace H : (if x104002_1.length < 4398046511104 then (impl_copyGrammar.l0 k1 l0_2 (l0_2.length : Int) (wrap64 (x14_1 + 1)) a0_0 a0_1 (x104002_1 ++ [(⟨(rd_T87 l0_2 x14_1).f0, y109⟩ : S87)])) else (none)) = some (r1, r2, r3) := by first | (rw [hy109]; with_reducible exact H) | (have H2_ := (Option.bind_some _ _).symm.trans H; rw [hy109]; with_reducible exact H2_) | (have H2_ := (Option.bind_some _ _).symm.trans H; with_reducible exact H2_) | with_reducible exact H | (rw [hy109]; exact H) | exact H
              have Ny109 := Aside0.mk hy109
              clear hy109
              by_cases c15 : x104002_1.length < 4398046511104
              · rw [if_pos c15] at H
                have LMc15 := Aside0.mk c15
                clear c15
                obtain ⟨y112, hy112⟩ : ∃ y_ : List (S87), y_ = (x104002_1 ++ [(⟨(rd_T87 l0_2 x14_1).f0, y109⟩ : S87)]) := ⟨_, rfl⟩
                replace H : (impl_copyGrammar.l0 k1 l0_2 (l0_2.length : Int) (wrap64 (x14_1 + 1)) a0_0 a0_1 y112) = some (r1, r2, r3) := by first | (rw [hy112]; with_reducible exact H) | (have H2_ := (Option.bind_some _ _).symm.trans H; rw [hy112]; with_reducible exact H2_) | (have H2_ := (Option.bind_some _ _).symm.trans H; with_reducible exact H2_) | with_reducible exact H | (rw [hy112]; exact H) | exact H
                have Ny112 := Aside0.mk hy112
                clear hy112
                have H' := Aside0.mk H
                clear H
                have p104 : 0 ≤ (x14_1 : Int) := of_decide_eq_true (by first | (with_reducible assumption) | assumption)
                have q104 : x14_1 < (l0_2.length : Int) := of_decide_eq_true (by first | (with_reducible assumption) | assumption)
                obtain ⟨ad104, A104_1, c104_1, e104, hx104_0, hx104_1, hl104_1, hi104_1⟩ := at_T87 HR0_2.out x14_1 p104 q104
                cases e104
                replace hx104_0 := (HB.out.cell (World.block_lt_of_cell? w _ hx104_0)).trans hx104_0
                replace hx104_1 := (HB.out.cell (World.block_lt_of_cell? w _ hx104_1)).trans hx104_1
                have HR104_1 := Aside0.mk hi104_1
                have HC104_1 := Aside0.mk hl104_1
                clear hi104_1 hl104_1
                replace p104 := eq_true p104
                replace q104 := eq_true q104
                try go_wp2_with (first | ((with_reducible refine gate_dst (N := 5) rfl ?_); refine box_event ?hg (N := 5) ?hd (cs := #[.int .i64 0, .slice none 0 0]) (t := 87) ?hr ?_; (case hd => rfl); (case hg => rfl); (case hr => first | (go_simp; done) | (go_simp; rfl)); intro gb105 hg w16 hbox hb; have n0_ := Aside0.mk (Kd.S_below (Kd.S_elderB (by (with_reducible repeat (first | apply Kd.S_alloc | apply Kd.S_drewN | apply Kd.S_drew)); exact HO_104002.out) gb105 (Nat.le_of_eq hg.symm)) hb); have n1_ := Aside0.mk (blk_below (g := gb101) (o := .cells #[.int .i64 a0_0, .int .i64 a0_1, .slice (some ad104) l0_2.length c0_2] 28 (0, 0)) (by (with_reducible repeat (first | refine blk_drewN ?_ _ | refine blk_drew ?_ | refine blk_alloc ?_ _)); exact BK101.out) hb); have n2_ := Aside0.mk (blk_below (g := gb102) (o := .cells #[.int .i64 0, .int .i64 0, .slice none 0 0] 28 (0, 0)) (by (with_reducible repeat (first | refine blk_drewN ?_ _ | refine blk_drew ?_ | refine blk_alloc ?_ _)); exact BK102.out) hb); have n3_ := Aside0.mk (blk_below (g := gb103) (o := .cells #[.int .i64 a0_0, .int .i64 a0_1, u104002] 28 (0, 0)) (by (with_reducible repeat (first | refine blk_drewN ?_ _ | refine blk_drew ?_ | refine blk_alloc ?_ _)); exact BK103.out) hb); have n4_ := Aside0.mk (below_step (by repeat (first | (with_reducible first | exact HB.out | apply below_alloc | apply pw_below_drewN | apply below_drew1 | refine below_set ?_ GE101.out | refine below_set ?_ GE102.out | refine below_set ?_ GE103.out) | exact HB.out)) hb); have n5_ := Aside0.mk (hbox); have n6_ := Aside0.mk ((by rw [hg]; exact (below_size (by repeat (first | (with_reducible first | exact HB.out | apply below_alloc | apply pw_below_drewN | apply below_drew1 | refine below_set ?_ GE101.out | refine below_set ?_ GE102.out | refine below_set ?_ GE103.out) | exact HB.out))) : w.heap.size ≤ gb105)); have n7_ := Aside0.mk ((by rw [hg]; exact (below_size (by repeat (first | (with_reducible first | exact HB.out | apply below_alloc | apply pw_below_drewN | apply below_drew1 | refine below_set ?_ GE101.out | refine below_set ?_ GE102.out | refine below_set ?_ GE103.out) | exact HB.out))) : w.heap.size ≤ gb105)); have n8_ := Aside0.mk ((by rw [hg]; exact Nat.ne_of_lt (blk_lt (g := gb101) (o := .cells #[.int .i64 a0_0, .int .i64 a0_1, .slice (some ad104) l0_2.length c0_2] 28 (0, 0)) (by (with_reducible repeat (first | refine blk_drewN ?_ _ | refine blk_drew ?_ | refine blk_alloc ?_ _)); exact BK101.out)) : gb101 ≠ gb105)); have n9_ := Aside0.mk ((by rw [hg]; exact Nat.ne_of_gt (blk_lt (g := gb101) (o := .cells #[.int .i64 a0_0, .int .i64 a0_1, .slice (some ad104) l0_2.length c0_2] 28 (0, 0)) (by (with_reducible repeat (first | refine blk_drewN ?_ _ | refine blk_drew ?_ | refine blk_alloc ?_ _)); exact BK101.out)) : gb105 ≠ gb101)); have n10_ := Aside0.mk ((by rw [hg]; exact Nat.ne_of_lt (blk_lt (g := gb102) (o := .cells #[.int .i64 0, .int .i64 0, .slice none 0 0] 28 (0, 0)) (by (with_reducible repeat (first | refine blk_drewN ?_ _ | refine blk_drew ?_ | refine blk_alloc ?_ _)); exact BK102.out)) : gb102 ≠ gb105)); have n11_ := Aside0.mk ((by rw [hg]; exact Nat.ne_of_gt (blk_lt (g := gb102) (o := .cells #[.int .i64 0, .int .i64 0, .slice none 0 0] 28 (0, 0)) (by (with_reducible repeat (first | refine blk_drewN ?_ _ | refine blk_drew ?_ | refine blk_alloc ?_ _)); exact BK102.out)) : gb105 ≠ gb102)); have n12_ := Aside0.mk ((by rw [hg]; exact Nat.ne_of_lt (blk_lt (g := gb103) (o := .cells #[.int .i64 a0_0, .int .i64 a0_1, u104002] 28 (0, 0)) (by (with_reducible repeat (first | refine blk_drewN ?_ _ | refine blk_drew ?_ | refine blk_alloc ?_ _)); exact BK103.out)) : gb103 ≠ gb105)); have n13_ := Aside0.mk ((by rw [hg]; exact Nat.ne_of_gt (blk_lt (g := gb103) (o := .cells #[.int .i64 a0_0, .int .i64 a0_1, u104002] 28 (0, 0)) (by (with_reducible repeat (first | refine blk_drewN ?_ _ | refine blk_drew ?_ | refine blk_alloc ?_ _)); exact BK103.out)) : gb105 ≠ gb103)); clear HO_104002; clear BK101; clear BK102; clear BK103; clear HB; have HO_104002 := n0_; have BK101 := n1_; have BK102 := n2_; have BK103 := n3_; have HB := n4_; have BK105 := n5_; have GW105 := n6_; have GE105 := n7_; have NB101_105 := n8_; have NB105_101 := n9_; have NB102_105 := n10_; have NB105_102 := n11_; have NB103_105 := n12_; have NB105_103 := n13_; clear n0_ n1_ n2_ n3_ n4_ n5_ n6_ n7_ n8_ n9_ n10_ n11_ n12_ n13_; clear hb hbox hg; have hnb17 := NB105_101.out; have hnc17 := NB101_105.out; have hnb18 := NB105_102.out; have hnc18 := NB102_105.out; have hnb19 := NB105_103.out; have hnc19 := NB103_105.out; have hcz20_0 : w16.cell? ⟨gb105, 0, none⟩ = some (.int .i64 0) := (blk_cell BK105.out 0).trans rfl; have hcz20_1 : w16.cell? ⟨gb105, 1, none⟩ = some (.slice none 0 0) := (blk_cell BK105.out 1).trans rfl; have hfz20_0 := blk_frozen BK105.out 0; have hfz20_1 := blk_frozen BK105.out 1))
                have n0_ : Aside0 (Kd.S k87 87 ((w16.setCell ⟨gb105, 0, none⟩ (.int .i64 ((rd_T87 l0_2 x14_1).f0))).setCell ⟨gb105, 1, none⟩ (.slice A104_1 ((rd_T87 l0_2 x14_1).f1).length c104_1)) w.heap.size (fun k_ => k_ ≠ gb105) u104002 x104002_1) := ⟨by (with_reducible repeat (first | apply Kd.S_alloc | apply Kd.S_drewN | apply Kd.S_drew)); exact Kd.S_mono (Kd.S_far (p := ⟨gb105, 1, none⟩) (Kd.S_far (p := ⟨gb105, 0, none⟩) (Kd.S_mono HO_104002.out (fun k_ hk => (⟨hk, hk.2⟩ : _ ∧ k_ ≠ gb105))) (fun _ hk => hk.2) (.int .i64 ((rd_T87 l0_2 x14_1).f0))) (fun _ hk => hk.2) (.slice A104_1 ((rd_T87 l0_2 x14_1).f1).length c104_1)) (fun _ hk => hk.1.2)⟩
                have n1_ : Aside0 (((w16.setCell ⟨gb105, 0, none⟩ (.int .i64 ((rd_T87 l0_2 x14_1).f0))).setCell ⟨gb105, 1, none⟩ (.slice A104_1 ((rd_T87 l0_2 x14_1).f1).length c104_1)).heap[gb101]? = some (.cells #[.int .i64 a0_0, .int .i64 a0_1, .slice (some ad104) l0_2.length c0_2] 28 (0, 0))) := ⟨by (with_reducible repeat (first | refine blk_drewN ?_ _ | refine blk_drew ?_ | refine blk_alloc ?_ _)); refine blk_far ?_ NB101_105.out _; (with_reducible repeat (first | refine blk_drewN ?_ _ | refine blk_drew ?_ | refine blk_alloc ?_ _)); refine blk_far ?_ NB101_105.out _; (with_reducible repeat (first | refine blk_drewN ?_ _ | refine blk_drew ?_ | refine blk_alloc ?_ _)); exact BK101.out⟩
                have n2_ : Aside0 (((w16.setCell ⟨gb105, 0, none⟩ (.int .i64 ((rd_T87 l0_2 x14_1).f0))).setCell ⟨gb105, 1, none⟩ (.slice A104_1 ((rd_T87 l0_2 x14_1).f1).length c104_1)).heap[gb102]? = some (.cells #[.int .i64 0, .int .i64 0, .slice none 0 0] 28 (0, 0))) := ⟨by (with_reducible repeat (first | refine blk_drewN ?_ _ | refine blk_drew ?_ | refine blk_alloc ?_ _)); refine blk_far ?_ NB102_105.out _; (with_reducible repeat (first | refine blk_drewN ?_ _ | refine blk_drew ?_ | refine blk_alloc ?_ _)); refine blk_far ?_ NB102_105.out _; (with_reducible repeat (first | refine blk_drewN ?_ _ | refine blk_drew ?_ | refine blk_alloc ?_ _)); exact BK102.out⟩
                have n3_ : Aside0 (((w16.setCell ⟨gb105, 0, none⟩ (.int .i64 ((rd_T87 l0_2 x14_1).f0))).setCell ⟨gb105, 1, none⟩ (.slice A104_1 ((rd_T87 l0_2 x14_1).f1).length c104_1)).heap[gb103]? = some (.cells #[.int .i64 a0_0, .int .i64 a0_1, u104002] 28 (0, 0))) := ⟨by (with_reducible repeat (first | refine blk_drewN ?_ _ | refine blk_drew ?_ | refine blk_alloc ?_ _)); refine blk_far ?_ NB103_105.out _; (with_reducible repeat (first | refine blk_drewN ?_ _ | refine blk_drew ?_ | refine blk_alloc ?_ _)); refine blk_far ?_ NB103_105.out _; (with_reducible repeat (first | refine blk_drewN ?_ _ | refine blk_drew ?_ | refine blk_alloc ?_ _)); exact BK103.out⟩
                have n4_ : Aside0 (((w16.setCell ⟨gb105, 0, none⟩ (.int .i64 ((rd_T87 l0_2 x14_1).f0))).setCell ⟨gb105, 1, none⟩ (.slice A104_1 ((rd_T87 l0_2 x14_1).f1).length c104_1)).heap[gb105]? = some (.cells #[.int .i64 ((rd_T87 l0_2 x14_1).f0), .slice A104_1 ((rd_T87 l0_2 x14_1).f1).length c104_1] 87 (0, 0))) := ⟨by (with_reducible repeat (first | refine blk_drewN ?_ _ | refine blk_drew ?_ | refine blk_alloc ?_ _)); refine blk_put (cs := #[.int .i64 ((rd_T87 l0_2 x14_1).f0), .slice none 0 0]) ?_ 1 _ rfl; (with_reducible repeat (first | refine blk_drewN ?_ _ | refine blk_drew ?_ | refine blk_alloc ?_ _)); refine blk_put (cs := #[.int .i64 0, .slice none 0 0]) ?_ 0 _ rfl; (with_reducible repeat (first | refine blk_drewN ?_ _ | refine blk_drew ?_ | refine blk_alloc ?_ _)); exact BK105.out⟩
                have n5_ : Aside0 (Below w.heap.size w ((w16.setCell ⟨gb105, 0, none⟩ (.int .i64 ((rd_T87 l0_2 x14_1).f0))).setCell ⟨gb105, 1, none⟩ (.slice A104_1 ((rd_T87 l0_2 x14_1).f1).length c104_1))) := ⟨by repeat (first | (with_reducible first | exact HB.out | apply below_alloc | apply pw_below_drewN | apply below_drew1 | refine below_set ?_ GE101.out | refine below_set ?_ GE102.out | refine below_set ?_ GE103.out | refine below_set ?_ GE105.out) | exact HB.out)⟩
                (try clear HO_104002)
                (try clear BK101)
                (try clear BK102)
                (try clear BK103)
                (try clear BK105)
                (try clear HB)
                generalize ((w16.setCell ⟨gb105, 0, none⟩ (.int .i64 ((rd_T87 l0_2 x14_1).f0))).setCell ⟨gb105, 1, none⟩ (.slice A104_1 ((rd_T87 l0_2 x14_1).f1).length c104_1)) = w21 at n0_ n1_ n2_ n3_ n4_ n5_ ⊢
                have HO_104002 := n0_
                have BK101 := n1_
                have BK102 := n2_
                have BK103 := n3_
                have BK105 := n4_
                have HB := n5_
                clear n0_ n1_ n2_ n3_ n4_ n5_
                have n0_ := Aside0.mk (Kd.S_drew HO_104002.out)
                have n1_ := Aside0.mk (blk_drew BK101.out)
                have n2_ := Aside0.mk (blk_drew BK102.out)
                have n3_ := Aside0.mk (blk_drew BK103.out)
                have n4_ := Aside0.mk (blk_drew BK105.out)
                have n5_ := Aside0.mk (below_drew1 HB.out)
                clear HO_104002
                clear BK101
                clear BK102
                clear BK103
                clear BK105
                clear HB
                have HO_104002 := n0_
                have BK101 := n1_
                have BK102 := n2_
                have BK103 := n3_
                have BK105 := n4_
                have HB := n5_
                clear n0_ n1_ n2_ n3_ n4_ n5_
                refine start_ (n := 13) (S := fun w' => w'.cell? ⟨gb103, 0, none⟩ = some (.int .i64 a0_0) ∧ w'.cell? ⟨gb103, 1, none⟩ = some (.int .i64 a0_1) ∧ w'.cell? ⟨gb103, 2, none⟩ = some (u104002) ∧ w'.cell? ⟨gb105, 0, none⟩ = some (.int .i64 ((rd_T87 l0_2 x14_1).f0)) ∧ w'.cell? ⟨gb105, 1, none⟩ = some (.slice A104_1 ((rd_T87 l0_2 x14_1).f1).length c104_1)) (ds := [12]) #[false, false, false, false, false, false, false, false, false, false, false, false, false] (by kernel_rfl) rfl rfl ⟨(blk_cell BK103.out 0).trans rfl, (blk_cell BK103.out 1).trans rfl, (blk_cell BK103.out 2).trans rfl, (blk_cell BK105.out 0).trans rfl, (blk_cell BK105.out 1).trans rfl⟩ (fun hHeld => ?_); refine with_tabW impl_copyGrammar.tab5 impl_copyGrammar.bits5 (fun HT_ HW_ => ?_)
                generalize w21.drew = w22 at HO_104002 BK101 BK102 BK103 BK105 HB hHeld ⊢
                refine pure_ (i := 0) (N := some 18) (v := ?_) (a' := ?_) #[true, false, false, false, false, false, false, false, false, false, false, false, false] rfl rfl (any_of HT_.out (by kernel_rfl)) (fun _ _ _ h => h) (Or.inl ⟨by rfl, ?_⟩) ?_ ?_
                rotate_left
                · intro w'
                  go_simp
                  with_reducible rfl
                rotate_left
                · simp only [Act.put, List.setIfInBounds_toArray, List.set_cons_zero, List.set_cons_succ, i64_w, i32_w]
                  rfl
                refine pure_ (i := 2) (N := some 20) (v := ?_) (a' := ?_) #[true, false, true, false, false, false, false, false, false, false, false, false, false] rfl rfl (any_of HT_.out (by kernel_rfl)) (fun _ _ _ h => h) (Or.inl ⟨by rfl, ?_⟩) ?_ ?_
                rotate_left
                · intro w'
                  go_simp
                  with_reducible rfl
                rotate_left
                · simp only [Act.put, List.setIfInBounds_toArray, List.set_cons_zero, List.set_cons_succ, i64_w, i32_w]
                  rfl
                refine pure_ (i := 5) (N := some 23) (v := ?_) (a' := ?_) #[true, false, true, false, false, true, false, false, false, false, false, false, false] rfl rfl (any_of HT_.out (by kernel_rfl)) (fun _ _ _ h => h) (Or.inl ⟨by rfl, ?_⟩) ?_ ?_
                rotate_left
                · intro w'
                  go_simp
                  with_reducible rfl
                rotate_left
                · simp only [Act.put, List.setIfInBounds_toArray, List.set_cons_zero, List.set_cons_succ, i64_w, i32_w]
                  rfl
                refine take_ (i := 1) (N := some 19) (v := ?_) (a' := ?_) #[true, true, true, false, false, true, false, false, false, false, false, false, false] rfl rfl (take_ofW HT_.out HW_.out (by kernel_rfl)) (fun _ _ _ h => h) (Or.inl ⟨by rfl, ?_⟩) hHeld ?_ ?_
                rotate_left
                · rintro w' ⟨s0, s1, s2, s3, s4⟩
                  go_simp
                  with_reducible rfl
                rotate_left
                · simp only [Act.put, List.setIfInBounds_toArray, List.set_cons_zero, List.set_cons_succ, i64_w, i32_w]
                  rfl
                refine take_ (i := 3) (N := some 21) (v := ?_) (a' := ?_) #[true, true, true, true, false, true, false, false, false, false, false, false, false] rfl rfl (take_ofW HT_.out HW_.out (by kernel_rfl)) (fun _ _ _ h => h) (Or.inl ⟨by rfl, ?_⟩) hHeld ?_ ?_
                rotate_left
                · rintro w' ⟨s0, s1, s2, s3, s4⟩
                  go_simp
                  with_reducible rfl
                rotate_left
                · simp only [Act.put, List.setIfInBounds_toArray, List.set_cons_zero, List.set_cons_succ, i64_w, i32_w]
                  rfl
                refine take_ (i := 6) (N := some 24) (v := ?_) (a' := ?_) #[true, true, true, true, false, true, true, false, false, false, false, false, false] rfl rfl (take_ofW HT_.out HW_.out (by kernel_rfl)) (fun _ _ _ h => h) (Or.inl ⟨by rfl, ?_⟩) hHeld ?_ ?_
                rotate_left
                · rintro w' ⟨s0, s1, s2, s3, s4⟩
                  go_simp
                  with_reducible rfl
                rotate_left
                · simp only [Act.put, List.setIfInBounds_toArray, List.set_cons_zero, List.set_cons_succ, i64_w, i32_w]
                  rfl
                refine one_ (i := 4) (N := some 22) #[true, true, true, true, true, true, true, false, false, false, false, false, false] rfl rfl (one_of HT_.out (by kernel_rfl)) (by decide) (fun K hK => ?_)
                refine Kd.R_lit_step (Kd.int .i64) _ 3 ?hg (N := 22) ?hd (xs := ([] : List Int)) (inner := []) (ok := fun _ => True) (okp := fun _ => True) ?hr ?hp (fun _ hk => hk) trivial (Below.refl _ _) (Nat.le_refl _) (by simp) ?_; (case hd => rfl); (case hg => rfl); (case hr => first | (go_simp; done) | (go_simp; rfl)); (case hp => exact (Reps.none _ _))
                intro v107 w23 ho24 hb hg_ hnew_
                clear hg_ hnew_
                (first | rw [← Ny106.out] at ho24 | (simp only [Int.reduceToNat] at ho24; rw [← Ny106.out] at ho24))
                have n0_ := Aside0.mk (Kd.S_elder' (by (with_reducible repeat (first | apply Kd.S_alloc | apply Kd.S_drewN | apply Kd.S_drew)); exact HO_104002.out) (Kd.R_base ho24) hb)
                have n1_ := Aside0.mk (Kd.R_lower ho24 (below_size (by repeat (first | (with_reducible first | exact HB.out | apply below_alloc | apply pw_below_drewN | apply below_drew1 | refine below_set ?_ GE101.out | refine below_set ?_ GE102.out | refine below_set ?_ GE103.out | refine below_set ?_ GE105.out) | exact HB.out))))
                have n2_ := Aside0.mk (blk_below (g := gb101) (o := .cells #[.int .i64 a0_0, .int .i64 a0_1, .slice (some ad104) l0_2.length c0_2] 28 (0, 0)) (by (with_reducible repeat (first | refine blk_drewN ?_ _ | refine blk_drew ?_ | refine blk_alloc ?_ _)); exact BK101.out) hb)
                have n3_ := Aside0.mk (blk_below (g := gb102) (o := .cells #[.int .i64 0, .int .i64 0, .slice none 0 0] 28 (0, 0)) (by (with_reducible repeat (first | refine blk_drewN ?_ _ | refine blk_drew ?_ | refine blk_alloc ?_ _)); exact BK102.out) hb)
                have n4_ := Aside0.mk (blk_below (g := gb103) (o := .cells #[.int .i64 a0_0, .int .i64 a0_1, u104002] 28 (0, 0)) (by (with_reducible repeat (first | refine blk_drewN ?_ _ | refine blk_drew ?_ | refine blk_alloc ?_ _)); exact BK103.out) hb)
                have n5_ := Aside0.mk (blk_below (g := gb105) (o := .cells #[.int .i64 ((rd_T87 l0_2 x14_1).f0), .slice A104_1 ((rd_T87 l0_2 x14_1).f1).length c104_1] 87 (0, 0)) (by (with_reducible repeat (first | refine blk_drewN ?_ _ | refine blk_drew ?_ | refine blk_alloc ?_ _)); exact BK105.out) hb)
                have n6_ := Aside0.mk (below_step (by repeat (first | (with_reducible first | exact HB.out | apply below_alloc | apply pw_below_drewN | apply below_drew1 | refine below_set ?_ GE101.out | refine below_set ?_ GE102.out | refine below_set ?_ GE103.out | refine below_set ?_ GE105.out) | exact HB.out)) hb)
                clear HO_104002
                clear BK101
                clear BK102
                clear BK103
                clear BK105
                clear HB
                have HO_104002 := n0_
                have HO108 := n1_
                have BK101 := n2_
                have BK102 := n3_
                have BK103 := n4_
                have BK105 := n5_
                have HB := n6_
                clear n0_ n1_ n2_ n3_ n4_ n5_ n6_
                clear hb ho24
                refine hK.out _ _ ⟨(blk_cell BK103.out 0).trans rfl, (blk_cell BK103.out 1).trans rfl, (blk_cell BK103.out 2).trans rfl, (blk_cell BK105.out 0).trans rfl, (blk_cell BK105.out 1).trans rfl⟩ (fun hHeld => ?_)
                clear hK K
                refine norm_ (a' := ?_) ?_ ?_
                rotate_left
                · show Act.put _ (some 22) _ = _
                  simp only [Act.put, List.setIfInBounds_toArray, List.set_cons_zero, List.set_cons_succ, i64_w, i32_w]
                  rfl
                refine one_ (i := 7) (N := some 25) #[true, true, true, true, true, true, true, true, false, false, false, false, false] rfl rfl (one_of HT_.out (by kernel_rfl)) (by decide) (fun K hK => ?_)
                refine Kd.R_append_rows_step (Kd.int .i64) (w0 := w) w.heap.size (by rfl) (.tmp 22) (.tmp 24) 37 3 (.int .i64 0) 8 rfl Try.underlying37 info3 rfl (by decide) (by omega) v107 y106 ((rd_T87 l0_2 x14_1).f1) _ _ _ (fun _ => True) (fun _ => False) rfl rfl ?aO ?aR (fun _ _ h => h) (fun _ h => h.elim) ?aF ?aB ?aS ?aL ?_
                (case aR => repeat (first | exact (Kd.C_below HR104_1.out HB.out) | (with_reducible refine Kd.C_alloc ?_ _) | (with_reducible refine Kd.C_drewN ?_ _) | (with_reducible refine Kd.C_drew ?_)))
                (case aB => exact (by repeat (first | (with_reducible first | exact HB.out | apply below_alloc | apply pw_below_drewN | apply below_drew1 | refine below_set ?_ GE101.out | refine below_set ?_ GE102.out | refine below_set ?_ GE103.out | refine below_set ?_ GE105.out) | exact HB.out)))
                (case aF => exact (fun _ _ => trivial))
                (case aO => exact (by (with_reducible repeat (first | apply Kd.R_alloc | apply Kd.R_drewN | apply Kd.R_drew)); exact HO108.out))
                (case aS => exact (below_size (by repeat (first | (with_reducible first | exact HB.out | apply below_alloc | apply pw_below_drewN | apply below_drew1 | refine below_set ?_ GE101.out | refine below_set ?_ GE102.out | refine below_set ?_ GE103.out | refine below_set ?_ GE105.out) | exact HB.out))))
                (case aL => have := LMc14.out; omega)
                intro v110 w25 ho hb hg hat
                rw [← Ny109.out] at ho
                have n0_ := Aside0.mk (Kd.S_after (ok := (fun k_ => k_ ≠ gb105)) (by (with_reducible repeat (first | apply Kd.S_alloc | apply Kd.S_drewN | apply Kd.S_drew)); exact HO_104002.out) hg hat)
                have n1_ := Aside0.mk (blk_grown (g := gb101) (o := .cells #[.int .i64 a0_0, .int .i64 a0_1, .slice (some ad104) l0_2.length c0_2] 28 (0, 0)) (by (with_reducible repeat (first | refine blk_drewN ?_ _ | refine blk_drew ?_ | refine blk_alloc ?_ _)); exact BK101.out) hg (Kd.R_ne HO108.out BK101.out (by decide)))
                have n2_ := Aside0.mk (blk_grown (g := gb102) (o := .cells #[.int .i64 0, .int .i64 0, .slice none 0 0] 28 (0, 0)) (by (with_reducible repeat (first | refine blk_drewN ?_ _ | refine blk_drew ?_ | refine blk_alloc ?_ _)); exact BK102.out) hg (Kd.R_ne HO108.out BK102.out (by decide)))
                have n3_ := Aside0.mk (blk_grown (g := gb103) (o := .cells #[.int .i64 a0_0, .int .i64 a0_1, u104002] 28 (0, 0)) (by (with_reducible repeat (first | refine blk_drewN ?_ _ | refine blk_drew ?_ | refine blk_alloc ?_ _)); exact BK103.out) hg (Kd.R_ne HO108.out BK103.out (by decide)))
                have n4_ := Aside0.mk (blk_grown (g := gb105) (o := .cells #[.int .i64 ((rd_T87 l0_2 x14_1).f0), .slice A104_1 ((rd_T87 l0_2 x14_1).f1).length c104_1] 87 (0, 0)) (by (with_reducible repeat (first | refine blk_drewN ?_ _ | refine blk_drew ?_ | refine blk_alloc ?_ _)); exact BK105.out) hg (Kd.R_ne HO108.out BK105.out (by decide)))
                have n5_ := Aside0.mk (hb)
                have n6_ := Aside0.mk (ho)
                clear HO_104002
                clear BK101
                clear BK102
                clear BK103
                clear BK105
                clear HB
                clear HO108
                have HO_104002 := n0_
                have BK101 := n1_
                have BK102 := n2_
                have BK103 := n3_
                have BK105 := n4_
                have HB := n5_
                have HO111 := n6_
                clear n0_ n1_ n2_ n3_ n4_ n5_ n6_
                clear ho hb hg hat
                obtain ⟨Ao26, co26, eo26⟩ := Kd.R_slice HO111.out
                (first | subst eo26 | (injection eo26 with f1_ f2_ f3_; have f4_ := f1_.symm; have f5_ := f3_.symm; clear f1_ f2_ f3_; subst f4_; subst f5_))
                refine hK.out _ _ ⟨(blk_cell BK103.out 0).trans rfl, (blk_cell BK103.out 1).trans rfl, (blk_cell BK103.out 2).trans rfl, (blk_cell BK105.out 0).trans rfl, (blk_cell BK105.out 1).trans rfl⟩ (fun hHeld => ?_)
                clear hK K
                refine norm_ (a' := ?_) ?_ ?_
                rotate_left
                · show Act.put _ (some 25) _ = _
                  simp only [Act.put, List.setIfInBounds_toArray, List.set_cons_zero, List.set_cons_succ, i64_w, i32_w]
                  rfl
                refine pure_ (i := 8) (N := some 26) (v := ?_) (a' := ?_) #[true, true, true, true, true, true, true, true, true, false, false, false, false] rfl rfl (any_of HT_.out (by kernel_rfl)) (fun _ _ _ h => h) (Or.inl ⟨by rfl, ?_⟩) ?_ ?_
                rotate_left
                · intro w'
                  go_simp
                  with_reducible rfl
                rotate_left
                · simp only [Act.put, List.setIfInBounds_toArray, List.set_cons_zero, List.set_cons_succ, i64_w, i32_w]
                  rfl
                refine one_ (i := 9) (N := some 27) #[true, true, true, true, true, true, true, true, true, true, false, false, false] rfl rfl (one_of HT_.out (by kernel_rfl)) (by decide) (fun K hK => ?_)
                refine value_ (w1 := ?_) (v := ?_) (by rfl) rfl ?_ ?_
                rotate_left 2
                · go_simp
                  constructor
                  · rfl
                  · rfl
                refine hK.out _ _ ⟨(blk_cell (blk_alloc BK103.out _) 0).trans rfl, (blk_cell (blk_alloc BK103.out _) 1).trans rfl, (blk_cell (blk_alloc BK103.out _) 2).trans rfl, (blk_cell (blk_alloc BK105.out _) 0).trans rfl, (blk_cell (blk_alloc BK105.out _) 1).trans rfl⟩ (fun hHeld => ?_)
                clear hK K
                refine norm_ (a' := ?_) ?_ ?_
                rotate_left
                · show Act.put _ (some 27) _ = _
                  simp only [Act.put, List.setIfInBounds_toArray, List.set_cons_zero, List.set_cons_succ, i64_w, i32_w]
                  rfl
                refine one_ (i := 10) (N := some 28) #[true, true, true, true, true, true, true, true, true, true, true, false, false] rfl rfl (one_of HT_.out (by kernel_rfl)) (by decide) (fun K hK => ?_)
                refine Kd.S_append_step k87 (w0 := w) w.heap.size (by rfl) (.tmp 19) (.tmp 27) 26 87 (.agg #[(.int .i64 0), (.slice none 0 0)]) 32 rfl Try.underlying26 info87 rfl (by decide) (by omega) u104002 x104002_1 (⟨(rd_T87 l0_2 x14_1).f0, y109⟩ : S87) [.int .i64 ((rd_T87 l0_2 x14_1).f0), .slice Ao26 y109.length co26] (fun k_ => k_ ≠ gb105) (fun k_ => some k_ = (.slice Ao26 y109.length co26 : Value).ownBlock) rfl rfl ?aP (fun k_ hk_ => ((Kd.R_mono (ok' := fun k_ => ((fun k_ => k_ ≠ gb105)) k_ ∧ some k_ ≠ (u104002 : Value).ownBlock) (Kd.R_types (Kd.R_apart' (HO111.out) (Kd.S_typed HO_104002.out) (by decide)) BK105.out (by decide)) (fun k_ hk => ⟨hk.2, hk.1.2⟩))).1 k_ hk_.symm) ?aF ?aO ?aB ?aS ?aL ?_
                (case aP => exact k87_mkM _ _ _ (⟨(rd_T87 l0_2 x14_1).f0, y109⟩ : S87) (Kd.R_mono (Kd.R_tight rfl (Kd.R_mono (ok' := fun k_ => ((fun k_ => k_ ≠ gb105)) k_ ∧ some k_ ≠ (u104002 : Value).ownBlock) (Kd.R_types (Kd.R_apart' (HO111.out) (Kd.S_typed HO_104002.out) (by decide)) BK105.out (by decide)) (fun k_ hk => ⟨hk.2, hk.1.2⟩))) (fun _ h_ => h_)))
                (case aB => exact (by repeat (first | (with_reducible first | exact HB.out | apply below_alloc | apply pw_below_drewN | apply below_drew1 | refine below_set ?_ GE101.out | refine below_set ?_ GE102.out | refine below_set ?_ GE103.out | refine below_set ?_ GE105.out) | exact HB.out)))
                (case aF => exact (fun k_ hk => Kd.freshB (g := gb105) (o := .cells #[.int .i64 ((rd_T87 l0_2 x14_1).f0), .slice A104_1 ((rd_T87 l0_2 x14_1).f1).length c104_1] 87 (0, 0)) (by (with_reducible repeat (first | refine blk_drewN ?_ _ | refine blk_drew ?_ | refine blk_alloc ?_ _)); exact BK105.out) k_ hk))
                (case aO => exact (by (with_reducible repeat (first | apply Kd.S_alloc | apply Kd.S_drewN | apply Kd.S_drew)); exact Kd.S_mono HO_104002.out (fun k_ hk => ⟨hk.1, fun e_ => hk.2 e_⟩)))
                (case aS => exact (below_size (by repeat (first | (with_reducible first | exact HB.out | apply below_alloc | apply pw_below_drewN | apply below_drew1 | refine below_set ?_ GE101.out | refine below_set ?_ GE102.out | refine below_set ?_ GE103.out | refine below_set ?_ GE105.out) | exact HB.out))))
                (case aL => have := LMc15.out; omega)
                intro v113 w27 ho hb hg hat
                rw [← Ny112.out] at ho
                have n0_ := Aside0.mk (blk_grown (g := gb101) (o := .cells #[.int .i64 a0_0, .int .i64 a0_1, .slice (some ad104) l0_2.length c0_2] 28 (0, 0)) (by (with_reducible repeat (first | refine blk_drewN ?_ _ | refine blk_drew ?_ | refine blk_alloc ?_ _)); exact BK101.out) hg (Kd.S_ne HO_104002.out BK101.out (by decide)))
                have n1_ := Aside0.mk (blk_grown (g := gb102) (o := .cells #[.int .i64 0, .int .i64 0, .slice none 0 0] 28 (0, 0)) (by (with_reducible repeat (first | refine blk_drewN ?_ _ | refine blk_drew ?_ | refine blk_alloc ?_ _)); exact BK102.out) hg (Kd.S_ne HO_104002.out BK102.out (by decide)))
                have n2_ := Aside0.mk (blk_grown (g := gb103) (o := .cells #[.int .i64 a0_0, .int .i64 a0_1, u104002] 28 (0, 0)) (by (with_reducible repeat (first | refine blk_drewN ?_ _ | refine blk_drew ?_ | refine blk_alloc ?_ _)); exact BK103.out) hg (Kd.S_ne HO_104002.out BK103.out (by decide)))
                have n3_ := Aside0.mk (blk_grown (g := gb105) (o := .cells #[.int .i64 ((rd_T87 l0_2 x14_1).f0), .slice A104_1 ((rd_T87 l0_2 x14_1).f1).length c104_1] 87 (0, 0)) (by (with_reducible repeat (first | refine blk_drewN ?_ _ | refine blk_drew ?_ | refine blk_alloc ?_ _)); exact BK105.out) hg (Kd.S_away HO_104002.out (fun _ hk => hk.1)))
                have n4_ := Aside0.mk (hb)
                have n5_ := Aside0.mk (ho)
                clear BK101
                clear BK102
                clear BK103
                clear BK105
                clear HB
                clear HO_104002
                clear HO111
                have BK101 := n0_
                have BK102 := n1_
                have BK103 := n2_
                have BK105 := n3_
                have HB := n4_
                have HO114 := n5_
                clear n0_ n1_ n2_ n3_ n4_ n5_
                clear ho hb hg hat
                obtain ⟨Ao28, co28, eo28⟩ := Kd.S_slice HO114.out
                (first | subst eo28 | (injection eo28 with f1_ f2_ f3_; have f4_ := f1_.symm; have f5_ := f3_.symm; clear f1_ f2_ f3_; subst f4_; subst f5_))
                refine hK.out _ _ ⟨(blk_cell BK103.out 0).trans rfl, (blk_cell BK103.out 1).trans rfl, (blk_cell BK103.out 2).trans rfl, (blk_cell BK105.out 0).trans rfl, (blk_cell BK105.out 1).trans rfl⟩ (fun hHeld => ?_)
                clear hK K
                refine norm_ (a' := ?_) ?_ ?_
                rotate_left
                · show Act.put _ (some 28) _ = _
                  simp only [Act.put, List.setIfInBounds_toArray, List.set_cons_zero, List.set_cons_succ, i64_w, i32_w]
                  rfl
                refine pure_ (i := 11) (N := some 29) (v := ?_) (a' := ?_) #[true, true, true, true, true, true, true, true, true, true, true, true, false] rfl rfl (any_of HT_.out (by kernel_rfl)) (fun _ _ _ h => h) (Or.inl ⟨by rfl, ?_⟩) ?_ ?_
                rotate_left
                · intro w'
                  go_simp
                  with_reducible rfl
                rotate_left
                · simp only [Act.put, List.setIfInBounds_toArray, List.set_cons_zero, List.set_cons_succ, i64_w, i32_w]
                  rfl
                refine last_ (i := 12) (N := none) #[true, true, true, true, true, true, true, true, true, true, true, true, true] rfl rfl (one_of HT_.out (by kernel_rfl)) (by decide) (fun K hK => ?_)
                have hs29 : w27.cell? ⟨gb103, 2, none⟩ = some (u104002) := (blk_cell BK103.out 2).trans rfl
                have hfs29 := blk_frozen BK103.out 2
                have hns29_0 := NB101_103.out
                have hns29_1 := NB102_103.out
                have hns29_3 := NB105_103.out
                have hms29_0 := NB103_101.out
                have hms29_1 := NB103_102.out
                have hms29_3 := NB103_105.out
                refine skip_ (w1 := ?_) (by rfl) rfl ?_ ?_
                rotate_left
                · go_simp
                  rfl
                refine hK.out _ _ ?_
                clear hK K
                refine done_ (done_of HT_.out (by kernel_rfl)) ?_
                try go_wp2
                go_roundg k1
                case measure => have := HK1.out; omega
                case rel => exact ⟨(wrap64 (x14_1 + 1)), (y112), (.slice Ao28 y112.length co28), (by first | rfl | (simp; done) | (simp [*]; done)), H', ⟨by have := HK1.out; omega⟩, ⟨by (with_reducible repeat (first | apply Kd.S_alloc | apply Kd.S_drewN | apply Kd.S_drew)); exact Kd.S_mono (Kd.S_far (p := ⟨gb103, 2, none⟩) (Kd.S_types HO114.out BK103.out (by decide)) (fun _ hk => hk.2) (.slice Ao28 y112.length co28)) (fun _ hk => trivial)⟩, ⟨by (with_reducible repeat (first | refine blk_drewN ?_ _ | refine blk_drew ?_ | refine blk_alloc ?_ _)); refine blk_far ?_ NB101_103.out _; (with_reducible repeat (first | refine blk_drewN ?_ _ | refine blk_drew ?_ | refine blk_alloc ?_ _)); exact BK101.out⟩, ⟨by (with_reducible repeat (first | refine blk_drewN ?_ _ | refine blk_drew ?_ | refine blk_alloc ?_ _)); refine blk_far ?_ NB102_103.out _; (with_reducible repeat (first | refine blk_drewN ?_ _ | refine blk_drew ?_ | refine blk_alloc ?_ _)); exact BK102.out⟩, ⟨by (with_reducible repeat (first | refine blk_drewN ?_ _ | refine blk_drew ?_ | refine blk_alloc ?_ _)); refine blk_put (cs := #[.int .i64 a0_0, .int .i64 a0_1, u104002]) ?_ 2 _ rfl; (with_reducible repeat (first | refine blk_drewN ?_ _ | refine blk_drew ?_ | refine blk_alloc ?_ _)); exact BK103.out⟩, ⟨by repeat (first | (with_reducible first | exact HB.out | apply below_alloc | apply pw_below_drewN | apply below_drew1 | refine below_set ?_ GE101.out | refine below_set ?_ GE102.out | refine below_set ?_ GE103.out | refine below_set ?_ GE105.out) | exact HB.out)⟩⟩
              · rw [if_neg c15] at H
                exact absurd H (by simp)
            · rw [if_neg c14] at H
              exact absurd H (by simp)
          · rw [if_neg c13] at H
            exact absurd H (by simp)
        · rw [if_neg c12] at H
          exact absurd H (by simp)
      · rw [if_neg c11] at H
        have c11b0 : decide (x14_1 < (l0_2.length : Int)) = false := decide_eq_false c11
        clear c11
        simp only [Option.some.injEq, Prod.mk.injEq] at H
        obtain ⟨rfl, rfl, rfl⟩ := H
        have hnb30 := NB103_101.out
        have hnc30 := NB101_103.out
        have hnb31 := NB103_102.out
        have hnc31 := NB102_103.out
        have hcz32_0 : wr.cell? ⟨gb103, 0, none⟩ = some (.int .i64 a0_0) := (blk_cell BK103.out 0).trans rfl
        have hcz32_1 : wr.cell? ⟨gb103, 1, none⟩ = some (.int .i64 a0_1) := (blk_cell BK103.out 1).trans rfl
        have hcz32_2 : wr.cell? ⟨gb103, 2, none⟩ = some (u104002) := (blk_cell BK103.out 2).trans rfl
        have hfz32_0 := blk_frozen BK103.out 0
        have hfz32_1 := blk_frozen BK103.out 1
        have hfz32_2 := blk_frozen BK103.out 2
        have hnb33 := NB102_101.out
        have hnc33 := NB101_102.out
        have hcz34_0 : wr.cell? ⟨gb102, 0, none⟩ = some (.int .i64 0) := (blk_cell BK102.out 0).trans rfl
        have hcz34_1 : wr.cell? ⟨gb102, 1, none⟩ = some (.int .i64 0) := (blk_cell BK102.out 1).trans rfl
        have hcz34_2 : wr.cell? ⟨gb102, 2, none⟩ = some (.slice none 0 0) := (blk_cell BK102.out 2).trans rfl
        have hfz34_0 := blk_frozen BK102.out 0
        have hfz34_1 := blk_frozen BK102.out 1
        have hfz34_2 := blk_frozen BK102.out 2
        obtain ⟨Ao35, co35, eo35⟩ := Kd.S_slice HO_104002.out
        subst eo35
        go_wp2
        refine bodyPost_ret (results_cell_row rfl _ _ gb102 28 #[.int .i64 a0_0, .int .i64 a0_1, .slice Ao35 x104002_1.length co35] (0, 0) _ rfl (by (with_reducible repeat (first | refine blk_drewN ?_ _ | refine blk_drew ?_ | refine blk_alloc ?_ _)); refine blk_put (cs := #[.int .i64 a0_0, .int .i64 a0_1, .slice none 0 0]) ?_ 2 _ rfl; (with_reducible repeat (first | refine blk_drewN ?_ _ | refine blk_drew ?_ | refine blk_alloc ?_ _)); refine blk_put (cs := #[.int .i64 a0_0, .int .i64 0, .slice none 0 0]) ?_ 1 _ rfl; (with_reducible repeat (first | refine blk_drewN ?_ _ | refine blk_drew ?_ | refine blk_alloc ?_ _)); refine blk_put (cs := #[.int .i64 0, .int .i64 0, .slice none 0 0]) ?_ 0 _ rfl; (with_reducible repeat (first | refine blk_drewN ?_ _ | refine blk_drew ?_ | refine blk_alloc ?_ _)); exact BK102.out) Try.underlying28 rfl (by kernel_rfl)) rfl ?_
        exact ⟨_, by first | rfl | (simp [errW_none, errW_some] <;> rfl) | (simp [*, errW_none, errW_some] <;> rfl), by (with_reducible repeat (first | apply Kd.S_alloc | apply Kd.S_drewN | apply Kd.S_drew)); exact Kd.S_mono (Kd.S_far (p := ⟨gb102, 2, none⟩) (Kd.S_far (p := ⟨gb102, 1, none⟩) (Kd.S_far (p := ⟨gb102, 0, none⟩) (Kd.S_types HO_104002.out BK102.out (by decide)) (fun _ hk => hk.2) (.int .i64 a0_0)) (fun _ hk => hk.2) (.int .i64 a0_1)) (fun _ hk => hk.2) (.slice Ao35 x104002_1.length co35)) (fun _ hk => trivial), by repeat (first | (with_reducible first | exact HB.out | apply below_alloc | apply pw_below_drewN | apply below_drew1 | refine below_set ?_ GE101.out | refine below_set ?_ GE102.out | refine below_set ?_ GE103.out) | exact HB.out)⟩
end Go.Proofs.Ytekoclhnfhbmeaa.P
namespace Go.Proofs.Ytekoclhnfhbmeaa.P
open Go.RowKit Go.Proofs.YtekoclhnfhbmeaaW.PrintWords
set_option linter.unusedVariables false
set_option linter.unusedSimpArgs false
theorem eta_rule (r : S87) : (⟨r.f0, r.f1⟩ : S87) = r := by cases r; rfl
theorem copyGrammar_loop (l : List S87) (hs : smallI l) (n t : Int) (d : Nat) : ∀ (i : Nat), i ≤ l.length → l.length - i = d → ∀ k, d < k → impl_copyGrammar.l0 k l l.length i n t (l.take i) = some (n, t, l) := by
  have hb := hs.1
  induction d with
  | zero =>
    intro i h1 hd k hk
    obtain ⟨k, rfl⟩ : ∃ m, k = m + 1 := ⟨k - 1, by omega⟩
    simp only [impl_copyGrammar.l0]
    rw [if_neg (by omega), List.take_of_length_le (by omega)]
  | succ d ih =>
    intro i h1 hd k hk
    have hbi := hs.2 i (by omega)
    obtain ⟨k, rfl⟩ : ∃ m, k = m + 1 := ⟨k - 1, by omega⟩
    simp only [impl_copyGrammar.l0, Option.bind_some, List.length_nil, List.nil_append]
    rw [if_pos (by omega), if_pos (by omega), if_pos (by omega), if_pos (by omega), if_pos (by rw [List.length_take]; omega), eta_rule, show wrap64 ((i : Int) + 1) = ((i + 1 : Nat) : Int) by unfold wrap64; omega]
    rw [show l.take i ++ [rd_T87 l i] = l.take (i + 1) from (by rw [take_getD l i z87 (by omega)]; rfl)]
    exact ih (i + 1) (by omega) (by omega) k (by omega)
theorem copyGrammar_eq (l : List S87) (hs : smallI l) (n t : Int) (k : Nat) (hk : l.length < k) : impl_copyGrammar.f k n t l = some (n, t, l) := by
  have := copyGrammar_loop l hs n t l.length 0 (by omega) (by omega) k hk
  unfold impl_copyGrammar.f
  simpa using this
end Go.Proofs.Ytekoclhnfhbmeaa.P
namespace Go.Proofs.Ytekoclhnfhbmeaa.P
open Go.RowKit Go.Proofs.YtekoclhnfhbmeaaW.PrintWords Go.Proofs.YtekoclhnfhbmeaaW.PrintLast Go.Proofs.YtekoclhnfhbmeaaW.PrintMore
set_option linter.unusedVariables false
set_option linter.unusedSimpArgs false
set_option maxHeartbeats 8000000 in
set_option maxRecDepth 100000 in
theorem useful_calls (a0 a1 : Int) (A : Option Addr) (c : Nat) (l : List S87) (w : World) (hr : Kd.C k87 w A l.length l) (hc : l.length ≤ c) (hl16 : smallI l) (hok : ∀ j : Nat, j < l.length → okR6 (rd_T87 l j)) :
    Calls Try.prog 56 #[.agg #[.int .i64 a0, .int .i64 a1, .slice A l.length c]] w fun e w' => (∃ v, e = .returned (.agg #[.int .i64 a0, .int .i64 a1, v]) ∧ Kd.S k87 87 w' w.heap.size (fun _ => True) v (usefulF l)) ∧ Below w.heap.size w w' := by
  have hu := Try.underlying28
  obtain ⟨p0, p1, p2, p3, p4, p5, hpE⟩ := six (closedF mkPro l) (closedF_len _ _)
  obtain ⟨q0, q1, q2, q3, q4, q5, hqE⟩ := six (reachF l) (reachF_len _)
  have CP : ∀ W : World, Below w.heap.size w W → Calls Try.prog 97 #[.agg #[.int .i64 a0, .int .i64 a1, .slice A l.length c]] W fun e w' => e = .returned (.agg #[.bool p0, .bool p1, .bool p2, .bool p3, .bool p4, .bool p5]) ∧ Below W.heap.size W w' := fun W hW =>
    (productive_calls a0 a1 A c l W (Kd.C_below hr hW) hc hok).mono fun e w' ⟨⟨b0, b1, b2, b3, b4, b5, he, hq⟩, hb⟩ => ⟨by rw [he]; rw [hpE] at hq; simp at hq; obtain ⟨rfl, rfl, rfl, rfl, rfl, rfl⟩ := hq; rfl, hb⟩
  have CR : ∀ W : World, Below w.heap.size w W → Calls Try.prog 98 #[.agg #[.int .i64 a0, .int .i64 a1, .slice A l.length c]] W fun e w' => e = .returned (.agg #[.bool q0, .bool q1, .bool q2, .bool q3, .bool q4, .bool q5]) ∧ Below W.heap.size W w' := fun W hW =>
    (reached_calls a0 a1 A c l W (Kd.C_below hr hW) hc hok).mono fun e w' ⟨⟨b0, b1, b2, b3, b4, b5, he, hq⟩, hb⟩ => ⟨by rw [he]; rw [hqE] at hq; simp at hq; obtain ⟨rfl, rfl, rfl, rfl, rfl, rfl⟩ := hq; rfl, hb⟩
  have CC : ∀ W : World, Below w.heap.size w W → Calls Try.prog 81 #[.agg #[.int .i64 a0, .int .i64 a1, .slice A l.length c]] W fun e w' => (∃ v, e = .returned (.agg #[.int .i64 a0, .int .i64 a1, v]) ∧ Kd.S k87 87 w' w.heap.size (fun _ => True) v l) ∧ Below W.heap.size W w' := fun W hW =>
    (impl_copyGrammar.calls (l.length + 1) a0 a1 A c l a0 a1 l W (Kd.C_below hr hW) hc (copyGrammar_eq l hl16 a0 a1 _ (Nat.lt_succ_self _))).mono fun e w' ⟨v, he, hs, hb⟩ => ⟨⟨v, he, Kd.S_lower hs hW.size⟩, hb⟩
  have HB := Aside0.mk (Below.refl w.heap.size w)
  have EA := Aside0.mk (show useA l = l.filter fun x => !useF1 [p0, p1, p2, p3, p4, p5] [q0, q1, q2, q3, q4, q5] x by unfold useA; rw [hpE, hqE])
  have HOK := Aside0.mk hok
  clear hpE hqE hok hr hl16
  go_enter Try.func56, Try.ntmps56
  go_wp2_with (first | ((with_reducible refine gate_dst (N := 1) rfl ?_); refine box_event ?hg (N := 1) ?hd (cs := #[.int .i64 a0, .int .i64 a1, .slice A l.length c]) (t := 28) ?hr ?_; (case hd => rfl); (case hg => rfl); (case hr => first | (go_simp; done) | (go_simp; rfl)); intro gb hg_ w1 hbox_ hb_; have GE_gb := Aside0.mk (show w.heap.size ≤ gb by rw [hg_]; exact below_size (by repeat (first | (with_reducible first | exact HB.out | apply below_alloc | apply pw_below_drewN | apply below_drew1) | exact HB.out))); have n0_ := Aside0.mk (below_step (by repeat (first | (with_reducible first | exact HB.out | apply below_alloc | apply pw_below_drewN | apply below_drew1) | exact HB.out)) hb_); clear HB; have HB := n0_; clear n0_; have B_gb := Aside0.mk hbox_; clear hb_ hbox_ hg_) | ((with_reducible refine gate_dst (N := 2) rfl ?_); refine box_event ?hg (N := 2) ?hd (cs := #[.int .i64 0, .int .i64 0, .slice none 0 0]) (t := 28) ?hr ?_; (case hd => rfl); (case hg => rfl); (case hr => first | (go_simp; done) | (go_simp; rfl)); intro gz hg_ w2 hbox_ hb_; have GE_gz := Aside0.mk (show w.heap.size ≤ gz by rw [hg_]; exact below_size (by repeat (first | (with_reducible first | exact HB.out | apply below_alloc | apply pw_below_drewN | apply below_drew1) | exact HB.out))); have NE_gb_gz := Aside0.mk (show gb ≠ gz by rw [hg_]; exact Nat.ne_of_lt (blk_lt (by (with_reducible repeat (first | refine blk_drewN ?_ _ | refine blk_drew ?_ | refine blk_alloc ?_ _)); exact B_gb.out))); have n0_ := Aside0.mk (below_step (by repeat (first | (with_reducible first | exact HB.out | apply below_alloc | apply pw_below_drewN | apply below_drew1) | exact HB.out)) hb_); have n_gb := Aside0.mk (blk_below (by (with_reducible repeat (first | refine blk_drewN ?_ _ | refine blk_drew ?_ | refine blk_alloc ?_ _)); exact B_gb.out) hb_); clear HB B_gb; have HB := n0_; have B_gb := n_gb; clear n0_ n_gb; have B_gz := Aside0.mk hbox_; clear hb_ hbox_ hg_))
  refine region_inv (by kernel_rfl) (back_of (by kernel_rfl)) (fun L a W => ∃ s3 s4 s6 s7 s8 s9 : Value, a = (⟨#[.agg #[.int .i64 a0, .int .i64 a1, .slice A l.length c], .pointer (some ⟨gb, 0, none⟩), .pointer (some ⟨gz, 0, none⟩), s3, s4, undef, s6, s7, s8, s9, undef, undef, undef, undef, undef, undef, undef, undef, undef, undef, undef, undef, undef, undef, undef], []⟩ : Act) ∧ Below w.heap.size w W ∧ W.heap[gb]? = some (.cells #[.int .i64 a0, .int .i64 a1, .slice A l.length c] 28 (0, 0)) ∧ W.heap[gz]? = some (.cells #[.int .i64 0, .int .i64 0, .slice none 0 0] 28 (0, 0)) ∧ (L 0 = true → s6 = .agg #[.int .i64 a0, .int .i64 a1, .slice A l.length c]) ∧ (L 1 = true → s7 = .agg #[.bool p0, .bool p1, .bool p2, .bool p3, .bool p4, .bool p5]) ∧ (L 2 = true → s8 = .agg #[.int .i64 a0, .int .i64 a1, .slice A l.length c]) ∧ (L 3 = true → s9 = .agg #[.bool q0, .bool q1, .bool q2, .bool q3, .bool q4, .bool q5]) ∧ (L 4 = true → ∃ gq : Nat, s3 = .pointer (some ⟨gq, 0, none⟩) ∧ w.heap.size ≤ gq ∧ gq ≠ gb ∧ gq ≠ gz ∧ W.heap[gq]? = some (.cells (if L 6 = true then #[.bool p0, .bool p1, .bool p2, .bool p3, .bool p4, .bool p5] else #[.bool false, .bool false, .bool false, .bool false, .bool false, .bool false]) 106 (0, 0))) ∧ (L 5 = true → ∃ gq : Nat, s4 = .pointer (some ⟨gq, 0, none⟩) ∧ w.heap.size ≤ gq ∧ gq ≠ gb ∧ gq ≠ gz ∧ W.heap[gq]? = some (.cells (if L 7 = true then #[.bool q0, .bool q1, .bool q2, .bool q3, .bool q4, .bool q5] else #[.bool false, .bool false, .bool false, .bool false, .bool false, .bool false]) 106 (0, 0))) ∧ (L 4 = true → L 5 = true → s3 ≠ s4) ∧ (L 6 = true → L 4 = true) ∧ (L 7 = true → L 5 = true)) ?h0 ?hstep ?hend
  case h0 => exact ⟨undef, undef, undef, undef, undef, undef, rfl, HB.out.drew, (blk_drew B_gb.out), (blk_drew B_gz.out), by simp, by simp, by simp, by simp, by simp, by simp, by simp, by simp, by simp⟩
  case hstep =>
    intro L a W i o hI hLi ho hd
    obtain ⟨s3, s4, s6, s7, s8, s9, rfl, hB, hgb, hgz, f0, f1, f2, f3, f4, f5, f45, f64, f75⟩ := hI
    have hge : w.heap.size ≤ gb := GE_gb.out
    have hgbl := blk_lt hgb
    have hgzl := blk_lt hgz
    rcases i with _ | _ | _ | _ | _ | _ | _ | _ | i
    ·
      simp at ho
      subst ho
      simp [Region.binds] at hd
      have x0 : W.cell? ⟨gb, 0, none⟩ = some (.int .i64 a0) := (blk_cell hgb 0).trans rfl
      have x1 : W.cell? ⟨gb, 1, none⟩ = some (.int .i64 a1) := (blk_cell hgb 1).trans rfl
      have x2 : W.cell? ⟨gb, 2, none⟩ = some (.slice A l.length c) := (blk_cell hgb 2).trans rfl
      refine value_ (N := some 6) (v := .agg #[.int .i64 a0, .int .i64 a1, .slice A l.length c]) (w1 := W) rfl rfl (by first | (go_simp; done) | (go_simp; rfl)) ?_
      exact ⟨s3, s4, .agg #[.int .i64 a0, .int .i64 a1, .slice A l.length c], s7, s8, s9, rfl, hB, hgb, hgz, fun _ => rfl, fun h => f1 (by simpa using h), fun h => f2 (by simpa using h), fun h => f3 (by simpa using h), fun h => by obtain ⟨gq, e1, e2, e3, e4, e5⟩ := f4 (by simpa using h); exact ⟨gq, e1, e2, e3, e4, by simpa using e5⟩, fun h => by obtain ⟨gq, e1, e2, e3, e4, e5⟩ := f5 (by simpa using h); exact ⟨gq, e1, e2, e3, e4, by simpa using e5⟩, fun h1 h2 => f45 (by simpa using h1) (by simpa using h2), fun h => by simpa using f64 (by simpa using h), fun h => by simpa using f75 (by simpa using h)⟩
    ·
      simp at ho
      subst ho
      simp [Region.binds] at hd
      obtain rfl := f0 (by simpa using hd)
      refine goes_ Try.func97 (by kernel_rfl) rfl #[.agg #[.int .i64 a0, .int .i64 a1, .slice A l.length c]] rfl rfl rfl (by simp [Act.eval]) ?_
      refine (CP W hB).mono ?_
      rintro e W2 ⟨rfl, hb⟩
      refine ⟨_, rfl, ?_⟩
      exact ⟨s3, s4, .agg #[.int .i64 a0, .int .i64 a1, .slice A l.length c], .agg #[.bool p0, .bool p1, .bool p2, .bool p3, .bool p4, .bool p5], s8, s9, rfl, (below_step hB hb), (blk_below hgb hb), (blk_below hgz hb), fun h => f0 (by simpa using h), fun _ => rfl, fun h => f2 (by simpa using h), fun h => f3 (by simpa using h), fun h => by obtain ⟨gq, e1, e2, e3, e4, e5⟩ := f4 (by simpa using h); exact ⟨gq, e1, e2, e3, e4, by simpa using blk_below e5 hb⟩, fun h => by obtain ⟨gq, e1, e2, e3, e4, e5⟩ := f5 (by simpa using h); exact ⟨gq, e1, e2, e3, e4, by simpa using blk_below e5 hb⟩, fun h1 h2 => f45 (by simpa using h1) (by simpa using h2), fun h => by simpa using f64 (by simpa using h), fun h => by simpa using f75 (by simpa using h)⟩
    ·
      simp at ho
      subst ho
      simp [Region.binds] at hd
      have x0 : W.cell? ⟨gb, 0, none⟩ = some (.int .i64 a0) := (blk_cell hgb 0).trans rfl
      have x1 : W.cell? ⟨gb, 1, none⟩ = some (.int .i64 a1) := (blk_cell hgb 1).trans rfl
      have x2 : W.cell? ⟨gb, 2, none⟩ = some (.slice A l.length c) := (blk_cell hgb 2).trans rfl
      refine value_ (N := some 8) (v := .agg #[.int .i64 a0, .int .i64 a1, .slice A l.length c]) (w1 := W) rfl rfl (by first | (go_simp; done) | (go_simp; rfl)) ?_
      exact ⟨s3, s4, s6, s7, .agg #[.int .i64 a0, .int .i64 a1, .slice A l.length c], s9, rfl, hB, hgb, hgz, fun h => f0 (by simpa using h), fun h => f1 (by simpa using h), fun _ => rfl, fun h => f3 (by simpa using h), fun h => by obtain ⟨gq, e1, e2, e3, e4, e5⟩ := f4 (by simpa using h); exact ⟨gq, e1, e2, e3, e4, by simpa using e5⟩, fun h => by obtain ⟨gq, e1, e2, e3, e4, e5⟩ := f5 (by simpa using h); exact ⟨gq, e1, e2, e3, e4, by simpa using e5⟩, fun h1 h2 => f45 (by simpa using h1) (by simpa using h2), fun h => by simpa using f64 (by simpa using h), fun h => by simpa using f75 (by simpa using h)⟩
    ·
      simp at ho
      subst ho
      simp [Region.binds] at hd
      obtain rfl := f2 (by simpa using hd.1)
      refine goes_ Try.func98 (by kernel_rfl) rfl #[.agg #[.int .i64 a0, .int .i64 a1, .slice A l.length c]] rfl rfl rfl (by simp [Act.eval]) ?_
      refine (CR W hB).mono ?_
      rintro e W2 ⟨rfl, hb⟩
      refine ⟨_, rfl, ?_⟩
      exact ⟨s3, s4, s6, s7, .agg #[.int .i64 a0, .int .i64 a1, .slice A l.length c], .agg #[.bool q0, .bool q1, .bool q2, .bool q3, .bool q4, .bool q5], rfl, (below_step hB hb), (blk_below hgb hb), (blk_below hgz hb), fun h => f0 (by simpa using h), fun h => f1 (by simpa using h), fun h => f2 (by simpa using h), fun _ => rfl, fun h => by obtain ⟨gq, e1, e2, e3, e4, e5⟩ := f4 (by simpa using h); exact ⟨gq, e1, e2, e3, e4, by simpa using blk_below e5 hb⟩, fun h => by obtain ⟨gq, e1, e2, e3, e4, e5⟩ := f5 (by simpa using h); exact ⟨gq, e1, e2, e3, e4, by simpa using blk_below e5 hb⟩, fun h1 h2 => f45 (by simpa using h1) (by simpa using h2), fun h => by simpa using f64 (by simpa using h), fun h => by simpa using f75 (by simpa using h)⟩
    ·
      simp at ho
      subst ho
      simp [Region.binds] at hd
      have nb := blk_new W (.cells #[.bool false, .bool false, .bool false, .bool false, .bool false, .bool false] 106)
      refine value_ (N := some 3) (v := (.pointer (some ⟨W.heap.size, 0, none⟩))) (w1 := W.alloc (.cells #[.bool false, .bool false, .bool false, .bool false, .bool false, .bool false] 106)) rfl rfl (by first | (go_simp; done) | (go_simp; rfl)) ?_
      exact ⟨(.pointer (some ⟨W.heap.size, 0, none⟩)), s4, s6, s7, s8, s9, rfl, (below_alloc hB _), (blk_alloc hgb _), (blk_alloc hgz _), fun h => f0 (by simpa using h), fun h => f1 (by simpa using h), fun h => f2 (by simpa using h), fun h => f3 (by simpa using h), fun _ => ⟨W.heap.size, rfl, hB.size, Nat.ne_of_gt hgbl, Nat.ne_of_gt hgzl, by have hk : L 6 = false := eq_false_of_ne_true (fun h => by rw [f64 h] at hLi; cases hLi); simpa [hk] using nb⟩, fun h => by obtain ⟨gq, e1, e2, e3, e4, e5⟩ := f5 (by simpa using h); exact ⟨gq, e1, e2, e3, e4, by simpa using blk_alloc e5 _⟩, fun h1 h2 e => by obtain ⟨gq, e1, _, _, _, e5⟩ := f5 (by simpa using h2); rw [e1] at e; have := blk_lt e5; injection e with e; injection e with e; injection e with e; omega, fun h => by simp, fun h => by simpa using f75 (by simpa using h)⟩
    ·
      simp at ho
      subst ho
      simp [Region.binds] at hd
      have nb := blk_new W (.cells #[.bool false, .bool false, .bool false, .bool false, .bool false, .bool false] 106)
      refine value_ (N := some 4) (v := (.pointer (some ⟨W.heap.size, 0, none⟩))) (w1 := W.alloc (.cells #[.bool false, .bool false, .bool false, .bool false, .bool false, .bool false] 106)) rfl rfl (by first | (go_simp; done) | (go_simp; rfl)) ?_
      exact ⟨s3, (.pointer (some ⟨W.heap.size, 0, none⟩)), s6, s7, s8, s9, rfl, (below_alloc hB _), (blk_alloc hgb _), (blk_alloc hgz _), fun h => f0 (by simpa using h), fun h => f1 (by simpa using h), fun h => f2 (by simpa using h), fun h => f3 (by simpa using h), fun h => by obtain ⟨gq, e1, e2, e3, e4, e5⟩ := f4 (by simpa using h); exact ⟨gq, e1, e2, e3, e4, by simpa using blk_alloc e5 _⟩, fun _ => ⟨W.heap.size, rfl, hB.size, Nat.ne_of_gt hgbl, Nat.ne_of_gt hgzl, by have hk : L 7 = false := eq_false_of_ne_true (fun h => by rw [f75 h] at hLi; cases hLi); simpa [hk] using nb⟩, fun h1 h2 e => by obtain ⟨gq, e1, _, _, _, e5⟩ := f4 (by simpa using h1); rw [e1] at e; have := blk_lt e5; injection e with e; injection e with e; injection e with e; omega, fun h => by simpa using f64 (by simpa using h), fun h => by simp⟩
    ·
      simp at ho
      subst ho
      simp [Region.binds] at hd
      have hdk : L 4 = true := by simp_all
      have hdv : L 1 = true := by simp_all
      obtain ⟨gq, e1, e2, e3, e4, e5⟩ := f4 hdk
      subst e1
      obtain rfl := f1 hdv
      rw [hLi] at e5
      simp only [Bool.false_eq_true, if_false] at e5
      have x0 : W.cell? ⟨gq, 0, none⟩ = some (.bool false) := (blk_cell e5 0).trans rfl
      have y0 := blk_frozen e5 0
      have x1 : W.cell? ⟨gq, 1, none⟩ = some (.bool false) := (blk_cell e5 1).trans rfl
      have y1 := blk_frozen e5 1
      have x2 : W.cell? ⟨gq, 2, none⟩ = some (.bool false) := (blk_cell e5 2).trans rfl
      have y2 := blk_frozen e5 2
      have x3 : W.cell? ⟨gq, 3, none⟩ = some (.bool false) := (blk_cell e5 3).trans rfl
      have y3 := blk_frozen e5 3
      have x4 : W.cell? ⟨gq, 4, none⟩ = some (.bool false) := (blk_cell e5 4).trans rfl
      have y4 := blk_frozen e5 4
      have x5 : W.cell? ⟨gq, 5, none⟩ = some (.bool false) := (blk_cell e5 5).trans rfl
      have y5 := blk_frozen e5 5
      refine skip_ (w1 := ((((((W.setCell ⟨gq, 0, none⟩ (.bool p0)).setCell ⟨gq, 1, none⟩ (.bool p1)).setCell ⟨gq, 2, none⟩ (.bool p2)).setCell ⟨gq, 3, none⟩ (.bool p3)).setCell ⟨gq, 4, none⟩ (.bool p4)).setCell ⟨gq, 5, none⟩ (.bool p5))) rfl rfl (by first | (go_simp; done) | (go_simp; rfl)) ?_
      exact ⟨_, s4, s6, .agg #[.bool p0, .bool p1, .bool p2, .bool p3, .bool p4, .bool p5], s8, s9, rfl, (below_set (below_set (below_set (below_set (below_set (below_set hB e2) e2) e2) e2) e2) e2), (blk_far (blk_far (blk_far (blk_far (blk_far (blk_far hgb (Ne.symm e3) _) (Ne.symm e3) _) (Ne.symm e3) _) (Ne.symm e3) _) (Ne.symm e3) _) (Ne.symm e3) _), (blk_far (blk_far (blk_far (blk_far (blk_far (blk_far hgz (Ne.symm e4) _) (Ne.symm e4) _) (Ne.symm e4) _) (Ne.symm e4) _) (Ne.symm e4) _) (Ne.symm e4) _), fun h => f0 (by simpa using h), fun h => f1 (by simpa using h), fun h => f2 (by simpa using h), fun h => f3 (by simpa using h), fun _ => ⟨gq, rfl, e2, e3, e4, by simp; exact (blk_put (cs := #[.bool p0, .bool p1, .bool p2, .bool p3, .bool p4, .bool false]) (blk_put (cs := #[.bool p0, .bool p1, .bool p2, .bool p3, .bool false, .bool false]) (blk_put (cs := #[.bool p0, .bool p1, .bool p2, .bool false, .bool false, .bool false]) (blk_put (cs := #[.bool p0, .bool p1, .bool false, .bool false, .bool false, .bool false]) (blk_put (cs := #[.bool p0, .bool false, .bool false, .bool false, .bool false, .bool false]) (blk_put (cs := #[.bool false, .bool false, .bool false, .bool false, .bool false, .bool false]) e5 0 _ rfl) 1 _ rfl) 2 _ rfl) 3 _ rfl) 4 _ rfl) 5 _ rfl)⟩, fun h => by obtain ⟨g2, z1, z2, z3, z4, z5⟩ := f5 (by simpa using h); exact ⟨g2, z1, z2, z3, z4, by simpa using (blk_far (blk_far (blk_far (blk_far (blk_far (blk_far z5 (fun e => f45 hdk (by simpa using h) (by rw [z1, e])) _) (fun e => f45 hdk (by simpa using h) (by rw [z1, e])) _) (fun e => f45 hdk (by simpa using h) (by rw [z1, e])) _) (fun e => f45 hdk (by simpa using h) (by rw [z1, e])) _) (fun e => f45 hdk (by simpa using h) (by rw [z1, e])) _) (fun e => f45 hdk (by simpa using h) (by rw [z1, e])) _)⟩, fun h1 h2 => f45 (by simpa using h1) (by simpa using h2), fun _ => by simpa using hdk, fun h => by simpa using f75 (by simpa using h)⟩
    ·
      simp at ho
      subst ho
      simp [Region.binds] at hd
      have hdk : L 5 = true := by simp_all
      have hdv : L 3 = true := by simp_all
      obtain ⟨gq, e1, e2, e3, e4, e5⟩ := f5 hdk
      subst e1
      obtain rfl := f3 hdv
      rw [hLi] at e5
      simp only [Bool.false_eq_true, if_false] at e5
      have x0 : W.cell? ⟨gq, 0, none⟩ = some (.bool false) := (blk_cell e5 0).trans rfl
      have y0 := blk_frozen e5 0
      have x1 : W.cell? ⟨gq, 1, none⟩ = some (.bool false) := (blk_cell e5 1).trans rfl
      have y1 := blk_frozen e5 1
      have x2 : W.cell? ⟨gq, 2, none⟩ = some (.bool false) := (blk_cell e5 2).trans rfl
      have y2 := blk_frozen e5 2
      have x3 : W.cell? ⟨gq, 3, none⟩ = some (.bool false) := (blk_cell e5 3).trans rfl
      have y3 := blk_frozen e5 3
      have x4 : W.cell? ⟨gq, 4, none⟩ = some (.bool false) := (blk_cell e5 4).trans rfl
      have y4 := blk_frozen e5 4
      have x5 : W.cell? ⟨gq, 5, none⟩ = some (.bool false) := (blk_cell e5 5).trans rfl
      have y5 := blk_frozen e5 5
      refine skip_ (w1 := ((((((W.setCell ⟨gq, 0, none⟩ (.bool q0)).setCell ⟨gq, 1, none⟩ (.bool q1)).setCell ⟨gq, 2, none⟩ (.bool q2)).setCell ⟨gq, 3, none⟩ (.bool q3)).setCell ⟨gq, 4, none⟩ (.bool q4)).setCell ⟨gq, 5, none⟩ (.bool q5))) rfl rfl (by first | (go_simp; done) | (go_simp; rfl)) ?_
      exact ⟨s3, _, s6, s7, s8, .agg #[.bool q0, .bool q1, .bool q2, .bool q3, .bool q4, .bool q5], rfl, (below_set (below_set (below_set (below_set (below_set (below_set hB e2) e2) e2) e2) e2) e2), (blk_far (blk_far (blk_far (blk_far (blk_far (blk_far hgb (Ne.symm e3) _) (Ne.symm e3) _) (Ne.symm e3) _) (Ne.symm e3) _) (Ne.symm e3) _) (Ne.symm e3) _), (blk_far (blk_far (blk_far (blk_far (blk_far (blk_far hgz (Ne.symm e4) _) (Ne.symm e4) _) (Ne.symm e4) _) (Ne.symm e4) _) (Ne.symm e4) _) (Ne.symm e4) _), fun h => f0 (by simpa using h), fun h => f1 (by simpa using h), fun h => f2 (by simpa using h), fun h => f3 (by simpa using h), fun h => by obtain ⟨g2, z1, z2, z3, z4, z5⟩ := f4 (by simpa using h); exact ⟨g2, z1, z2, z3, z4, by simpa using (blk_far (blk_far (blk_far (blk_far (blk_far (blk_far z5 (fun e => f45 (by simpa using h) hdk (by rw [z1, e])) _) (fun e => f45 (by simpa using h) hdk (by rw [z1, e])) _) (fun e => f45 (by simpa using h) hdk (by rw [z1, e])) _) (fun e => f45 (by simpa using h) hdk (by rw [z1, e])) _) (fun e => f45 (by simpa using h) hdk (by rw [z1, e])) _) (fun e => f45 (by simpa using h) hdk (by rw [z1, e])) _)⟩, fun _ => ⟨gq, rfl, e2, e3, e4, by simp; exact (blk_put (cs := #[.bool q0, .bool q1, .bool q2, .bool q3, .bool q4, .bool false]) (blk_put (cs := #[.bool q0, .bool q1, .bool q2, .bool q3, .bool false, .bool false]) (blk_put (cs := #[.bool q0, .bool q1, .bool q2, .bool false, .bool false, .bool false]) (blk_put (cs := #[.bool q0, .bool q1, .bool false, .bool false, .bool false, .bool false]) (blk_put (cs := #[.bool q0, .bool false, .bool false, .bool false, .bool false, .bool false]) (blk_put (cs := #[.bool false, .bool false, .bool false, .bool false, .bool false, .bool false]) e5 0 _ rfl) 1 _ rfl) 2 _ rfl) 3 _ rfl) 4 _ rfl) 5 _ rfl)⟩, fun h1 h2 => f45 (by simpa using h1) (by simpa using h2), fun h => by simpa using f64 (by simpa using h), fun _ => by simpa using hdk⟩
    · simp at ho
  case hend =>
    intro L a W hL hI
    obtain ⟨s3, s4, s6, s7, s8, s9, rfl, hB, hgb, hgz, f0, f1, f2, f3, f4, f5, f45, f64, f75⟩ := hI
    obtain rfl := f0 (hL 0 (by decide))
    obtain rfl := f1 (hL 1 (by decide))
    obtain rfl := f2 (hL 2 (by decide))
    obtain rfl := f3 (hL 3 (by decide))
    have hne := f45 (hL 4 (by decide)) (hL 5 (by decide))
    obtain ⟨gp, rfl, ep1, ep2, ep3, ep4⟩ := f4 (hL 4 (by decide))
    obtain ⟨gr, rfl, er1, er2, er3, er4⟩ := f5 (hL 5 (by decide))
    rw [if_pos (hL 6 (by decide))] at ep4
    rw [if_pos (hL 7 (by decide))] at er4
    clear HB B_gb B_gz f0 f1 f2 f3 f4 f5 f45 f64 f75 CP CR hL L
    have HB := Aside0.mk hB
    have B_gb := Aside0.mk hgb
    have B_gz := Aside0.mk hgz
    have B_gp := Aside0.mk ep4
    have B_gr := Aside0.mk er4
    have GE_gp := Aside0.mk ep1
    have GE_gr := Aside0.mk er1
    have NE_gb_gp := Aside0.mk (show gb ≠ gp from Ne.symm ep2)
    have NE_gz_gp := Aside0.mk (show gz ≠ gp from Ne.symm ep3)
    have NE_gb_gr := Aside0.mk (show gb ≠ gr from Ne.symm er2)
    have NE_gz_gr := Aside0.mk (show gz ≠ gr from Ne.symm er3)
    have NE_gp_gr := Aside0.mk (show gp ≠ gr from fun e => hne (by rw [e]))
    clear hB hgb hgz ep1 ep2 ep3 ep4 er1 er2 er3 er4 hne
    have x_gb_0 : W.cell? ⟨gb, 0, none⟩ = some (.int .i64 a0) := (blk_cell B_gb.out 0).trans rfl
    have x_gb_1 : W.cell? ⟨gb, 1, none⟩ = some (.int .i64 a1) := (blk_cell B_gb.out 1).trans rfl
    have x_gb_2 : W.cell? ⟨gb, 2, none⟩ = some (.slice A l.length c) := (blk_cell B_gb.out 2).trans rfl
    go_upto_region 3 with (first | (go_at_call 81; (with_reducible refine (CC _ HB.out).mono ?_); rintro e W3 ⟨⟨v3, rfl, hs⟩, hb_⟩; clear x_gb_0 x_gb_1 x_gb_2; have n0_ := Aside0.mk (below_step (by repeat (first | (with_reducible first | exact HB.out | apply below_alloc | apply pw_below_drewN | apply below_drew1) | exact HB.out)) hb_); have n_gb := Aside0.mk (blk_below (by (with_reducible repeat (first | refine blk_drewN ?_ _ | refine blk_drew ?_ | refine blk_alloc ?_ _)); exact B_gb.out) hb_); have n_gz := Aside0.mk (blk_below (by (with_reducible repeat (first | refine blk_drewN ?_ _ | refine blk_drew ?_ | refine blk_alloc ?_ _)); exact B_gz.out) hb_); have n_gp := Aside0.mk (blk_below (by (with_reducible repeat (first | refine blk_drewN ?_ _ | refine blk_drew ?_ | refine blk_alloc ?_ _)); exact B_gp.out) hb_); have n_gr := Aside0.mk (blk_below (by (with_reducible repeat (first | refine blk_drewN ?_ _ | refine blk_drew ?_ | refine blk_alloc ?_ _)); exact B_gr.out) hb_); clear HB B_gb B_gz B_gp B_gr; have HB := n0_; have B_gb := n_gb; have B_gz := n_gz; have B_gp := n_gp; have B_gr := n_gr; clear n0_ n_gb n_gz n_gp n_gr; clear hb_; obtain ⟨A1, c1, rfl⟩ := Kd.S_slice hs; have HS := Aside0.mk hs; clear hs CC) | ((with_reducible refine gate_dst (N := 5) rfl ?_); refine box_event ?hg (N := 5) ?hd (cs := #[.int .i64 0, .int .i64 0, .slice none 0 0]) (t := 28) ?hr ?_; (case hd => rfl); (case hg => rfl); (case hr => first | (go_simp; done) | (go_simp; rfl)); intro go hg_ w5 hbox_ hb_; have GE_go := Aside0.mk (show w.heap.size ≤ go by rw [hg_]; exact below_size (by repeat (first | (with_reducible first | exact HB.out | apply below_alloc | apply pw_below_drewN | apply below_drew1) | exact HB.out))); have NE_gb_go := Aside0.mk (show gb ≠ go by rw [hg_]; exact Nat.ne_of_lt (blk_lt (by (with_reducible repeat (first | refine blk_drewN ?_ _ | refine blk_drew ?_ | refine blk_alloc ?_ _)); exact B_gb.out))); have NE_gz_go := Aside0.mk (show gz ≠ go by rw [hg_]; exact Nat.ne_of_lt (blk_lt (by (with_reducible repeat (first | refine blk_drewN ?_ _ | refine blk_drew ?_ | refine blk_alloc ?_ _)); exact B_gz.out))); have NE_gp_go := Aside0.mk (show gp ≠ go by rw [hg_]; exact Nat.ne_of_lt (blk_lt (by (with_reducible repeat (first | refine blk_drewN ?_ _ | refine blk_drew ?_ | refine blk_alloc ?_ _)); exact B_gp.out))); have NE_gr_go := Aside0.mk (show gr ≠ go by rw [hg_]; exact Nat.ne_of_lt (blk_lt (by (with_reducible repeat (first | refine blk_drewN ?_ _ | refine blk_drew ?_ | refine blk_alloc ?_ _)); exact B_gr.out))); have n0_ := Aside0.mk (below_step (by repeat (first | (with_reducible first | exact HB.out | apply below_alloc | apply pw_below_drewN | apply below_drew1) | exact HB.out)) hb_); have n_gb := Aside0.mk (blk_below (by (with_reducible repeat (first | refine blk_drewN ?_ _ | refine blk_drew ?_ | refine blk_alloc ?_ _)); exact B_gb.out) hb_); have n_gz := Aside0.mk (blk_below (by (with_reducible repeat (first | refine blk_drewN ?_ _ | refine blk_drew ?_ | refine blk_alloc ?_ _)); exact B_gz.out) hb_); have n_gp := Aside0.mk (blk_below (by (with_reducible repeat (first | refine blk_drewN ?_ _ | refine blk_drew ?_ | refine blk_alloc ?_ _)); exact B_gp.out) hb_); have n_gr := Aside0.mk (blk_below (by (with_reducible repeat (first | refine blk_drewN ?_ _ | refine blk_drew ?_ | refine blk_alloc ?_ _)); exact B_gr.out) hb_); have nx_HS := Aside0.mk (Kd.S_below HS.out hb_); clear HB B_gb B_gz B_gp B_gr HS; have HB := n0_; have B_gb := n_gb; have B_gz := n_gz; have B_gp := n_gp; have B_gr := n_gr; have HS := nx_HS; clear n0_ n_gb n_gz n_gp n_gr nx_HS; have B_go := Aside0.mk hbox_; clear hb_ hbox_ hg_; have x_go_0 : w5.cell? ⟨go, 0, none⟩ = some (.int .i64 0) := (blk_cell B_go.out 0).trans rfl; have f_go_0 := blk_frozen B_go.out 0; have x_go_1 : w5.cell? ⟨go, 1, none⟩ = some (.int .i64 0) := (blk_cell B_go.out 1).trans rfl; have f_go_1 := blk_frozen B_go.out 1; have x_go_2 : w5.cell? ⟨go, 2, none⟩ = some (.slice none 0 0) := (blk_cell B_go.out 2).trans rfl; have f_go_2 := blk_frozen B_go.out 2))
    obtain ⟨w6, hw_⟩ : ∃ w_ : World, w_ = (((w5.setCell ⟨go, 0, none⟩ (.int .i64 a0)).setCell ⟨go, 1, none⟩ (.int .i64 a1)).setCell ⟨go, 2, none⟩ (.slice A1 l.length c1)) := ⟨_, rfl⟩
    rw [← hw_]
    clear x_go_0 f_go_0 x_go_1 f_go_1 x_go_2 f_go_2
    have m0_ := Aside0.mk (show Below w.heap.size w w6 by rw [hw_]; exact (below_set (below_set (below_set HB.out GE_go.out) GE_go.out) GE_go.out))
    have m_gb := Aside0.mk (show w6.heap[gb]? = some (.cells #[.int .i64 a0, .int .i64 a1, .slice A l.length c] 28 (0, 0)) by rw [hw_]; exact (blk_far (blk_far (blk_far B_gb.out NE_gb_go.out _) NE_gb_go.out _) NE_gb_go.out _))
    have m_gz := Aside0.mk (show w6.heap[gz]? = some (.cells #[.int .i64 0, .int .i64 0, .slice none 0 0] 28 (0, 0)) by rw [hw_]; exact (blk_far (blk_far (blk_far B_gz.out NE_gz_go.out _) NE_gz_go.out _) NE_gz_go.out _))
    have m_gp := Aside0.mk (show w6.heap[gp]? = some (.cells #[.bool p0, .bool p1, .bool p2, .bool p3, .bool p4, .bool p5] 106 (0, 0)) by rw [hw_]; exact (blk_far (blk_far (blk_far B_gp.out NE_gp_go.out _) NE_gp_go.out _) NE_gp_go.out _))
    have m_gr := Aside0.mk (show w6.heap[gr]? = some (.cells #[.bool q0, .bool q1, .bool q2, .bool q3, .bool q4, .bool q5] 106 (0, 0)) by rw [hw_]; exact (blk_far (blk_far (blk_far B_gr.out NE_gr_go.out _) NE_gr_go.out _) NE_gr_go.out _))
    have m_go := Aside0.mk (show w6.heap[go]? = some (.cells #[.int .i64 a0, .int .i64 a1, .slice A1 l.length c1] 28 (0, 0)) by rw [hw_]; exact (blk_put (cs := #[.int .i64 a0, .int .i64 a1, .slice none 0 0]) (blk_put (cs := #[.int .i64 a0, .int .i64 0, .slice none 0 0]) (blk_put (cs := #[.int .i64 0, .int .i64 0, .slice none 0 0]) B_go.out 0 _ rfl) 1 _ rfl) 2 _ rfl))
    have mx_HS := Aside0.mk (S_put (W' := w6) HS.out B_go.out (by decide) (fun k hk => by rw [hw_]; exact (Below.heap_setCell _ ⟨go, 2, none⟩ _ k hk).trans ((Below.heap_setCell _ ⟨go, 1, none⟩ _ k hk).trans (Below.heap_setCell _ ⟨go, 0, none⟩ _ k hk))))
    clear HB hw_ B_gb B_gz B_gp B_gr B_go HS
    have HB := m0_
    have B_gb := m_gb
    have B_gz := m_gz
    have B_gp := m_gp
    have B_gr := m_gr
    have B_go := m_go
    have HS := mx_HS
    clear m0_ m_gb m_gz m_gp m_gr m_go mx_HS
    have x_go_0 : w6.cell? ⟨go, 0, none⟩ = some (.int .i64 a0) := (blk_cell B_go.out 0).trans rfl
    have f_go_0 := blk_frozen B_go.out 0
    have x_go_1 : w6.cell? ⟨go, 1, none⟩ = some (.int .i64 a1) := (blk_cell B_go.out 1).trans rfl
    have f_go_1 := blk_frozen B_go.out 1
    have x_go_2 : w6.cell? ⟨go, 2, none⟩ = some (.slice A1 l.length c1) := (blk_cell B_go.out 2).trans rfl
    have f_go_2 := blk_frozen B_go.out 2
    obtain ⟨rw_, hrw⟩ : ∃ r_, r_ = (Value.slice A1 l.length c1).ownBlock := ⟨_, rfl⟩
    have RN_gb := Aside0.mk (show some gb ≠ rw_ by rw [hrw]; exact Kd.S_ne HS.out B_gb.out (by decide))
    have RN_gz := Aside0.mk (show some gz ≠ rw_ by rw [hrw]; exact Kd.S_ne HS.out B_gz.out (by decide))
    have RN_gp := Aside0.mk (show some gp ≠ rw_ by rw [hrw]; exact Kd.S_ne HS.out B_gp.out (by decide))
    have RN_gr := Aside0.mk (show some gr ≠ rw_ by rw [hrw]; exact Kd.S_ne HS.out B_gr.out (by decide))
    have RN_go := Aside0.mk (show some go ≠ rw_ by rw [hrw]; exact Kd.S_ne HS.out B_go.out (by decide))
    have RB := Aside0.mk (show ∀ k, rw_ = some k → w.heap.size ≤ k by rw [hrw]; exact Kd.S_base HS.out)
    have eg1 : ∀ args w, (callFunc 100 args).run Try.prog w = .ok (.enter 100 args) w := enters_of Try.func100 (by kernel_rfl) rfl
    have DL := delete_calls 100 #[.pointer (some ⟨gr, 0, none⟩), .pointer (some ⟨gp, 0, none⟩)] eg1 (useF1 [p0, p1, p2, p3, p4, p5] [q0, q1, q2, q3, q4, q5]) A1 c1 l.length l w6 w.heap.size (fun _ => True) HS.out (fun x => okR6 x) HOK.out (by rw [← hrw]; exact pred_u1 p0 p1 p2 p3 p4 p5 q0 q1 q2 q3 q4 q5 gp gr _ _ B_gp.out B_gr.out RN_gp.out RN_gr.out)
    rw [← hrw] at DL
    clear hrw eg1
    go_upto_region 4 with (first | (go_at_call 99; (with_reducible refine DL.mono ?_); rintro e w7 ⟨⟨v_, rfl, hs⟩, hg_⟩; clear DL; clear x_go_0 f_go_0 x_go_1 f_go_1 x_go_2 f_go_2; have n0_ := Aside0.mk (below_grown HB.out hg_ RB.out); have n_gb := Aside0.mk (blk_grown B_gb.out hg_ RN_gb.out); have n_gz := Aside0.mk (blk_grown B_gz.out hg_ RN_gz.out); have n_gp := Aside0.mk (blk_grown B_gp.out hg_ RN_gp.out); have n_gr := Aside0.mk (blk_grown B_gr.out hg_ RN_gr.out); have n_go := Aside0.mk (blk_grown B_go.out hg_ RN_go.out); clear HB HS RB B_gb RN_gb B_gz RN_gz B_gp RN_gp B_gr RN_gr B_go RN_go; have HB := n0_; have B_gb := n_gb; have B_gz := n_gz; have B_gp := n_gp; have B_gr := n_gr; have B_go := n_go; clear n0_ hg_ n_gb n_gz n_gp n_gr n_go; obtain ⟨A2, c2, rfl⟩ := Kd.S_slice hs; have HS := Aside0.mk hs; clear hs; rw [← EA.out] at HS ⊢; have HOK2 := Aside0.mk (show ∀ j : Nat, j < (useA l).length → okR6 (rd_T87 (useA l) j) by rw [EA.out]; exact filter_ok HOK.out); have EU := Aside0.mk (show usefulF l = (useA l).filter fun x => !useF2 (reachF (useA l)) x from rfl); clear EA HOK; generalize useA l = m at HS HOK2 EU ⊢; have x_go_0 : w7.cell? ⟨go, 0, none⟩ = some (.int .i64 a0) := (blk_cell B_go.out 0).trans rfl; have f_go_0 := blk_frozen B_go.out 0; have x_go_1 : w7.cell? ⟨go, 1, none⟩ = some (.int .i64 a1) := (blk_cell B_go.out 1).trans rfl; have f_go_1 := blk_frozen B_go.out 1; have x_go_2 : w7.cell? ⟨go, 2, none⟩ = some (.slice A1 l.length c1) := (blk_cell B_go.out 2).trans rfl; have f_go_2 := blk_frozen B_go.out 2))
    obtain ⟨w8, hw_⟩ : ∃ w_ : World, w_ = (w7.setCell ⟨go, 2, none⟩ (.slice A2 m.length c2)) := ⟨_, rfl⟩
    rw [← hw_]
    clear x_go_0 f_go_0 x_go_1 f_go_1 x_go_2 f_go_2
    have m0_ := Aside0.mk (show Below w.heap.size w w8 by rw [hw_]; exact (below_set HB.out GE_go.out))
    have m_gb := Aside0.mk (show w8.heap[gb]? = some (.cells #[.int .i64 a0, .int .i64 a1, .slice A l.length c] 28 (0, 0)) by rw [hw_]; exact (blk_far B_gb.out NE_gb_go.out _))
    have m_gz := Aside0.mk (show w8.heap[gz]? = some (.cells #[.int .i64 0, .int .i64 0, .slice none 0 0] 28 (0, 0)) by rw [hw_]; exact (blk_far B_gz.out NE_gz_go.out _))
    have m_gp := Aside0.mk (show w8.heap[gp]? = some (.cells #[.bool p0, .bool p1, .bool p2, .bool p3, .bool p4, .bool p5] 106 (0, 0)) by rw [hw_]; exact (blk_far B_gp.out NE_gp_go.out _))
    have m_gr := Aside0.mk (show w8.heap[gr]? = some (.cells #[.bool q0, .bool q1, .bool q2, .bool q3, .bool q4, .bool q5] 106 (0, 0)) by rw [hw_]; exact (blk_far B_gr.out NE_gr_go.out _))
    have m_go := Aside0.mk (show w8.heap[go]? = some (.cells #[.int .i64 a0, .int .i64 a1, .slice A2 m.length c2] 28 (0, 0)) by rw [hw_]; exact (blk_put (cs := #[.int .i64 a0, .int .i64 a1, .slice A1 l.length c1]) B_go.out 2 _ rfl))
    have mx_HS := Aside0.mk (S_put (W' := w8) HS.out B_go.out (by decide) (fun k hk => by rw [hw_]; exact Below.heap_setCell _ ⟨go, 2, none⟩ _ k hk))
    clear HB hw_ B_gb B_gz B_gp B_gr B_go HS
    have HB := m0_
    have B_gb := m_gb
    have B_gz := m_gz
    have B_gp := m_gp
    have B_gr := m_gr
    have B_go := m_go
    have HS := mx_HS
    clear m0_ m_gb m_gz m_gp m_gr m_go mx_HS
    have x_go_0 : w8.cell? ⟨go, 0, none⟩ = some (.int .i64 a0) := (blk_cell B_go.out 0).trans rfl
    have x_go_1 : w8.cell? ⟨go, 1, none⟩ = some (.int .i64 a1) := (blk_cell B_go.out 1).trans rfl
    have x_go_2 : w8.cell? ⟨go, 2, none⟩ = some (.slice A2 m.length c2) := (blk_cell B_go.out 2).trans rfl
    obtain ⟨_, hcm, hCm⟩ := Kd.S_reads' HS.out
    obtain ⟨t0, t1, t2, t3, t4, t5, htE⟩ := six (reachF m) (reachF_len _)
    have CR := reached_calls a0 a1 A2 c2 m w8 hCm hcm HOK2.out
    rw [htE] at CR EU
    clear hcm hCm htE
    go_upto_region 5 with (first | (go_at_call 98; (with_reducible refine (CR).mono ?_); rintro e w9 ⟨⟨y0, y1, y2, y3, y4, y5, rfl, hy⟩, hb_⟩; clear x_go_0 x_go_1 x_go_2; have n0_ := Aside0.mk (below_step (by repeat (first | (with_reducible first | exact HB.out | apply below_alloc | apply pw_below_drewN | apply below_drew1) | exact HB.out)) hb_); have n_gb := Aside0.mk (blk_below (by (with_reducible repeat (first | refine blk_drewN ?_ _ | refine blk_drew ?_ | refine blk_alloc ?_ _)); exact B_gb.out) hb_); have n_gz := Aside0.mk (blk_below (by (with_reducible repeat (first | refine blk_drewN ?_ _ | refine blk_drew ?_ | refine blk_alloc ?_ _)); exact B_gz.out) hb_); have n_gp := Aside0.mk (blk_below (by (with_reducible repeat (first | refine blk_drewN ?_ _ | refine blk_drew ?_ | refine blk_alloc ?_ _)); exact B_gp.out) hb_); have n_gr := Aside0.mk (blk_below (by (with_reducible repeat (first | refine blk_drewN ?_ _ | refine blk_drew ?_ | refine blk_alloc ?_ _)); exact B_gr.out) hb_); have n_go := Aside0.mk (blk_below (by (with_reducible repeat (first | refine blk_drewN ?_ _ | refine blk_drew ?_ | refine blk_alloc ?_ _)); exact B_go.out) hb_); have nx_HS := Aside0.mk (Kd.S_below HS.out hb_); clear HB B_gb B_gz B_gp B_gr B_go HS; have HB := n0_; have B_gb := n_gb; have B_gz := n_gz; have B_gp := n_gp; have B_gr := n_gr; have B_go := n_go; have HS := nx_HS; clear n0_ n_gb n_gz n_gp n_gr n_go nx_HS; clear hb_; have x_gr_0 : w9.cell? ⟨gr, 0, none⟩ = some (.bool q0) := (blk_cell B_gr.out 0).trans rfl; have f_gr_0 := blk_frozen B_gr.out 0; have x_gr_1 : w9.cell? ⟨gr, 1, none⟩ = some (.bool q1) := (blk_cell B_gr.out 1).trans rfl; have f_gr_1 := blk_frozen B_gr.out 1; have x_gr_2 : w9.cell? ⟨gr, 2, none⟩ = some (.bool q2) := (blk_cell B_gr.out 2).trans rfl; have f_gr_2 := blk_frozen B_gr.out 2; have x_gr_3 : w9.cell? ⟨gr, 3, none⟩ = some (.bool q3) := (blk_cell B_gr.out 3).trans rfl; have f_gr_3 := blk_frozen B_gr.out 3; have x_gr_4 : w9.cell? ⟨gr, 4, none⟩ = some (.bool q4) := (blk_cell B_gr.out 4).trans rfl; have f_gr_4 := blk_frozen B_gr.out 4; have x_gr_5 : w9.cell? ⟨gr, 5, none⟩ = some (.bool q5) := (blk_cell B_gr.out 5).trans rfl; have f_gr_5 := blk_frozen B_gr.out 5; have x_go_0 : w9.cell? ⟨go, 0, none⟩ = some (.int .i64 a0) := (blk_cell B_go.out 0).trans rfl; have x_go_1 : w9.cell? ⟨go, 1, none⟩ = some (.int .i64 a1) := (blk_cell B_go.out 1).trans rfl; have x_go_2 : w9.cell? ⟨go, 2, none⟩ = some (.slice A2 m.length c2) := (blk_cell B_go.out 2).trans rfl; simp only [List.cons.injEq, and_true] at hy; obtain ⟨rfl, rfl, rfl, rfl, rfl, rfl⟩ := hy; clear CR))
    obtain ⟨w10, hw_⟩ : ∃ w_ : World, w_ = ((((((w9.setCell ⟨gr, 0, none⟩ (.bool t0)).setCell ⟨gr, 1, none⟩ (.bool t1)).setCell ⟨gr, 2, none⟩ (.bool t2)).setCell ⟨gr, 3, none⟩ (.bool t3)).setCell ⟨gr, 4, none⟩ (.bool t4)).setCell ⟨gr, 5, none⟩ (.bool t5)) := ⟨_, rfl⟩
    rw [← hw_]
    clear x_gr_0 f_gr_0 x_gr_1 f_gr_1 x_gr_2 f_gr_2 x_gr_3 f_gr_3 x_gr_4 f_gr_4 x_gr_5 f_gr_5 x_go_0 x_go_1 x_go_2
    have m0_ := Aside0.mk (show Below w.heap.size w w10 by rw [hw_]; exact (below_set (below_set (below_set (below_set (below_set (below_set HB.out GE_gr.out) GE_gr.out) GE_gr.out) GE_gr.out) GE_gr.out) GE_gr.out))
    have m_gb := Aside0.mk (show w10.heap[gb]? = some (.cells #[.int .i64 a0, .int .i64 a1, .slice A l.length c] 28 (0, 0)) by rw [hw_]; exact (blk_far (blk_far (blk_far (blk_far (blk_far (blk_far B_gb.out NE_gb_gr.out _) NE_gb_gr.out _) NE_gb_gr.out _) NE_gb_gr.out _) NE_gb_gr.out _) NE_gb_gr.out _))
    have m_gz := Aside0.mk (show w10.heap[gz]? = some (.cells #[.int .i64 0, .int .i64 0, .slice none 0 0] 28 (0, 0)) by rw [hw_]; exact (blk_far (blk_far (blk_far (blk_far (blk_far (blk_far B_gz.out NE_gz_gr.out _) NE_gz_gr.out _) NE_gz_gr.out _) NE_gz_gr.out _) NE_gz_gr.out _) NE_gz_gr.out _))
    have m_gp := Aside0.mk (show w10.heap[gp]? = some (.cells #[.bool p0, .bool p1, .bool p2, .bool p3, .bool p4, .bool p5] 106 (0, 0)) by rw [hw_]; exact (blk_far (blk_far (blk_far (blk_far (blk_far (blk_far B_gp.out NE_gp_gr.out _) NE_gp_gr.out _) NE_gp_gr.out _) NE_gp_gr.out _) NE_gp_gr.out _) NE_gp_gr.out _))
    have m_gr := Aside0.mk (show w10.heap[gr]? = some (.cells #[.bool t0, .bool t1, .bool t2, .bool t3, .bool t4, .bool t5] 106 (0, 0)) by rw [hw_]; exact (blk_put (cs := #[.bool t0, .bool t1, .bool t2, .bool t3, .bool t4, .bool q5]) (blk_put (cs := #[.bool t0, .bool t1, .bool t2, .bool t3, .bool q4, .bool q5]) (blk_put (cs := #[.bool t0, .bool t1, .bool t2, .bool q3, .bool q4, .bool q5]) (blk_put (cs := #[.bool t0, .bool t1, .bool q2, .bool q3, .bool q4, .bool q5]) (blk_put (cs := #[.bool t0, .bool q1, .bool q2, .bool q3, .bool q4, .bool q5]) (blk_put (cs := #[.bool q0, .bool q1, .bool q2, .bool q3, .bool q4, .bool q5]) B_gr.out 0 _ rfl) 1 _ rfl) 2 _ rfl) 3 _ rfl) 4 _ rfl) 5 _ rfl))
    have m_go := Aside0.mk (show w10.heap[go]? = some (.cells #[.int .i64 a0, .int .i64 a1, .slice A2 m.length c2] 28 (0, 0)) by rw [hw_]; exact (blk_far (blk_far (blk_far (blk_far (blk_far (blk_far B_go.out (Ne.symm NE_gr_go.out) _) (Ne.symm NE_gr_go.out) _) (Ne.symm NE_gr_go.out) _) (Ne.symm NE_gr_go.out) _) (Ne.symm NE_gr_go.out) _) (Ne.symm NE_gr_go.out) _))
    have mx_HS := Aside0.mk (S_put (W' := w10) HS.out B_gr.out (by decide) (fun k hk => by rw [hw_]; exact (Below.heap_setCell _ ⟨gr, 5, none⟩ _ k hk).trans ((Below.heap_setCell _ ⟨gr, 4, none⟩ _ k hk).trans ((Below.heap_setCell _ ⟨gr, 3, none⟩ _ k hk).trans ((Below.heap_setCell _ ⟨gr, 2, none⟩ _ k hk).trans ((Below.heap_setCell _ ⟨gr, 1, none⟩ _ k hk).trans (Below.heap_setCell _ ⟨gr, 0, none⟩ _ k hk)))))))
    clear HB hw_ B_gb B_gz B_gp B_gr B_go HS
    have HB := m0_
    have B_gb := m_gb
    have B_gz := m_gz
    have B_gp := m_gp
    have B_gr := m_gr
    have B_go := m_go
    have HS := mx_HS
    clear m0_ m_gb m_gz m_gp m_gr m_go mx_HS
    have x_go_0 : w10.cell? ⟨go, 0, none⟩ = some (.int .i64 a0) := (blk_cell B_go.out 0).trans rfl
    have f_go_0 := blk_frozen B_go.out 0
    have x_go_1 : w10.cell? ⟨go, 1, none⟩ = some (.int .i64 a1) := (blk_cell B_go.out 1).trans rfl
    have f_go_1 := blk_frozen B_go.out 1
    have x_go_2 : w10.cell? ⟨go, 2, none⟩ = some (.slice A2 m.length c2) := (blk_cell B_go.out 2).trans rfl
    have f_go_2 := blk_frozen B_go.out 2
    obtain ⟨rw_, hrw⟩ : ∃ r_, r_ = (Value.slice A2 m.length c2).ownBlock := ⟨_, rfl⟩
    have RN_gb := Aside0.mk (show some gb ≠ rw_ by rw [hrw]; exact Kd.S_ne HS.out B_gb.out (by decide))
    have RN_gz := Aside0.mk (show some gz ≠ rw_ by rw [hrw]; exact Kd.S_ne HS.out B_gz.out (by decide))
    have RN_gp := Aside0.mk (show some gp ≠ rw_ by rw [hrw]; exact Kd.S_ne HS.out B_gp.out (by decide))
    have RN_gr := Aside0.mk (show some gr ≠ rw_ by rw [hrw]; exact Kd.S_ne HS.out B_gr.out (by decide))
    have RN_go := Aside0.mk (show some go ≠ rw_ by rw [hrw]; exact Kd.S_ne HS.out B_go.out (by decide))
    have RB := Aside0.mk (show ∀ k, rw_ = some k → w.heap.size ≤ k by rw [hrw]; exact Kd.S_base HS.out)
    have eg2 : ∀ args w, (callFunc 103 args).run Try.prog w = .ok (.enter 103 args) w := enters_of Try.func103 (by kernel_rfl) rfl
    have DL := delete_calls 103 #[.pointer (some ⟨gr, 0, none⟩)] eg2 (useF2 [t0, t1, t2, t3, t4, t5]) A2 c2 m.length m w10 w.heap.size (fun _ => True) HS.out (fun x => okR6 x) HOK2.out (by rw [← hrw]; exact pred_u2 t0 t1 t2 t3 t4 t5 gr _ _ B_gr.out RN_gr.out)
    rw [← hrw] at DL
    clear hrw eg2
    go_upto_region 6 with (first | (go_at_call 99; (with_reducible refine DL.mono ?_); rintro e w11 ⟨⟨v_, rfl, hs⟩, hg_⟩; clear DL; clear x_go_0 f_go_0 x_go_1 f_go_1 x_go_2 f_go_2; have n0_ := Aside0.mk (below_grown HB.out hg_ RB.out); have n_gb := Aside0.mk (blk_grown B_gb.out hg_ RN_gb.out); have n_gz := Aside0.mk (blk_grown B_gz.out hg_ RN_gz.out); have n_gp := Aside0.mk (blk_grown B_gp.out hg_ RN_gp.out); have n_gr := Aside0.mk (blk_grown B_gr.out hg_ RN_gr.out); have n_go := Aside0.mk (blk_grown B_go.out hg_ RN_go.out); clear HB HS RB B_gb RN_gb B_gz RN_gz B_gp RN_gp B_gr RN_gr B_go RN_go; have HB := n0_; have B_gb := n_gb; have B_gz := n_gz; have B_gp := n_gp; have B_gr := n_gr; have B_go := n_go; clear n0_ hg_ n_gb n_gz n_gp n_gr n_go; obtain ⟨A3, c3, rfl⟩ := Kd.S_slice hs; have HS := Aside0.mk hs; clear hs; rw [← EU.out] at HS ⊢; clear EU HOK2; obtain ⟨u, huE⟩ : ∃ u_, u_ = usefulF l := ⟨_, rfl⟩; rw [← huE] at HS ⊢; have UE := Aside0.mk huE; clear huE; have x_go_0 : w11.cell? ⟨go, 0, none⟩ = some (.int .i64 a0) := (blk_cell B_go.out 0).trans rfl; have f_go_0 := blk_frozen B_go.out 0; have x_go_1 : w11.cell? ⟨go, 1, none⟩ = some (.int .i64 a1) := (blk_cell B_go.out 1).trans rfl; have f_go_1 := blk_frozen B_go.out 1; have x_go_2 : w11.cell? ⟨go, 2, none⟩ = some (.slice A2 m.length c2) := (blk_cell B_go.out 2).trans rfl; have f_go_2 := blk_frozen B_go.out 2))
    obtain ⟨w12, hw_⟩ : ∃ w_ : World, w_ = (w11.setCell ⟨go, 2, none⟩ (.slice A3 u.length c3)) := ⟨_, rfl⟩
    rw [← hw_]
    clear x_go_0 f_go_0 x_go_1 f_go_1 x_go_2 f_go_2
    have m0_ := Aside0.mk (show Below w.heap.size w w12 by rw [hw_]; exact (below_set HB.out GE_go.out))
    have m_gb := Aside0.mk (show w12.heap[gb]? = some (.cells #[.int .i64 a0, .int .i64 a1, .slice A l.length c] 28 (0, 0)) by rw [hw_]; exact (blk_far B_gb.out NE_gb_go.out _))
    have m_gz := Aside0.mk (show w12.heap[gz]? = some (.cells #[.int .i64 0, .int .i64 0, .slice none 0 0] 28 (0, 0)) by rw [hw_]; exact (blk_far B_gz.out NE_gz_go.out _))
    have m_gp := Aside0.mk (show w12.heap[gp]? = some (.cells #[.bool p0, .bool p1, .bool p2, .bool p3, .bool p4, .bool p5] 106 (0, 0)) by rw [hw_]; exact (blk_far B_gp.out NE_gp_go.out _))
    have m_gr := Aside0.mk (show w12.heap[gr]? = some (.cells #[.bool t0, .bool t1, .bool t2, .bool t3, .bool t4, .bool t5] 106 (0, 0)) by rw [hw_]; exact (blk_far B_gr.out NE_gr_go.out _))
    have m_go := Aside0.mk (show w12.heap[go]? = some (.cells #[.int .i64 a0, .int .i64 a1, .slice A3 u.length c3] 28 (0, 0)) by rw [hw_]; exact (blk_put (cs := #[.int .i64 a0, .int .i64 a1, .slice A2 m.length c2]) B_go.out 2 _ rfl))
    have mx_HS := Aside0.mk (S_put (W' := w12) HS.out B_go.out (by decide) (fun k hk => by rw [hw_]; exact Below.heap_setCell _ ⟨go, 2, none⟩ _ k hk))
    clear HB hw_ B_gb B_gz B_gp B_gr B_go HS
    have HB := m0_
    have B_gb := m_gb
    have B_gz := m_gz
    have B_gp := m_gp
    have B_gr := m_gr
    have B_go := m_go
    have HS := mx_HS
    clear m0_ m_gb m_gz m_gp m_gr m_go mx_HS
    have x_gz_0 : w12.cell? ⟨gz, 0, none⟩ = some (.int .i64 0) := (blk_cell B_gz.out 0).trans rfl
    have f_gz_0 := blk_frozen B_gz.out 0
    have x_gz_1 : w12.cell? ⟨gz, 1, none⟩ = some (.int .i64 0) := (blk_cell B_gz.out 1).trans rfl
    have f_gz_1 := blk_frozen B_gz.out 1
    have x_gz_2 : w12.cell? ⟨gz, 2, none⟩ = some (.slice none 0 0) := (blk_cell B_gz.out 2).trans rfl
    have f_gz_2 := blk_frozen B_gz.out 2
    have x_go_0 : w12.cell? ⟨go, 0, none⟩ = some (.int .i64 a0) := (blk_cell B_go.out 0).trans rfl
    have x_go_1 : w12.cell? ⟨go, 1, none⟩ = some (.int .i64 a1) := (blk_cell B_go.out 1).trans rfl
    have x_go_2 : w12.cell? ⟨go, 2, none⟩ = some (.slice A3 u.length c3) := (blk_cell B_go.out 2).trans rfl
    go_wp2
    obtain ⟨w13, hw_⟩ : ∃ w_ : World, w_ = (((w12.setCell ⟨gz, 0, none⟩ (.int .i64 a0)).setCell ⟨gz, 1, none⟩ (.int .i64 a1)).setCell ⟨gz, 2, none⟩ (.slice A3 u.length c3)) := ⟨_, rfl⟩
    rw [← hw_]
    clear x_gz_0 f_gz_0 x_gz_1 f_gz_1 x_gz_2 f_gz_2 x_go_0 x_go_1 x_go_2
    have m0_ := Aside0.mk (show Below w.heap.size w w13 by rw [hw_]; exact (below_set (below_set (below_set HB.out GE_gz.out) GE_gz.out) GE_gz.out))
    have m_gb := Aside0.mk (show w13.heap[gb]? = some (.cells #[.int .i64 a0, .int .i64 a1, .slice A l.length c] 28 (0, 0)) by rw [hw_]; exact (blk_far (blk_far (blk_far B_gb.out NE_gb_gz.out _) NE_gb_gz.out _) NE_gb_gz.out _))
    have m_gz := Aside0.mk (show w13.heap[gz]? = some (.cells #[.int .i64 a0, .int .i64 a1, .slice A3 u.length c3] 28 (0, 0)) by rw [hw_]; exact (blk_put (cs := #[.int .i64 a0, .int .i64 a1, .slice none 0 0]) (blk_put (cs := #[.int .i64 a0, .int .i64 0, .slice none 0 0]) (blk_put (cs := #[.int .i64 0, .int .i64 0, .slice none 0 0]) B_gz.out 0 _ rfl) 1 _ rfl) 2 _ rfl))
    have m_gp := Aside0.mk (show w13.heap[gp]? = some (.cells #[.bool p0, .bool p1, .bool p2, .bool p3, .bool p4, .bool p5] 106 (0, 0)) by rw [hw_]; exact (blk_far (blk_far (blk_far B_gp.out (Ne.symm NE_gz_gp.out) _) (Ne.symm NE_gz_gp.out) _) (Ne.symm NE_gz_gp.out) _))
    have m_gr := Aside0.mk (show w13.heap[gr]? = some (.cells #[.bool t0, .bool t1, .bool t2, .bool t3, .bool t4, .bool t5] 106 (0, 0)) by rw [hw_]; exact (blk_far (blk_far (blk_far B_gr.out (Ne.symm NE_gz_gr.out) _) (Ne.symm NE_gz_gr.out) _) (Ne.symm NE_gz_gr.out) _))
    have m_go := Aside0.mk (show w13.heap[go]? = some (.cells #[.int .i64 a0, .int .i64 a1, .slice A3 u.length c3] 28 (0, 0)) by rw [hw_]; exact (blk_far (blk_far (blk_far B_go.out (Ne.symm NE_gz_go.out) _) (Ne.symm NE_gz_go.out) _) (Ne.symm NE_gz_go.out) _))
    have mx_HS := Aside0.mk (S_put (W' := w13) HS.out B_gz.out (by decide) (fun k hk => by rw [hw_]; exact (Below.heap_setCell _ ⟨gz, 2, none⟩ _ k hk).trans ((Below.heap_setCell _ ⟨gz, 1, none⟩ _ k hk).trans (Below.heap_setCell _ ⟨gz, 0, none⟩ _ k hk))))
    clear HB hw_ B_gb B_gz B_gp B_gr B_go HS
    have HB := m0_
    have B_gb := m_gb
    have B_gz := m_gz
    have B_gp := m_gp
    have B_gr := m_gr
    have B_go := m_go
    have HS := mx_HS
    clear m0_ m_gb m_gz m_gp m_gr m_go mx_HS
    have x_gz_0 : w13.cell? ⟨gz, 0, none⟩ = some (.int .i64 a0) := (blk_cell B_gz.out 0).trans rfl
    have x_gz_1 : w13.cell? ⟨gz, 1, none⟩ = some (.int .i64 a1) := (blk_cell B_gz.out 1).trans rfl
    have x_gz_2 : w13.cell? ⟨gz, 2, none⟩ = some (.slice A3 u.length c3) := (blk_cell B_gz.out 2).trans rfl
    refine bodyPost_ret (v := .agg #[.int .i64 a0, .int .i64 a1, .slice A3 u.length c3]) (by simp [results, Try.results56, go_sem, x_gz_0, x_gz_1, x_gz_2]) rfl ⟨⟨_, rfl, by rw [← UE.out]; exact HS.out⟩, HB.out⟩
end Go.Proofs.Ytekoclhnfhbmeaa.P
namespace Go.Proofs.Ytekoclhnfhbmeaa.P
open Go.RowKit Go.Proofs.YtekoclhnfhbmeaaW.PrintWords Go.Proofs.YtekoclhnfhbmeaaW.PrintLast Go.Proofs.YtekoclhnfhbmeaaW.PrintMore
set_option linter.unusedVariables false
set_option linter.unusedSimpArgs false
theorem goodG_smallI {a0 a1 : Int} {l : List S87} (h : goodG a0 a1 l = true) : smallI l := by
  have hl := goodG_okL h
  exact ⟨by have := hl.1; omega, fun i hi => by have := (hl.2 i hi).2; omega⟩
end Go.Proofs.Ytekoclhnfhbmeaa.P
namespace Go.Proofs.Ytekoclhnfhbmeaa.P
open Go.RowKit Go.Proofs.YtekoclhnfhbmeaaW.PrintWords Go.Proofs.YtekoclhnfhbmeaaW.PrintLast Go.Proofs.YtekoclhnfhbmeaaW.PrintMore
set_option linter.unusedVariables false
set_option linter.unusedSimpArgs false
def impl_UsefulOf.f (a0_0 a0_1 : Int) (l0_2 : List S87) : Option (Int × Int × List S87 × Bool) := some (if goodG a0_0 a0_1 l0_2 = true then (a0_0, a0_1, usefulF l0_2, true) else (0, 0, [], false))
set_option maxHeartbeats 4000000 in
theorem impl_UsefulOf.calls (a0_0 a0_1 : Int) (A0_2 : Option Addr) (c0_2 : Nat) (l0_2 : List S87) (r1 r2 : Int) (r3 : List S87) (r4 : Bool) (w : World) (hr0_2 : Kd.C k87 w A0_2 l0_2.length l0_2) (hc0_2 : l0_2.length ≤ c0_2) (h : impl_UsefulOf.f a0_0 a0_1 l0_2 = some (r1, r2, r3, r4)) :
    Calls Try.prog 18 #[.agg #[.int .i64 a0_0, .int .i64 a0_1, .slice A0_2 l0_2.length c0_2]] w fun e w' => ∃ v2_ : Value, e = .returned (.tuple #[.agg #[.int .i64 r1, .int .i64 r2, v2_], .bool r4]) ∧ Kd.S k87 87 w' w.heap.size (fun _ => True) v2_ r3 ∧ Below w.heap.size w w' := by
  have hu := Try.underlying28
  have CI := fun (W : World) (hW : Below w.heap.size w W) => impl_isGrammar.calls a0_0 a0_1 A0_2 c0_2 l0_2 (goodG a0_0 a0_1 l0_2) W (Kd.C_below hr0_2 hW) hc0_2 rfl
  have HB := Aside0.mk (Below.refl w.heap.size w)
  have tok1 : True := trivial
  cases hg : goodG a0_0 a0_1 l0_2 with
  | true =>
    rw [hg] at CI
    have CN : ∀ (W : World) (hW : Below w.heap.size w W), Calls Try.prog 56 #[.agg #[.int .i64 a0_0, .int .i64 a0_1, .slice A0_2 l0_2.length c0_2]] W fun e w' => (∃ A3 c3, e = .returned (.agg #[.int .i64 a0_0, .int .i64 a0_1, .slice A3 (usefulF l0_2).length c3]) ∧ Kd.S k87 87 w' W.heap.size (fun _ => True) (.slice A3 (usefulF l0_2).length c3) (usefulF l0_2)) ∧ Below W.heap.size W w' := fun W hW =>
      (useful_calls a0_0 a0_1 A0_2 c0_2 l0_2 W (Kd.C_below hr0_2 hW) hc0_2 (goodG_smallI hg) (fun j hj => goodG_okR6 hg j hj)).mono fun e w' ⟨⟨v, he, hs⟩, hb⟩ => by obtain ⟨A3, c3, rfl⟩ := Kd.S_slice hs; exact ⟨⟨A3, c3, he, hs⟩, hb⟩
    have hf : (a0_0, a0_1, usefulF l0_2, true) = (r1, r2, r3, r4) := by unfold impl_UsefulOf.f at h; rw [hg, if_pos rfl] at h; exact Option.some.inj h
    obtain ⟨e1, e2⟩ := Prod.mk.inj hf
    obtain ⟨e5, e6⟩ := Prod.mk.inj e2
    obtain ⟨e3, e4⟩ := Prod.mk.inj e6
    clear e2 e6
    subst e1 e5 e4
    have E1 := Aside0.mk e3
    clear h hf hr0_2 e3
    generalize usefulF l0_2 = u at CN E1
    go_enter Try.func18, Try.ntmps18
    go_wp2_with (first | ((with_reducible refine gate_dst (N := 1) rfl ?_); refine box_event ?hg (N := 1) ?hd (cs := #[.int .i64 a0_0, .int .i64 a0_1, .slice A0_2 l0_2.length c0_2]) (t := 28) ?hr ?_; (case hd => rfl); (case hg => rfl); (case hr => first | (go_simp; done) | (go_simp; rfl)); intro gb hg_ w1 hbox_ hb_; have GE_gb := Aside0.mk (show w.heap.size ≤ gb by rw [hg_]; exact below_size (by repeat (first | (with_reducible first | exact HB.out | apply below_alloc | apply pw_below_drewN | apply below_drew1) | exact HB.out))); have n0_ := Aside0.mk (below_step (by repeat (first | (with_reducible first | exact HB.out | apply below_alloc | apply pw_below_drewN | apply below_drew1) | exact HB.out)) hb_); clear HB; have HB := n0_; clear n0_; have B_gb := Aside0.mk hbox_; clear hb_ hbox_ hg_; have x_gb_0 : w1.cell? ⟨gb, 0, none⟩ = some (.int .i64 a0_0) := (blk_cell B_gb.out 0).trans rfl; have x_gb_1 : w1.cell? ⟨gb, 1, none⟩ = some (.int .i64 a0_1) := (blk_cell B_gb.out 1).trans rfl; have x_gb_2 : w1.cell? ⟨gb, 2, none⟩ = some (.slice A0_2 l0_2.length c0_2) := (blk_cell B_gb.out 2).trans rfl) | ((with_reducible refine gate_dst (N := 2) rfl ?_); refine box_event ?hg (N := 2) ?hd (cs := #[.int .i64 0, .int .i64 0, .slice none 0 0]) (t := 28) ?hr ?_; (case hd => rfl); (case hg => rfl); (case hr => first | (go_simp; done) | (go_simp; rfl)); intro gz hg_ w2 hbox_ hb_; have GE_gz := Aside0.mk (show w.heap.size ≤ gz by rw [hg_]; exact below_size (by repeat (first | (with_reducible first | exact HB.out | apply below_alloc | apply pw_below_drewN | apply below_drew1) | exact HB.out))); have NE_gb_gz := Aside0.mk (show gb ≠ gz by rw [hg_]; exact Nat.ne_of_lt (blk_lt (by (with_reducible repeat (first | refine blk_drewN ?_ _ | refine blk_drew ?_ | refine blk_alloc ?_ _)); exact B_gb.out))); clear x_gb_0 x_gb_1 x_gb_2; have n0_ := Aside0.mk (below_step (by repeat (first | (with_reducible first | exact HB.out | apply below_alloc | apply pw_below_drewN | apply below_drew1) | exact HB.out)) hb_); have n_gb := Aside0.mk (blk_below (by (with_reducible repeat (first | refine blk_drewN ?_ _ | refine blk_drew ?_ | refine blk_alloc ?_ _)); exact B_gb.out) hb_); clear HB B_gb; have HB := n0_; have B_gb := n_gb; clear n0_ n_gb; have B_gz := Aside0.mk hbox_; clear hb_ hbox_ hg_; have x_gb_0 : w2.cell? ⟨gb, 0, none⟩ = some (.int .i64 a0_0) := (blk_cell B_gb.out 0).trans rfl; have x_gb_1 : w2.cell? ⟨gb, 1, none⟩ = some (.int .i64 a0_1) := (blk_cell B_gb.out 1).trans rfl; have x_gb_2 : w2.cell? ⟨gb, 2, none⟩ = some (.slice A0_2 l0_2.length c0_2) := (blk_cell B_gb.out 2).trans rfl; have x_gz_0 : w2.cell? ⟨gz, 0, none⟩ = some (.int .i64 0) := (blk_cell B_gz.out 0).trans rfl; have f_gz_0 := blk_frozen B_gz.out 0; have x_gz_1 : w2.cell? ⟨gz, 1, none⟩ = some (.int .i64 0) := (blk_cell B_gz.out 1).trans rfl; have f_gz_1 := blk_frozen B_gz.out 1; have x_gz_2 : w2.cell? ⟨gz, 2, none⟩ = some (.slice none 0 0) := (blk_cell B_gz.out 2).trans rfl; have f_gz_2 := blk_frozen B_gz.out 2) | (have _t := tok1; go_at_call 55; (with_reducible refine (CI _ HB.out).mono ?_); rintro e w3 ⟨rfl, hb_⟩; clear x_gb_0 x_gb_1 x_gb_2 x_gz_0 f_gz_0 x_gz_1 f_gz_1 x_gz_2 f_gz_2; have n0_ := Aside0.mk (below_step (by repeat (first | (with_reducible first | exact HB.out | apply below_alloc | apply pw_below_drewN | apply below_drew1) | exact HB.out)) hb_); have n_gb := Aside0.mk (blk_below (by (with_reducible repeat (first | refine blk_drewN ?_ _ | refine blk_drew ?_ | refine blk_alloc ?_ _)); exact B_gb.out) hb_); have n_gz := Aside0.mk (blk_below (by (with_reducible repeat (first | refine blk_drewN ?_ _ | refine blk_drew ?_ | refine blk_alloc ?_ _)); exact B_gz.out) hb_); clear HB B_gb B_gz; have HB := n0_; have B_gb := n_gb; have B_gz := n_gz; clear n0_ n_gb n_gz; clear hb_; have x_gb_0 : w3.cell? ⟨gb, 0, none⟩ = some (.int .i64 a0_0) := (blk_cell B_gb.out 0).trans rfl; have x_gb_1 : w3.cell? ⟨gb, 1, none⟩ = some (.int .i64 a0_1) := (blk_cell B_gb.out 1).trans rfl; have x_gb_2 : w3.cell? ⟨gb, 2, none⟩ = some (.slice A0_2 l0_2.length c0_2) := (blk_cell B_gb.out 2).trans rfl; have x_gz_0 : w3.cell? ⟨gz, 0, none⟩ = some (.int .i64 0) := (blk_cell B_gz.out 0).trans rfl; have f_gz_0 := blk_frozen B_gz.out 0; have x_gz_1 : w3.cell? ⟨gz, 1, none⟩ = some (.int .i64 0) := (blk_cell B_gz.out 1).trans rfl; have f_gz_1 := blk_frozen B_gz.out 1; have x_gz_2 : w3.cell? ⟨gz, 2, none⟩ = some (.slice none 0 0) := (blk_cell B_gz.out 2).trans rfl; have f_gz_2 := blk_frozen B_gz.out 2; clear CI tok1) | (go_at_call 56; (with_reducible refine (CN _ HB.out).mono ?_); rintro e w4 ⟨⟨A3, c3, rfl, hs⟩, hb_⟩; clear x_gb_0 x_gb_1 x_gb_2 x_gz_0 f_gz_0 x_gz_1 f_gz_1 x_gz_2 f_gz_2; have hs := Kd.S_lower hs (below_size (by repeat (first | (with_reducible first | exact HB.out | apply below_alloc | apply pw_below_drewN | apply below_drew1) | exact HB.out))); have n0_ := Aside0.mk (below_step (by repeat (first | (with_reducible first | exact HB.out | apply below_alloc | apply pw_below_drewN | apply below_drew1) | exact HB.out)) hb_); have n_gb := Aside0.mk (blk_below (by (with_reducible repeat (first | refine blk_drewN ?_ _ | refine blk_drew ?_ | refine blk_alloc ?_ _)); exact B_gb.out) hb_); have n_gz := Aside0.mk (blk_below (by (with_reducible repeat (first | refine blk_drewN ?_ _ | refine blk_drew ?_ | refine blk_alloc ?_ _)); exact B_gz.out) hb_); clear HB B_gb B_gz; have HB := n0_; have B_gb := n_gb; have B_gz := n_gz; clear n0_ n_gb n_gz; clear hb_; have x_gz_0 : w4.cell? ⟨gz, 0, none⟩ = some (.int .i64 0) := (blk_cell B_gz.out 0).trans rfl; have f_gz_0 := blk_frozen B_gz.out 0; have x_gz_1 : w4.cell? ⟨gz, 1, none⟩ = some (.int .i64 0) := (blk_cell B_gz.out 1).trans rfl; have f_gz_1 := blk_frozen B_gz.out 1; have x_gz_2 : w4.cell? ⟨gz, 2, none⟩ = some (.slice none 0 0) := (blk_cell B_gz.out 2).trans rfl; have f_gz_2 := blk_frozen B_gz.out 2; have HS := Aside0.mk hs; clear hs CN))
    obtain ⟨w5, hw_⟩ : ∃ w_ : World, w_ = (((w4.setCell ⟨gz, 0, none⟩ (.int .i64 a0_0)).setCell ⟨gz, 1, none⟩ (.int .i64 a0_1)).setCell ⟨gz, 2, none⟩ (.slice A3 u.length c3)) := ⟨_, rfl⟩
    rw [← hw_]
    clear x_gz_0 f_gz_0 x_gz_1 f_gz_1 x_gz_2 f_gz_2
    have m0_ := Aside0.mk (show Below w.heap.size w w5 by rw [hw_]; exact (below_set (below_set (below_set HB.out GE_gz.out) GE_gz.out) GE_gz.out))
    have m_gb := Aside0.mk (show w5.heap[gb]? = some (.cells #[.int .i64 a0_0, .int .i64 a0_1, .slice A0_2 l0_2.length c0_2] 28 (0, 0)) by rw [hw_]; exact (blk_far (blk_far (blk_far B_gb.out NE_gb_gz.out _) NE_gb_gz.out _) NE_gb_gz.out _))
    have m_gz := Aside0.mk (show w5.heap[gz]? = some (.cells #[.int .i64 a0_0, .int .i64 a0_1, .slice A3 u.length c3] 28 (0, 0)) by rw [hw_]; exact (blk_put (cs := #[.int .i64 a0_0, .int .i64 a0_1, .slice none 0 0]) (blk_put (cs := #[.int .i64 a0_0, .int .i64 0, .slice none 0 0]) (blk_put (cs := #[.int .i64 0, .int .i64 0, .slice none 0 0]) B_gz.out 0 _ rfl) 1 _ rfl) 2 _ rfl))
    have mx_HS := Aside0.mk (S_put (W' := w5) HS.out B_gz.out (by decide) (fun k hk => by rw [hw_]; exact (Below.heap_setCell _ ⟨gz, 2, none⟩ _ k hk).trans ((Below.heap_setCell _ ⟨gz, 1, none⟩ _ k hk).trans (Below.heap_setCell _ ⟨gz, 0, none⟩ _ k hk))))
    clear HB hw_ B_gb B_gz HS
    have HB := m0_
    have B_gb := m_gb
    have B_gz := m_gz
    have HS := mx_HS
    clear m0_ m_gb m_gz mx_HS
    have x_gz_0 : w5.cell? ⟨gz, 0, none⟩ = some (.int .i64 a0_0) := (blk_cell B_gz.out 0).trans rfl
    have x_gz_1 : w5.cell? ⟨gz, 1, none⟩ = some (.int .i64 a0_1) := (blk_cell B_gz.out 1).trans rfl
    have x_gz_2 : w5.cell? ⟨gz, 2, none⟩ = some (.slice A3 u.length c3) := (blk_cell B_gz.out 2).trans rfl
    refine bodyPost_ret (v := .tuple #[.agg #[.int .i64 a0_0, .int .i64 a0_1, .slice A3 u.length c3], .bool true]) (by simp [results, Try.results18, go_sem, x_gz_0, x_gz_1, x_gz_2]) rfl ⟨_, rfl, by rw [← E1.out]; exact HS.out, HB.out⟩
  | false =>
    rw [hg] at CI
    have hf : ((0 : Int), (0 : Int), ([] : List S87), false) = (r1, r2, r3, r4) := by unfold impl_UsefulOf.f at h; rw [hg, if_neg (by decide)] at h; exact Option.some.inj h
    obtain ⟨e1, e2⟩ := Prod.mk.inj hf
    obtain ⟨e5, e6⟩ := Prod.mk.inj e2
    obtain ⟨e3, e4⟩ := Prod.mk.inj e6
    clear e2 e6
    subst e1 e5 e3 e4
    clear h hf hr0_2
    go_enter Try.func18, Try.ntmps18
    go_wp2_with (first | ((with_reducible refine gate_dst (N := 1) rfl ?_); refine box_event ?hg (N := 1) ?hd (cs := #[.int .i64 a0_0, .int .i64 a0_1, .slice A0_2 l0_2.length c0_2]) (t := 28) ?hr ?_; (case hd => rfl); (case hg => rfl); (case hr => first | (go_simp; done) | (go_simp; rfl)); intro gb hg_ w1 hbox_ hb_; have GE_gb := Aside0.mk (show w.heap.size ≤ gb by rw [hg_]; exact below_size (by repeat (first | (with_reducible first | exact HB.out | apply below_alloc | apply pw_below_drewN | apply below_drew1) | exact HB.out))); have n0_ := Aside0.mk (below_step (by repeat (first | (with_reducible first | exact HB.out | apply below_alloc | apply pw_below_drewN | apply below_drew1) | exact HB.out)) hb_); clear HB; have HB := n0_; clear n0_; have B_gb := Aside0.mk hbox_; clear hb_ hbox_ hg_; have x_gb_0 : w1.cell? ⟨gb, 0, none⟩ = some (.int .i64 a0_0) := (blk_cell B_gb.out 0).trans rfl; have x_gb_1 : w1.cell? ⟨gb, 1, none⟩ = some (.int .i64 a0_1) := (blk_cell B_gb.out 1).trans rfl; have x_gb_2 : w1.cell? ⟨gb, 2, none⟩ = some (.slice A0_2 l0_2.length c0_2) := (blk_cell B_gb.out 2).trans rfl) | ((with_reducible refine gate_dst (N := 2) rfl ?_); refine box_event ?hg (N := 2) ?hd (cs := #[.int .i64 0, .int .i64 0, .slice none 0 0]) (t := 28) ?hr ?_; (case hd => rfl); (case hg => rfl); (case hr => first | (go_simp; done) | (go_simp; rfl)); intro gz hg_ w2 hbox_ hb_; have GE_gz := Aside0.mk (show w.heap.size ≤ gz by rw [hg_]; exact below_size (by repeat (first | (with_reducible first | exact HB.out | apply below_alloc | apply pw_below_drewN | apply below_drew1) | exact HB.out))); have NE_gb_gz := Aside0.mk (show gb ≠ gz by rw [hg_]; exact Nat.ne_of_lt (blk_lt (by (with_reducible repeat (first | refine blk_drewN ?_ _ | refine blk_drew ?_ | refine blk_alloc ?_ _)); exact B_gb.out))); clear x_gb_0 x_gb_1 x_gb_2; have n0_ := Aside0.mk (below_step (by repeat (first | (with_reducible first | exact HB.out | apply below_alloc | apply pw_below_drewN | apply below_drew1) | exact HB.out)) hb_); have n_gb := Aside0.mk (blk_below (by (with_reducible repeat (first | refine blk_drewN ?_ _ | refine blk_drew ?_ | refine blk_alloc ?_ _)); exact B_gb.out) hb_); clear HB B_gb; have HB := n0_; have B_gb := n_gb; clear n0_ n_gb; have B_gz := Aside0.mk hbox_; clear hb_ hbox_ hg_; have x_gb_0 : w2.cell? ⟨gb, 0, none⟩ = some (.int .i64 a0_0) := (blk_cell B_gb.out 0).trans rfl; have x_gb_1 : w2.cell? ⟨gb, 1, none⟩ = some (.int .i64 a0_1) := (blk_cell B_gb.out 1).trans rfl; have x_gb_2 : w2.cell? ⟨gb, 2, none⟩ = some (.slice A0_2 l0_2.length c0_2) := (blk_cell B_gb.out 2).trans rfl; have x_gz_0 : w2.cell? ⟨gz, 0, none⟩ = some (.int .i64 0) := (blk_cell B_gz.out 0).trans rfl; have f_gz_0 := blk_frozen B_gz.out 0; have x_gz_1 : w2.cell? ⟨gz, 1, none⟩ = some (.int .i64 0) := (blk_cell B_gz.out 1).trans rfl; have f_gz_1 := blk_frozen B_gz.out 1; have x_gz_2 : w2.cell? ⟨gz, 2, none⟩ = some (.slice none 0 0) := (blk_cell B_gz.out 2).trans rfl; have f_gz_2 := blk_frozen B_gz.out 2) | (have _t := tok1; go_at_call 55; (with_reducible refine (CI _ HB.out).mono ?_); rintro e w3 ⟨rfl, hb_⟩; clear x_gb_0 x_gb_1 x_gb_2 x_gz_0 f_gz_0 x_gz_1 f_gz_1 x_gz_2 f_gz_2; have n0_ := Aside0.mk (below_step (by repeat (first | (with_reducible first | exact HB.out | apply below_alloc | apply pw_below_drewN | apply below_drew1) | exact HB.out)) hb_); have n_gb := Aside0.mk (blk_below (by (with_reducible repeat (first | refine blk_drewN ?_ _ | refine blk_drew ?_ | refine blk_alloc ?_ _)); exact B_gb.out) hb_); have n_gz := Aside0.mk (blk_below (by (with_reducible repeat (first | refine blk_drewN ?_ _ | refine blk_drew ?_ | refine blk_alloc ?_ _)); exact B_gz.out) hb_); clear HB B_gb B_gz; have HB := n0_; have B_gb := n_gb; have B_gz := n_gz; clear n0_ n_gb n_gz; clear hb_; have x_gb_0 : w3.cell? ⟨gb, 0, none⟩ = some (.int .i64 a0_0) := (blk_cell B_gb.out 0).trans rfl; have x_gb_1 : w3.cell? ⟨gb, 1, none⟩ = some (.int .i64 a0_1) := (blk_cell B_gb.out 1).trans rfl; have x_gb_2 : w3.cell? ⟨gb, 2, none⟩ = some (.slice A0_2 l0_2.length c0_2) := (blk_cell B_gb.out 2).trans rfl; have x_gz_0 : w3.cell? ⟨gz, 0, none⟩ = some (.int .i64 0) := (blk_cell B_gz.out 0).trans rfl; have f_gz_0 := blk_frozen B_gz.out 0; have x_gz_1 : w3.cell? ⟨gz, 1, none⟩ = some (.int .i64 0) := (blk_cell B_gz.out 1).trans rfl; have f_gz_1 := blk_frozen B_gz.out 1; have x_gz_2 : w3.cell? ⟨gz, 2, none⟩ = some (.slice none 0 0) := (blk_cell B_gz.out 2).trans rfl; have f_gz_2 := blk_frozen B_gz.out 2; clear CI tok1))
    obtain ⟨w5, hw_⟩ : ∃ w_ : World, w_ = (((w3.setCell ⟨gz, 0, none⟩ (.int .i64 0)).setCell ⟨gz, 1, none⟩ (.int .i64 0)).setCell ⟨gz, 2, none⟩ (.slice none 0 0)) := ⟨_, rfl⟩
    rw [← hw_]
    clear x_gb_0 x_gb_1 x_gb_2 x_gz_0 f_gz_0 x_gz_1 f_gz_1 x_gz_2 f_gz_2
    have m0_ := Aside0.mk (show Below w.heap.size w w5 by rw [hw_]; exact (below_set (below_set (below_set HB.out GE_gz.out) GE_gz.out) GE_gz.out))
    have m_gb := Aside0.mk (show w5.heap[gb]? = some (.cells #[.int .i64 a0_0, .int .i64 a0_1, .slice A0_2 l0_2.length c0_2] 28 (0, 0)) by rw [hw_]; exact (blk_far (blk_far (blk_far B_gb.out NE_gb_gz.out _) NE_gb_gz.out _) NE_gb_gz.out _))
    have m_gz := Aside0.mk (show w5.heap[gz]? = some (.cells #[.int .i64 0, .int .i64 0, .slice none 0 0] 28 (0, 0)) by rw [hw_]; exact (blk_put (cs := #[.int .i64 0, .int .i64 0, .slice none 0 0]) (blk_put (cs := #[.int .i64 0, .int .i64 0, .slice none 0 0]) (blk_put (cs := #[.int .i64 0, .int .i64 0, .slice none 0 0]) B_gz.out 0 _ rfl) 1 _ rfl) 2 _ rfl))
    clear HB hw_ B_gb B_gz
    have HB := m0_
    have B_gb := m_gb
    have B_gz := m_gz
    clear m0_ m_gb m_gz
    have x_gz_0 : w5.cell? ⟨gz, 0, none⟩ = some (.int .i64 0) := (blk_cell B_gz.out 0).trans rfl
    have x_gz_1 : w5.cell? ⟨gz, 1, none⟩ = some (.int .i64 0) := (blk_cell B_gz.out 1).trans rfl
    have x_gz_2 : w5.cell? ⟨gz, 2, none⟩ = some (.slice none 0 0) := (blk_cell B_gz.out 2).trans rfl
    refine bodyPost_ret (v := .tuple #[.agg #[.int .i64 0, .int .i64 0, .slice none 0 0], .bool false]) (by simp [results, Try.results18, go_sem, x_gz_0, x_gz_1, x_gz_2]) rfl ⟨_, rfl, Kd.S_nil _ _ _ _ _, HB.out⟩
end Go.Proofs.Ytekoclhnfhbmeaa.P
namespace Go.Proofs.Ytekoclhnfhbmeaa.P
open Go.RowKit Go.Proofs.YtekoclhnfhbmeaaW.PrintWords Go.Proofs.YtekoclhnfhbmeaaW.PrintLast Go.Proofs.YtekoclhnfhbmeaaW.PrintMore
attribute [local go_sem] max2_int min2_int max_two min_two max_three min_three max_four min_four
set_option linter.unusedVariables false
set_option linter.unusedSimpArgs false
def spec_UsefulOf.f (k : Nat) (a0_0 : Int) (a0_1 : Int) (l0_2 : List (S87)) : Option (Int × Int × (List (S87)) × Bool) := (spec_GoodGrammar.f k a0_0 a0_1 l0_2).bind fun t103 => (if t103 = true then ((spec_l3Useful.f k a0_0 a0_1 l0_2).bind fun bt104 => (some (bt104.1, bt104.2.1, bt104.2.2, true))) else (some (0, 0, ([] : List (S87)), false)))
set_option maxHeartbeats 8000000 in
set_option maxRecDepth 100000 in
theorem spec_UsefulOf.calls (k : Nat) (a0_0 : Int) (a0_1 : Int) (A0_2 : Option Addr) (c0_2 : Nat) (l0_2 : List (S87)) (r1 : Int) (r2 : Int) (r3 : List (S87)) (r4 : Bool) (w : World) (hr0_2 : Kd.C k87 w A0_2 l0_2.length l0_2) (hc0_2 : l0_2.length ≤ c0_2) (h : spec_UsefulOf.f k a0_0 a0_1 l0_2 = some (r1, r2, r3, r4)) :
    Calls Try.prog 16 #[.agg #[.int .i64 a0_0, .int .i64 a0_1, .slice A0_2 l0_2.length c0_2]] w fun e w' => ∃ v2_ : Value, e = .returned (.tuple #[.agg #[.int .i64 r1, .int .i64 r2, v2_], .bool r4]) ∧ Kd.N k87 87 w' w.heap.size (fun k_ => (w.heap.size ≤ k_)) v2_ r3 ∧ Below w.heap.size w w' := by
  have hu28 := Try.underlying28
  have HR0_2 := Aside0.mk hr0_2
  have HC0_2 := Aside0.mk hc0_2
  clear hr0_2 hc0_2
  have HB := Aside0.mk (Below.refl w.heap.size w)
  have H : ((spec_GoodGrammar.f k a0_0 a0_1 l0_2).bind fun t103 => (if t103 = true then ((spec_l3Useful.f k a0_0 a0_1 l0_2).bind fun bt104 => (some (bt104.1, bt104.2.1, bt104.2.2, true))) else (some (0, 0, ([] : List (S87)), false)))) = some (r1, r2, r3, r4) := h
  clear h
  replace H := Option.bind_eq_some_iff.mp H
  obtain ⟨t103, A20, H⟩ := H
  replace H : (if t103 = true then ((spec_l3Useful.f k a0_0 a0_1 l0_2).bind fun bt104 => (some (bt104.1, bt104.2.1, bt104.2.2, true))) else (some (0, 0, ([] : List (S87)), false))) = some (r1, r2, r3, r4) := H
  have A2 := Aside0.mk A20
  clear A20
  by_cases c3 : t103 = true
  · subst c3
    have H1 : ((spec_l3Useful.f k a0_0 a0_1 l0_2).bind fun bt104 => (some (bt104.1, bt104.2.1, bt104.2.2, true))) = some (r1, r2, r3, r4) := by rw [if_pos rfl] at H; exact H
    clear H
    have H := H1
    clear H1
    replace H := Option.bind_eq_some_iff.mp H
    obtain ⟨⟨t104, t105, t106⟩, A40, H⟩ := H
    replace H : (some (t104, t105, t106, true)) = some (r1, r2, r3, r4) := H
    have A4 := Aside0.mk A40
    clear A40
    simp only [Option.some.injEq, Prod.mk.injEq] at H
    obtain ⟨rfl, rfl, rfl, rfl⟩ := H
    go_enter Try.func16, Try.ntmps16
    go_wp2_with (first | ((with_reducible refine gate_dst (N := 1) rfl ?_); refine box_event ?hg (N := 1) ?hd (cs := #[.int .i64 a0_0, .int .i64 a0_1, .slice A0_2 l0_2.length c0_2]) (t := 28) ?hr ?_; (case hd => rfl); (case hg => rfl); (case hr => first | (go_simp; done) | (go_simp; rfl)); intro gb101 hg w5 hbox hb; have n0_ := Aside0.mk (below_step (by repeat (first | (with_reducible first | exact HB.out | apply below_alloc | apply pw_below_drewN | apply below_drew1) | exact HB.out)) hb); have n1_ := Aside0.mk (hbox); have n2_ := Aside0.mk ((by rw [hg]; exact (below_size (by repeat (first | (with_reducible first | exact HB.out | apply below_alloc | apply pw_below_drewN | apply below_drew1) | exact HB.out))) : w.heap.size ≤ gb101)); have n3_ := Aside0.mk ((by rw [hg]; exact (below_size (by repeat (first | (with_reducible first | exact HB.out | apply below_alloc | apply pw_below_drewN | apply below_drew1) | exact HB.out))) : w.heap.size ≤ gb101)); clear HB; have HB := n0_; have BK101 := n1_; have GW101 := n2_; have GE101 := n3_; clear n0_ n1_ n2_ n3_; clear hb hbox hg) | ((with_reducible refine gate_dst (N := 2) rfl ?_); refine box_event ?hg (N := 2) ?hd (cs := #[.int .i64 0, .int .i64 0, .slice none 0 0]) (t := 28) ?hr ?_; (case hd => rfl); (case hg => rfl); (case hr => first | (go_simp; done) | (go_simp; rfl)); intro gb102 hg w6 hbox hb; have n0_ := Aside0.mk (blk_below (g := gb101) (o := .cells #[.int .i64 a0_0, .int .i64 a0_1, .slice A0_2 l0_2.length c0_2] 28 (0, 0)) (by (with_reducible repeat (first | refine blk_drewN ?_ _ | refine blk_drew ?_ | refine blk_alloc ?_ _)); exact BK101.out) hb); have n1_ := Aside0.mk (below_step (by repeat (first | (with_reducible first | exact HB.out | apply below_alloc | apply pw_below_drewN | apply below_drew1 | refine below_set ?_ GE101.out) | exact HB.out)) hb); have n2_ := Aside0.mk (hbox); have n3_ := Aside0.mk ((by rw [hg]; exact (below_size (by repeat (first | (with_reducible first | exact HB.out | apply below_alloc | apply pw_below_drewN | apply below_drew1 | refine below_set ?_ GE101.out) | exact HB.out))) : w.heap.size ≤ gb102)); have n4_ := Aside0.mk ((by rw [hg]; exact (below_size (by repeat (first | (with_reducible first | exact HB.out | apply below_alloc | apply pw_below_drewN | apply below_drew1 | refine below_set ?_ GE101.out) | exact HB.out))) : w.heap.size ≤ gb102)); have n5_ := Aside0.mk ((by rw [hg]; exact Nat.ne_of_lt (blk_lt (g := gb101) (o := .cells #[.int .i64 a0_0, .int .i64 a0_1, .slice A0_2 l0_2.length c0_2] 28 (0, 0)) (by (with_reducible repeat (first | refine blk_drewN ?_ _ | refine blk_drew ?_ | refine blk_alloc ?_ _)); exact BK101.out)) : gb101 ≠ gb102)); have n6_ := Aside0.mk ((by rw [hg]; exact Nat.ne_of_gt (blk_lt (g := gb101) (o := .cells #[.int .i64 a0_0, .int .i64 a0_1, .slice A0_2 l0_2.length c0_2] 28 (0, 0)) (by (with_reducible repeat (first | refine blk_drewN ?_ _ | refine blk_drew ?_ | refine blk_alloc ?_ _)); exact BK101.out)) : gb102 ≠ gb101)); clear BK101; clear HB; have BK101 := n0_; have HB := n1_; have BK102 := n2_; have GW102 := n3_; have GE102 := n4_; have NB101_102 := n5_; have NB102_101 := n6_; clear n0_ n1_ n2_ n3_ n4_ n5_ n6_; clear hb hbox hg; have hnb7 := NB101_102.out; have hnc7 := NB102_101.out; have hcz8_0 : w6.cell? ⟨gb101, 0, none⟩ = some (.int .i64 a0_0) := (blk_cell BK101.out 0).trans rfl; have hcz8_1 : w6.cell? ⟨gb101, 1, none⟩ = some (.int .i64 a0_1) := (blk_cell BK101.out 1).trans rfl; have hcz8_2 : w6.cell? ⟨gb101, 2, none⟩ = some (.slice A0_2 l0_2.length c0_2) := (blk_cell BK101.out 2).trans rfl; have hfz8_0 := blk_frozen BK101.out 0; have hfz8_1 := blk_frozen BK101.out 1; have hfz8_2 := blk_frozen BK101.out 2) | ((with_reducible refine gate_callee (f := 52) rfl ?_); refine goesL_ (some 5) rfl rfl Try.func52 (by kernel_rfl) rfl #[.agg #[.int .i64 a0_0, .int .i64 a0_1, .slice A0_2 l0_2.length c0_2]] rfl (by (try simp only [List.map_toArray, List.map_cons, List.map_nil]); first | done | rfl | (simp only [List.length_drop, List.length_take]; rfl)) ?_; (with_reducible refine (spec_GoodGrammar.calls k a0_0 a0_1 _ _ l0_2 true _ ?side1 ?side2 A2.out).mono ?_); (case side1 => repeat (first | exact (Kd.C_below HR0_2.out HB.out) | (with_reducible refine Kd.C_alloc ?_ _) | (with_reducible refine Kd.C_drewN ?_ _) | (with_reducible refine Kd.C_drew ?_))); (case side2 => exact HC0_2.out); rintro e w9 ⟨rfl, hb⟩; refine ⟨_, rfl, ?_⟩; have n0_ := Aside0.mk (blk_below (g := gb101) (o := .cells #[.int .i64 a0_0, .int .i64 a0_1, .slice A0_2 l0_2.length c0_2] 28 (0, 0)) (by (with_reducible repeat (first | refine blk_drewN ?_ _ | refine blk_drew ?_ | refine blk_alloc ?_ _)); exact BK101.out) hb); have n1_ := Aside0.mk (blk_below (g := gb102) (o := .cells #[.int .i64 0, .int .i64 0, .slice none 0 0] 28 (0, 0)) (by (with_reducible repeat (first | refine blk_drewN ?_ _ | refine blk_drew ?_ | refine blk_alloc ?_ _)); exact BK102.out) hb); have n2_ := Aside0.mk (below_step (by repeat (first | (with_reducible first | exact HB.out | apply below_alloc | apply pw_below_drewN | apply below_drew1 | refine below_set ?_ GE101.out | refine below_set ?_ GE102.out) | exact HB.out)) hb); clear BK101; clear BK102; clear HB; have BK101 := n0_; have BK102 := n1_; have HB := n2_; clear n0_ n1_ n2_; (try clear hb); (try clear hb2); (try clear hk); (try clear hi); have hcz10_0 : w9.cell? ⟨gb101, 0, none⟩ = some (.int .i64 a0_0) := (blk_cell BK101.out 0).trans rfl; have hcz10_1 : w9.cell? ⟨gb101, 1, none⟩ = some (.int .i64 a0_1) := (blk_cell BK101.out 1).trans rfl; have hcz10_2 : w9.cell? ⟨gb101, 2, none⟩ = some (.slice A0_2 l0_2.length c0_2) := (blk_cell BK101.out 2).trans rfl; have hfz10_0 := blk_frozen BK101.out 0; have hfz10_1 := blk_frozen BK101.out 1; have hfz10_2 := blk_frozen BK101.out 2) | ((with_reducible refine gate_callee (f := 53) rfl ?_); refine goesL_ (some 9) rfl rfl Try.func53 (by kernel_rfl) rfl #[.agg #[.int .i64 a0_0, .int .i64 a0_1, .slice A0_2 l0_2.length c0_2]] rfl (by (try simp only [List.map_toArray, List.map_cons, List.map_nil]); first | done | rfl | (simp only [List.length_drop, List.length_take]; rfl)) ?_; (with_reducible refine (spec_l3Useful.calls k a0_0 a0_1 _ _ l0_2 t104 t105 t106 _ ?side1 ?side2 A4.out).mono ?_); (case side1 => repeat (first | exact (Kd.C_below HR0_2.out HB.out) | (with_reducible refine Kd.C_alloc ?_ _) | (with_reducible refine Kd.C_drewN ?_ _) | (with_reducible refine Kd.C_drew ?_))); (case side2 => exact HC0_2.out); rintro e w11 ⟨v107, rfl, ho0, hb⟩; refine ⟨_, rfl, ?_⟩; have n0_ := Aside0.mk (Kd.N_lower (Kd.N_mono (ok' := fun k_ => (w.heap.size ≤ k_) ∧ k_ ≠ gb101 ∧ k_ ≠ gb102) ho0 (fun k_ hk_ => ⟨(Nat.le_trans (below_size (by repeat (first | (with_reducible first | exact HB.out | apply below_alloc | apply pw_below_drewN | apply below_drew1 | refine below_set ?_ GE101.out | refine below_set ?_ GE102.out) | exact HB.out))) hk_), (Kd.freshB (g := gb101) (o := .cells #[.int .i64 a0_0, .int .i64 a0_1, .slice A0_2 l0_2.length c0_2] 28 (0, 0)) (by (with_reducible repeat (first | refine blk_drewN ?_ _ | refine blk_drew ?_ | refine blk_alloc ?_ _)); exact BK101.out) k_ hk_), (Kd.freshB (g := gb102) (o := .cells #[.int .i64 0, .int .i64 0, .slice none 0 0] 28 (0, 0)) (by (with_reducible repeat (first | refine blk_drewN ?_ _ | refine blk_drew ?_ | refine blk_alloc ?_ _)); exact BK102.out) k_ hk_)⟩)) (below_size (by repeat (first | (with_reducible first | exact HB.out | apply below_alloc | apply pw_below_drewN | apply below_drew1 | refine below_set ?_ GE101.out | refine below_set ?_ GE102.out) | exact HB.out)))); have n1_ := Aside0.mk (blk_below (g := gb101) (o := .cells #[.int .i64 a0_0, .int .i64 a0_1, .slice A0_2 l0_2.length c0_2] 28 (0, 0)) (by (with_reducible repeat (first | refine blk_drewN ?_ _ | refine blk_drew ?_ | refine blk_alloc ?_ _)); exact BK101.out) hb); have n2_ := Aside0.mk (blk_below (g := gb102) (o := .cells #[.int .i64 0, .int .i64 0, .slice none 0 0] 28 (0, 0)) (by (with_reducible repeat (first | refine blk_drewN ?_ _ | refine blk_drew ?_ | refine blk_alloc ?_ _)); exact BK102.out) hb); have n3_ := Aside0.mk (below_step (by repeat (first | (with_reducible first | exact HB.out | apply below_alloc | apply pw_below_drewN | apply below_drew1 | refine below_set ?_ GE101.out | refine below_set ?_ GE102.out) | exact HB.out)) hb); clear BK101; clear BK102; clear HB; have HO108 := n0_; have BK101 := n1_; have BK102 := n2_; have HB := n3_; clear n0_ n1_ n2_ n3_; (try clear hb); (try clear hb2); (try clear hk); (try clear hi); (try clear ho0); have hcz12_0 : w11.cell? ⟨gb102, 0, none⟩ = some (.int .i64 0) := (blk_cell BK102.out 0).trans rfl; have hcz12_1 : w11.cell? ⟨gb102, 1, none⟩ = some (.int .i64 0) := (blk_cell BK102.out 1).trans rfl; have hcz12_2 : w11.cell? ⟨gb102, 2, none⟩ = some (.slice none 0 0) := (blk_cell BK102.out 2).trans rfl; have hfz12_0 := blk_frozen BK102.out 0; have hfz12_1 := blk_frozen BK102.out 1; have hfz12_2 := blk_frozen BK102.out 2; obtain ⟨Ao13, co13, eo13⟩ := Kd.N_slice HO108.out; subst eo13))
    refine bodyPost_ret (results_ct rfl _ _ gb102 28 #[.int .i64 t104, .int .i64 t105, .slice Ao13 t106.length co13] (0, 0) _ rfl (by (with_reducible repeat (first | refine blk_drewN ?_ _ | refine blk_drew ?_ | refine blk_alloc ?_ _)); refine blk_put (cs := #[.int .i64 t104, .int .i64 t105, .slice none 0 0]) ?_ 2 _ rfl; (with_reducible repeat (first | refine blk_drewN ?_ _ | refine blk_drew ?_ | refine blk_alloc ?_ _)); refine blk_put (cs := #[.int .i64 t104, .int .i64 0, .slice none 0 0]) ?_ 1 _ rfl; (with_reducible repeat (first | refine blk_drewN ?_ _ | refine blk_drew ?_ | refine blk_alloc ?_ _)); refine blk_put (cs := #[.int .i64 0, .int .i64 0, .slice none 0 0]) ?_ 0 _ rfl; (with_reducible repeat (first | refine blk_drewN ?_ _ | refine blk_drew ?_ | refine blk_alloc ?_ _)); exact BK102.out) Try.underlying28 rfl (by kernel_rfl)) rfl ?_
    exact ⟨_, by first | rfl | (simp [errW_none, errW_some] <;> rfl) | (simp [*, errW_none, errW_some] <;> rfl), by (with_reducible repeat (first | apply Kd.N_alloc | apply Kd.N_drewN | apply Kd.N_drew)); exact Kd.N_mono (Kd.N_far (p := ⟨gb102, 2, none⟩) (Kd.N_far (p := ⟨gb102, 1, none⟩) (Kd.N_far (p := ⟨gb102, 0, none⟩) (Kd.N_mono HO108.out (fun k_ hk => (⟨hk, hk.2.2⟩ : _ ∧ k_ ≠ gb102))) (fun _ hk => hk.2) (.int .i64 t104)) (fun _ hk => hk.2) (.int .i64 t105)) (fun _ hk => hk.2) (.slice Ao13 t106.length co13)) (fun _ hk => hk.1.1), by repeat (first | (with_reducible first | exact HB.out | apply below_alloc | apply pw_below_drewN | apply below_drew1 | refine below_set ?_ GE101.out | refine below_set ?_ GE102.out) | exact HB.out)⟩
  · replace c3 := Bool.eq_false_iff.mpr c3
    subst c3
    have H1 : (some (0, 0, ([] : List (S87)), false)) = some (r1, r2, r3, r4) := by rw [if_neg (show ¬ (false = true) by decide)] at H; exact H
    clear H
    have H := H1
    clear H1
    simp only [Option.some.injEq, Prod.mk.injEq] at H
    obtain ⟨rfl, rfl, rfl, rfl⟩ := H
    go_enter Try.func16, Try.ntmps16
    go_wp2_with (first | ((with_reducible refine gate_dst (N := 1) rfl ?_); refine box_event ?hg (N := 1) ?hd (cs := #[.int .i64 a0_0, .int .i64 a0_1, .slice A0_2 l0_2.length c0_2]) (t := 28) ?hr ?_; (case hd => rfl); (case hg => rfl); (case hr => first | (go_simp; done) | (go_simp; rfl)); intro gb101 hg w14 hbox hb; have n0_ := Aside0.mk (below_step (by repeat (first | (with_reducible first | exact HB.out | apply below_alloc | apply pw_below_drewN | apply below_drew1) | exact HB.out)) hb); have n1_ := Aside0.mk (hbox); have n2_ := Aside0.mk ((by rw [hg]; exact (below_size (by repeat (first | (with_reducible first | exact HB.out | apply below_alloc | apply pw_below_drewN | apply below_drew1) | exact HB.out))) : w.heap.size ≤ gb101)); have n3_ := Aside0.mk ((by rw [hg]; exact (below_size (by repeat (first | (with_reducible first | exact HB.out | apply below_alloc | apply pw_below_drewN | apply below_drew1) | exact HB.out))) : w.heap.size ≤ gb101)); clear HB; have HB := n0_; have BK101 := n1_; have GW101 := n2_; have GE101 := n3_; clear n0_ n1_ n2_ n3_; clear hb hbox hg) | ((with_reducible refine gate_dst (N := 2) rfl ?_); refine box_event ?hg (N := 2) ?hd (cs := #[.int .i64 0, .int .i64 0, .slice none 0 0]) (t := 28) ?hr ?_; (case hd => rfl); (case hg => rfl); (case hr => first | (go_simp; done) | (go_simp; rfl)); intro gb102 hg w15 hbox hb; have n0_ := Aside0.mk (blk_below (g := gb101) (o := .cells #[.int .i64 a0_0, .int .i64 a0_1, .slice A0_2 l0_2.length c0_2] 28 (0, 0)) (by (with_reducible repeat (first | refine blk_drewN ?_ _ | refine blk_drew ?_ | refine blk_alloc ?_ _)); exact BK101.out) hb); have n1_ := Aside0.mk (below_step (by repeat (first | (with_reducible first | exact HB.out | apply below_alloc | apply pw_below_drewN | apply below_drew1 | refine below_set ?_ GE101.out) | exact HB.out)) hb); have n2_ := Aside0.mk (hbox); have n3_ := Aside0.mk ((by rw [hg]; exact (below_size (by repeat (first | (with_reducible first | exact HB.out | apply below_alloc | apply pw_below_drewN | apply below_drew1 | refine below_set ?_ GE101.out) | exact HB.out))) : w.heap.size ≤ gb102)); have n4_ := Aside0.mk ((by rw [hg]; exact (below_size (by repeat (first | (with_reducible first | exact HB.out | apply below_alloc | apply pw_below_drewN | apply below_drew1 | refine below_set ?_ GE101.out) | exact HB.out))) : w.heap.size ≤ gb102)); have n5_ := Aside0.mk ((by rw [hg]; exact Nat.ne_of_lt (blk_lt (g := gb101) (o := .cells #[.int .i64 a0_0, .int .i64 a0_1, .slice A0_2 l0_2.length c0_2] 28 (0, 0)) (by (with_reducible repeat (first | refine blk_drewN ?_ _ | refine blk_drew ?_ | refine blk_alloc ?_ _)); exact BK101.out)) : gb101 ≠ gb102)); have n6_ := Aside0.mk ((by rw [hg]; exact Nat.ne_of_gt (blk_lt (g := gb101) (o := .cells #[.int .i64 a0_0, .int .i64 a0_1, .slice A0_2 l0_2.length c0_2] 28 (0, 0)) (by (with_reducible repeat (first | refine blk_drewN ?_ _ | refine blk_drew ?_ | refine blk_alloc ?_ _)); exact BK101.out)) : gb102 ≠ gb101)); clear BK101; clear HB; have BK101 := n0_; have HB := n1_; have BK102 := n2_; have GW102 := n3_; have GE102 := n4_; have NB101_102 := n5_; have NB102_101 := n6_; clear n0_ n1_ n2_ n3_ n4_ n5_ n6_; clear hb hbox hg; have hnb16 := NB101_102.out; have hnc16 := NB102_101.out; have hcz17_0 : w15.cell? ⟨gb101, 0, none⟩ = some (.int .i64 a0_0) := (blk_cell BK101.out 0).trans rfl; have hcz17_1 : w15.cell? ⟨gb101, 1, none⟩ = some (.int .i64 a0_1) := (blk_cell BK101.out 1).trans rfl; have hcz17_2 : w15.cell? ⟨gb101, 2, none⟩ = some (.slice A0_2 l0_2.length c0_2) := (blk_cell BK101.out 2).trans rfl; have hfz17_0 := blk_frozen BK101.out 0; have hfz17_1 := blk_frozen BK101.out 1; have hfz17_2 := blk_frozen BK101.out 2) | ((with_reducible refine gate_callee (f := 52) rfl ?_); refine goesL_ (some 5) rfl rfl Try.func52 (by kernel_rfl) rfl #[.agg #[.int .i64 a0_0, .int .i64 a0_1, .slice A0_2 l0_2.length c0_2]] rfl (by (try simp only [List.map_toArray, List.map_cons, List.map_nil]); first | done | rfl | (simp only [List.length_drop, List.length_take]; rfl)) ?_; (with_reducible refine (spec_GoodGrammar.calls k a0_0 a0_1 _ _ l0_2 false _ ?side1 ?side2 A2.out).mono ?_); (case side1 => repeat (first | exact (Kd.C_below HR0_2.out HB.out) | (with_reducible refine Kd.C_alloc ?_ _) | (with_reducible refine Kd.C_drewN ?_ _) | (with_reducible refine Kd.C_drew ?_))); (case side2 => exact HC0_2.out); rintro e w18 ⟨rfl, hb⟩; refine ⟨_, rfl, ?_⟩; have n0_ := Aside0.mk (blk_below (g := gb101) (o := .cells #[.int .i64 a0_0, .int .i64 a0_1, .slice A0_2 l0_2.length c0_2] 28 (0, 0)) (by (with_reducible repeat (first | refine blk_drewN ?_ _ | refine blk_drew ?_ | refine blk_alloc ?_ _)); exact BK101.out) hb); have n1_ := Aside0.mk (blk_below (g := gb102) (o := .cells #[.int .i64 0, .int .i64 0, .slice none 0 0] 28 (0, 0)) (by (with_reducible repeat (first | refine blk_drewN ?_ _ | refine blk_drew ?_ | refine blk_alloc ?_ _)); exact BK102.out) hb); have n2_ := Aside0.mk (below_step (by repeat (first | (with_reducible first | exact HB.out | apply below_alloc | apply pw_below_drewN | apply below_drew1 | refine below_set ?_ GE101.out | refine below_set ?_ GE102.out) | exact HB.out)) hb); clear BK101; clear BK102; clear HB; have BK101 := n0_; have BK102 := n1_; have HB := n2_; clear n0_ n1_ n2_; (try clear hb); (try clear hb2); (try clear hk); (try clear hi); have hcz19_0 : w18.cell? ⟨gb102, 0, none⟩ = some (.int .i64 0) := (blk_cell BK102.out 0).trans rfl; have hcz19_1 : w18.cell? ⟨gb102, 1, none⟩ = some (.int .i64 0) := (blk_cell BK102.out 1).trans rfl; have hcz19_2 : w18.cell? ⟨gb102, 2, none⟩ = some (.slice none 0 0) := (blk_cell BK102.out 2).trans rfl; have hfz19_0 := blk_frozen BK102.out 0; have hfz19_1 := blk_frozen BK102.out 1; have hfz19_2 := blk_frozen BK102.out 2))
    refine bodyPost_ret (results_ct rfl _ _ gb102 28 #[.int .i64 0, .int .i64 0, .slice none 0 0] (0, 0) _ rfl (by (with_reducible repeat (first | refine blk_drewN ?_ _ | refine blk_drew ?_ | refine blk_alloc ?_ _)); refine blk_put (cs := #[.int .i64 0, .int .i64 0, .slice none 0 0]) ?_ 2 _ rfl; (with_reducible repeat (first | refine blk_drewN ?_ _ | refine blk_drew ?_ | refine blk_alloc ?_ _)); refine blk_put (cs := #[.int .i64 0, .int .i64 0, .slice none 0 0]) ?_ 1 _ rfl; (with_reducible repeat (first | refine blk_drewN ?_ _ | refine blk_drew ?_ | refine blk_alloc ?_ _)); refine blk_put (cs := #[.int .i64 0, .int .i64 0, .slice none 0 0]) ?_ 0 _ rfl; (with_reducible repeat (first | refine blk_drewN ?_ _ | refine blk_drew ?_ | refine blk_alloc ?_ _)); exact BK102.out) Try.underlying28 rfl (by kernel_rfl)) rfl ?_
    exact ⟨_, by first | rfl | (simp [errW_none, errW_some] <;> rfl) | (simp [*, errW_none, errW_some] <;> rfl), by first | exact Kd.S_nil _ _ _ _ _ | exact Kd.N_nil _ _ _ _ _ | exact Kd.V_nil _ _ _ _ _ | exact Kd.Q_nil _ _ _ _ _ | exact Kd.R_nil _ _ _ _ _, by repeat (first | (with_reducible first | exact HB.out | apply below_alloc | apply pw_below_drewN | apply below_drew1 | refine below_set ?_ GE101.out | refine below_set ?_ GE102.out) | exact HB.out)⟩
end Go.Proofs.Ytekoclhnfhbmeaa.P
namespace Go.Proofs.Ytekoclhnfhbmeaa.P
open Go.RowKit Go.Proofs.YtekoclhnfhbmeaaW.PrintWords
set_option linter.unusedVariables false
set_option linter.unusedSimpArgs false
theorem pure_UsefulOf (a0 a1 : Int) (l : List S87) (hs : smallI l) : ∃ (r0 r1 : Int) (r2 : List S87) (r3 : Bool), smallI r2 ∧ Ev (fun k => spec_UsefulOf.f k a0 a1 l) (r0, r1, r2, r3) ∧ impl_UsefulOf.f a0 a1 l = some (r0, r1, r2, r3) := by
  obtain ⟨K, h⟩ := spec_GoodGrammar_ev a0 a1 l hs
  dsimp only at h
  cases hg : goodG a0 a1 l with
  | true =>
    obtain ⟨K2, h2⟩ := l3Useful_ev a0 a1 l (goodG_okL hg)
    dsimp only at h2
    have hu : smallI (usefulF l) := by
      have h3 := okL_filter (okL_filter (goodG_okL hg) (keepP (closedF mkPro l))) (fun y => (reachF (l.filter (keepP (closedF mkPro l)))).getD y.f0.toNat false)
      rw [useful_same l (okL_sym (goodG_okL hg))]
      exact ⟨by have := h3.1; unfold usefulS; omega, fun i hi => by have := (h3.2 i hi).2; unfold usefulS; omega⟩
    refine ⟨a0, a1, usefulF l, true, hu, ⟨K + K2, fun k hk => ?_⟩, by unfold impl_UsefulOf.f; rw [hg]; rfl⟩
    dsimp only
    unfold spec_UsefulOf.f
    rw [h k (by omega), hg]; simp only [Option.bind_some]
    rw [if_pos trivial, h2 k (by omega)]; rfl
  | false =>
    refine ⟨0, 0, [], false, ⟨by simp, fun i hi => by simp at hi⟩, ⟨K, fun k hk => ?_⟩, by unfold impl_UsefulOf.f; rw [hg]; rfl⟩
    dsimp only
    unfold spec_UsefulOf.f
    rw [h k hk, hg]; rfl
end Go.Proofs.Ytekoclhnfhbmeaa.P
namespace Go.Proofs.Ytekoclhnfhbmeaa.P
open Go.RowKit Go.Proofs.YtekoclhnfhbmeaaW.PrintWords Go.Proofs.YtekoclhnfhbmeaaW.PrintLast Go.Proofs.YtekoclhnfhbmeaaW.PrintMore
set_option linter.unusedVariables false
set_option linter.unusedSimpArgs false
set_option maxHeartbeats 16000000 in
set_option maxRecDepth 100000 in
theorem holds_FnExactUsefulOf (w : World) (a0_0 : Int) (a0_1 : Int) (A0_2 : Option Addr) (c0_2 : Nat) (l0_2 : List S98) (hr0_2 : Kd.C k98 w A0_2 l0_2.length l0_2) (hc0_2 : l0_2.length ≤ c0_2) :
    Calls Try.prog 3 #[.agg #[.int .i64 a0_0, .int .i64 a0_1, .slice A0_2 l0_2.length c0_2]] w fun e w' => e = .returned (.bool true) ∧ Below w.heap.size w w' := by
  have hu0 := Try.underlying24
  have hu1 := Try.underlying28
  have HB := Aside0.mk (Below.refl w.heap.size w)
  obtain ⟨hq0, hw0⟩ := reads_small hr0_2
  obtain ⟨t0, hze0, htl0, hsm0⟩ := szGrammar_fr a0_0 a0_1 l0_2 hq0 hw0 1048576 (by omega) (by omega)
  obtain ⟨kz0, hz0⟩ := hze0.rounds
  try dsimp only at hz0
  by_cases hT0 : t0 < 0
  · have dt_ : decide (t0 < 0) = true := decide_eq_true hT0
    clear hT0
    go_enter Try.func3, Try.ntmps3
    go_wp2_with fail
    refine (laws_szGrammar.calls kz0 a0_0 a0_1 A0_2 c0_2 l0_2 1048576 t0 _ (Kd.C_below hr0_2 (by repeat (first | (with_reducible first | exact HB.out | apply below_alloc | apply pw_below_drewN | apply below_drew1) | exact HB.out))) hc0_2 hz0).mono ?_
    rintro e w0_ ⟨rfl, hb⟩
    have nB := Aside0.mk (below_step (by repeat (first | (with_reducible first | exact HB.out | apply below_alloc | apply pw_below_drewN | apply below_drew1) | exact HB.out)) hb)
    have BA0_ := Aside0.mk (blk_below (o := .cells #[.int .i64 a0_0, .int .i64 a0_1, .slice A0_2 l0_2.length c0_2] 24 (0, 0)) (heap_alloc_new w _) hb)
    clear HB hb
    have HB := nB
    clear nB
    go_wp2
    go_ret
    exact ⟨rfl, by repeat (first | (with_reducible first | exact HB.out | apply below_alloc | apply pw_below_drewN | apply below_drew1) | exact HB.out)⟩
  have dt0 : decide (t0 < 0) = false := decide_eq_false hT0
  have hs0 := hsm0 (by omega)
  obtain ⟨kt0, ht0⟩ := (toGrammar_ev a0_0 a0_1 l0_2 hs0).rounds
  obtain ⟨r0_0, r0_1, r0_2, r1, hr0, es, hki⟩ := pure_UsefulOf a0_0 a0_1 (convs l0_2) (smallI_convs hs0)
  obtain ⟨ks, hks⟩ := es.rounds
  obtain ⟨ke0, hke0⟩ := (eqGrammar_ev r0_0 r0_1 r0_2 hr0).rounds
  obtain ⟨kx0, hkx0⟩ := (eqGrammar_ev a0_0 a0_1 (convs l0_2) (smallI_convs hs0)).rounds
  have bx0 := szR_bound (smallI_convs hs0)
  have br0 := szR_bound hr0
  try dsimp only at ht0 hks hke0 hkx0
  clear es hr0
  clear hT0 hq0 hw0 hze0 hsm0 htl0
  have KEEP0 := Aside0.mk hs0
  clear hs0
  go_enter Try.func3, Try.ntmps3
  go_wp2_with fail
  refine (laws_szGrammar.calls kz0 a0_0 a0_1 A0_2 c0_2 l0_2 1048576 t0 _ (Kd.C_below hr0_2 (by repeat (first | (with_reducible first | exact HB.out | apply below_alloc | apply pw_below_drewN | apply below_drew1) | exact HB.out))) hc0_2 hz0).mono ?_
  rintro e w1 ⟨rfl, hb⟩
  have HSZ := Aside0.mk (show w.heap.size + 1 ≤ w1.heap.size by have h_ := hb.size; (try simp at h_); omega)
  have nB := Aside0.mk (below_step (by repeat (first | (with_reducible first | exact HB.out | apply below_alloc | apply pw_below_drewN | apply below_drew1) | exact HB.out)) hb)
  have nBA0 := Aside0.mk (blk_below (o := .cells #[.int .i64 a0_0, .int .i64 a0_1, .slice A0_2 l0_2.length c0_2] 24 (0, 0)) (heap_alloc_new w _) hb)
  clear HB
  have HB := nB
  have BA0 := nBA0
  clear nB nBA0
  have Z1 := HSZ
  clear HSZ
  have cBA0_0 : w1.cell? ⟨w.heap.size, 0, none⟩ = some (.int .i64 a0_0) := (blk_cell BA0.out 0).trans rfl
  have cBA0_1 : w1.cell? ⟨w.heap.size, 1, none⟩ = some (.int .i64 a0_1) := (blk_cell BA0.out 1).trans rfl
  have cBA0_2 : w1.cell? ⟨w.heap.size, 2, none⟩ = some (.slice A0_2 l0_2.length c0_2) := (blk_cell BA0.out 2).trans rfl
  go_wp2_with fail
  clear cBA0_0 cBA0_1 cBA0_2
  refine (laws_toGrammar.calls kt0 a0_0 a0_1 A0_2 c0_2 l0_2 a0_0 a0_1 (convs l0_2) _ (Kd.C_below hr0_2 (by repeat (first | (with_reducible first | exact HB.out | apply below_alloc | apply pw_below_drewN | apply below_drew1) | exact HB.out))) hc0_2 ht0).mono ?_
  rintro e w2 ⟨v0, rfl, ho0, hb⟩
  obtain ⟨A102_0, c102_0, ev_⟩ := Kd.S_slice ho0
  subst ev_
  have NO2_0 := Aside0.mk (Kd.S_mono (ok' := fun q_ => w1.heap.size + 0 ≤ q_ ∧ q_ < w2.heap.size) (Kd.S_lower (Kd.S_bound ho0) (below_size (by repeat (first | (with_reducible first | exact HB.out | apply below_alloc | apply pw_below_drewN | apply below_drew1) | exact HB.out)))) (fun q_ h_ => ⟨by have h2_ := h_.2.1; (try simp at h2_); omega, h_.2.2.1⟩))
  clear ho0
  have HSZ := Aside0.mk (show w1.heap.size + 0 ≤ w2.heap.size by have h_ := hb.size; (try simp at h_); omega)
  have nB := Aside0.mk (below_step (by repeat (first | (with_reducible first | exact HB.out | apply below_alloc | apply pw_below_drewN | apply below_drew1) | exact HB.out)) hb)
  have nBA0 := Aside0.mk (blk_below (g := w.heap.size) (o := .cells #[.int .i64 a0_0, .int .i64 a0_1, .slice A0_2 l0_2.length c0_2] 24 (0, 0)) (by (with_reducible repeat (first | refine blk_drewN ?_ _ | refine blk_drew ?_ | refine blk_alloc ?_ _)); exact BA0.out) hb)
  clear HB BA0
  have HB := nB
  have BA0 := nBA0
  clear nB nBA0
  have Z2 := HSZ
  clear HSZ
  have cBA0_0 : w2.cell? ⟨w.heap.size, 0, none⟩ = some (.int .i64 a0_0) := (blk_cell BA0.out 0).trans rfl
  have cBA0_1 : w2.cell? ⟨w.heap.size, 1, none⟩ = some (.int .i64 a0_1) := (blk_cell BA0.out 1).trans rfl
  have cBA0_2 : w2.cell? ⟨w.heap.size, 2, none⟩ = some (.slice A0_2 l0_2.length c0_2) := (blk_cell BA0.out 2).trans rfl
  have O2_0 := NO2_0
  clear NO2_0
  go_wp2_with fail
  clear cBA0_0 cBA0_1 cBA0_2
  refine (spec_UsefulOf.calls ks a0_0 a0_1 _ _ (convs l0_2) r0_0 r0_1 r0_2 r1 _ (Kd.S_reads' (by (with_reducible repeat (first | apply Kd.S_alloc | apply Kd.S_drewN | apply Kd.S_drew)); exact O2_0.out)).2.2 (Kd.S_reads' O2_0.out).2.1 hks).mono ?_
  rintro e w3 ⟨v0, rfl, ho0, hb⟩
  obtain ⟨A103_0, c103_0, ev_⟩ := Kd.N_slice ho0
  subst ev_
  have NO3_0 := Aside0.mk (Kd.N_mono (ok' := fun q_ => w2.heap.size + 0 ≤ q_ ∧ q_ < w3.heap.size) (Kd.N_lower (Kd.N_bound ho0) (below_size (by repeat (first | (with_reducible first | exact HB.out | apply below_alloc | apply pw_below_drewN | apply below_drew1) | exact HB.out)))) (fun q_ h_ => ⟨by have h2_ := h_.1; (try simp at h2_); omega, h_.2⟩))
  clear ho0
  have HSZ := Aside0.mk (show w2.heap.size + 0 ≤ w3.heap.size by have h_ := hb.size; (try simp at h_); omega)
  have nB := Aside0.mk (below_step (by repeat (first | (with_reducible first | exact HB.out | apply below_alloc | apply pw_below_drewN | apply below_drew1) | exact HB.out)) hb)
  have nO2_0 := Aside0.mk (Kd.S_below (by (with_reducible repeat (first | apply Kd.S_alloc | apply Kd.S_drewN | apply Kd.S_drew)); exact O2_0.out) hb)
  have nBA0 := Aside0.mk (blk_below (g := w.heap.size) (o := .cells #[.int .i64 a0_0, .int .i64 a0_1, .slice A0_2 l0_2.length c0_2] 24 (0, 0)) (by (with_reducible repeat (first | refine blk_drewN ?_ _ | refine blk_drew ?_ | refine blk_alloc ?_ _)); exact BA0.out) hb)
  clear HB O2_0 BA0
  have HB := nB
  have O2_0 := nO2_0
  have BA0 := nBA0
  clear nB nO2_0 nBA0
  have Z3 := HSZ
  clear HSZ
  have cBA0_0 : w3.cell? ⟨w.heap.size, 0, none⟩ = some (.int .i64 a0_0) := (blk_cell BA0.out 0).trans rfl
  have cBA0_1 : w3.cell? ⟨w.heap.size, 1, none⟩ = some (.int .i64 a0_1) := (blk_cell BA0.out 1).trans rfl
  have cBA0_2 : w3.cell? ⟨w.heap.size, 2, none⟩ = some (.slice A0_2 l0_2.length c0_2) := (blk_cell BA0.out 2).trans rfl
  have O3_0 := NO3_0
  clear NO3_0
  have pBA0_0 : (w3.alloc (.cells #[.int .i64 r0_0, .int .i64 r0_1, .slice A103_0 r0_2.length c103_0] 28 (0, 0))).cell? ⟨w.heap.size, 0, none⟩ = some (.int .i64 a0_0) := (blk_cell (blk_alloc BA0.out (.cells #[.int .i64 r0_0, .int .i64 r0_1, .slice A103_0 r0_2.length c103_0] 28 (0, 0))) 0).trans rfl
  have pBA0_1 : (w3.alloc (.cells #[.int .i64 r0_0, .int .i64 r0_1, .slice A103_0 r0_2.length c103_0] 28 (0, 0))).cell? ⟨w.heap.size, 1, none⟩ = some (.int .i64 a0_1) := (blk_cell (blk_alloc BA0.out (.cells #[.int .i64 r0_0, .int .i64 r0_1, .slice A103_0 r0_2.length c103_0] 28 (0, 0))) 1).trans rfl
  have pBA0_2 : (w3.alloc (.cells #[.int .i64 r0_0, .int .i64 r0_1, .slice A103_0 r0_2.length c103_0] 28 (0, 0))).cell? ⟨w.heap.size, 2, none⟩ = some (.slice A0_2 l0_2.length c0_2) := (blk_cell (blk_alloc BA0.out (.cells #[.int .i64 r0_0, .int .i64 r0_1, .slice A103_0 r0_2.length c103_0] 28 (0, 0))) 2).trans rfl
  go_wp2_with fail
  clear pBA0_0 pBA0_1 pBA0_2
  clear cBA0_0 cBA0_1 cBA0_2
  refine (laws_toGrammar.calls kt0 a0_0 a0_1 A0_2 c0_2 l0_2 a0_0 a0_1 (convs l0_2) (w3.alloc (.cells #[.int .i64 r0_0, .int .i64 r0_1, .slice A103_0 r0_2.length c103_0] 28 (0, 0))) (Kd.C_below hr0_2 (by repeat (first | (with_reducible first | exact HB.out | apply below_alloc | apply pw_below_drewN | apply below_drew1) | exact HB.out))) hc0_2 ht0).mono ?_
  rintro e w4 ⟨v0, rfl, ho0, hb⟩
  obtain ⟨A104_0, c104_0, ev_⟩ := Kd.S_slice ho0
  subst ev_
  have NO4_0 := Aside0.mk (Kd.S_mono (ok' := fun q_ => w3.heap.size + 1 ≤ q_ ∧ q_ < w4.heap.size) (Kd.S_lower (Kd.S_bound ho0) (below_size (by repeat (first | (with_reducible first | exact HB.out | apply below_alloc | apply pw_below_drewN | apply below_drew1) | exact HB.out)))) (fun q_ h_ => ⟨by have h2_ := h_.2.1; (try simp at h2_); omega, h_.2.2.1⟩))
  clear ho0
  have HSZ := Aside0.mk (show w3.heap.size + 1 ≤ w4.heap.size by have h_ := hb.size; (try simp at h_); omega)
  have nB := Aside0.mk (below_step (by repeat (first | (with_reducible first | exact HB.out | apply below_alloc | apply pw_below_drewN | apply below_drew1) | exact HB.out)) hb)
  have nO3_0 := Aside0.mk (Kd.N_below (by (with_reducible repeat (first | apply Kd.N_alloc | apply Kd.N_drewN | apply Kd.N_drew)); exact O3_0.out) hb)
  have nBA0 := Aside0.mk (blk_below (g := w.heap.size) (o := .cells #[.int .i64 a0_0, .int .i64 a0_1, .slice A0_2 l0_2.length c0_2] 24 (0, 0)) (by (with_reducible repeat (first | refine blk_drewN ?_ _ | refine blk_drew ?_ | refine blk_alloc ?_ _)); exact BA0.out) hb)
  have nBW0 := Aside0.mk (blk_below (o := .cells #[.int .i64 r0_0, .int .i64 r0_1, .slice A103_0 r0_2.length c103_0] 28 (0, 0)) (heap_alloc_new w3 _) hb)
  clear HB O3_0 BA0
  have HB := nB
  have O3_0 := nO3_0
  have BA0 := nBA0
  have BW0 := nBW0
  clear nB nO3_0 nBA0 nBW0
  have Z4 := HSZ
  clear HSZ
  have cBA0_0 : w4.cell? ⟨w.heap.size, 0, none⟩ = some (.int .i64 a0_0) := (blk_cell BA0.out 0).trans rfl
  have cBA0_1 : w4.cell? ⟨w.heap.size, 1, none⟩ = some (.int .i64 a0_1) := (blk_cell BA0.out 1).trans rfl
  have cBA0_2 : w4.cell? ⟨w.heap.size, 2, none⟩ = some (.slice A0_2 l0_2.length c0_2) := (blk_cell BA0.out 2).trans rfl
  have cBW0_0 : w4.cell? ⟨w3.heap.size, 0, none⟩ = some (.int .i64 r0_0) := (blk_cell BW0.out 0).trans rfl
  have cBW0_1 : w4.cell? ⟨w3.heap.size, 1, none⟩ = some (.int .i64 r0_1) := (blk_cell BW0.out 1).trans rfl
  have cBW0_2 : w4.cell? ⟨w3.heap.size, 2, none⟩ = some (.slice A103_0 r0_2.length c103_0) := (blk_cell BW0.out 2).trans rfl
  have O4_0 := NO4_0
  clear NO4_0
  go_wp2_with fail
  clear cBA0_0 cBA0_1 cBA0_2 cBW0_0 cBW0_1 cBW0_2
  refine (impl_UsefulOf.calls a0_0 a0_1 _ _ (convs l0_2) r0_0 r0_1 r0_2 r1 _ (Kd.S_reads' (by (with_reducible repeat (first | apply Kd.S_alloc | apply Kd.S_drewN | apply Kd.S_drew)); exact O4_0.out)).2.2 (Kd.S_reads' O4_0.out).2.1 hki).mono ?_
  rintro e w5 ⟨v0, rfl, ho0, hb⟩
  obtain ⟨A105_0, c105_0, ev_⟩ := Kd.S_slice ho0
  subst ev_
  have NO5_0 := Aside0.mk (Kd.S_mono (ok' := fun q_ => w4.heap.size + 1 ≤ q_ ∧ q_ < w5.heap.size) (Kd.S_lower (Kd.S_bound ho0) (below_size (by repeat (first | (with_reducible first | exact HB.out | apply below_alloc | apply pw_below_drewN | apply below_drew1) | exact HB.out)))) (fun q_ h_ => ⟨by have h2_ := h_.2.1; (try simp at h2_); omega, h_.2.2.1⟩))
  clear ho0
  have HSZ := Aside0.mk (show w4.heap.size + 1 ≤ w5.heap.size by have h_ := hb.size; (try simp at h_); omega)
  have nB := Aside0.mk (below_step (by repeat (first | (with_reducible first | exact HB.out | apply below_alloc | apply pw_below_drewN | apply below_drew1) | exact HB.out)) hb)
  have nO3_0 := Aside0.mk (Kd.N_below (by (with_reducible repeat (first | apply Kd.N_alloc | apply Kd.N_drewN | apply Kd.N_drew)); exact O3_0.out) hb)
  have nO4_0 := Aside0.mk (Kd.S_below (by (with_reducible repeat (first | apply Kd.S_alloc | apply Kd.S_drewN | apply Kd.S_drew)); exact O4_0.out) hb)
  have nBA0 := Aside0.mk (blk_below (g := w.heap.size) (o := .cells #[.int .i64 a0_0, .int .i64 a0_1, .slice A0_2 l0_2.length c0_2] 24 (0, 0)) (by (with_reducible repeat (first | refine blk_drewN ?_ _ | refine blk_drew ?_ | refine blk_alloc ?_ _)); exact BA0.out) hb)
  have nBW0 := Aside0.mk (blk_below (g := w3.heap.size) (o := .cells #[.int .i64 r0_0, .int .i64 r0_1, .slice A103_0 r0_2.length c103_0] 28 (0, 0)) (by (with_reducible repeat (first | refine blk_drewN ?_ _ | refine blk_drew ?_ | refine blk_alloc ?_ _)); exact BW0.out) hb)
  have nBX0 := Aside0.mk (blk_below (o := .cells #[.int .i64 a0_0, .int .i64 a0_1, .slice A104_0 (convs l0_2).length c104_0] 28 (0, 0)) (heap_alloc_new w4 _) hb)
  clear HB O3_0 O4_0 BA0 BW0
  have HB := nB
  have O3_0 := nO3_0
  have O4_0 := nO4_0
  have BA0 := nBA0
  have BW0 := nBW0
  have BX0 := nBX0
  clear nB nO3_0 nO4_0 nBA0 nBW0 nBX0
  have Z5 := HSZ
  clear HSZ
  have cBA0_0 : w5.cell? ⟨w.heap.size, 0, none⟩ = some (.int .i64 a0_0) := (blk_cell BA0.out 0).trans rfl
  have cBA0_1 : w5.cell? ⟨w.heap.size, 1, none⟩ = some (.int .i64 a0_1) := (blk_cell BA0.out 1).trans rfl
  have cBA0_2 : w5.cell? ⟨w.heap.size, 2, none⟩ = some (.slice A0_2 l0_2.length c0_2) := (blk_cell BA0.out 2).trans rfl
  have cBW0_0 : w5.cell? ⟨w3.heap.size, 0, none⟩ = some (.int .i64 r0_0) := (blk_cell BW0.out 0).trans rfl
  have cBW0_1 : w5.cell? ⟨w3.heap.size, 1, none⟩ = some (.int .i64 r0_1) := (blk_cell BW0.out 1).trans rfl
  have cBW0_2 : w5.cell? ⟨w3.heap.size, 2, none⟩ = some (.slice A103_0 r0_2.length c103_0) := (blk_cell BW0.out 2).trans rfl
  have cBX0_0 : w5.cell? ⟨w4.heap.size, 0, none⟩ = some (.int .i64 a0_0) := (blk_cell BX0.out 0).trans rfl
  have cBX0_1 : w5.cell? ⟨w4.heap.size, 1, none⟩ = some (.int .i64 a0_1) := (blk_cell BX0.out 1).trans rfl
  have cBX0_2 : w5.cell? ⟨w4.heap.size, 2, none⟩ = some (.slice A104_0 (convs l0_2).length c104_0) := (blk_cell BX0.out 2).trans rfl
  have O5_0 := NO5_0
  clear NO5_0
  have pBW0_0 : (w5.alloc (.cells #[.int .i64 r0_0, .int .i64 r0_1, .slice A105_0 r0_2.length c105_0] 28 (0, 0))).cell? ⟨w3.heap.size, 0, none⟩ = some (.int .i64 r0_0) := (blk_cell (blk_alloc BW0.out (.cells #[.int .i64 r0_0, .int .i64 r0_1, .slice A105_0 r0_2.length c105_0] 28 (0, 0))) 0).trans rfl
  have pBW0_1 : (w5.alloc (.cells #[.int .i64 r0_0, .int .i64 r0_1, .slice A105_0 r0_2.length c105_0] 28 (0, 0))).cell? ⟨w3.heap.size, 1, none⟩ = some (.int .i64 r0_1) := (blk_cell (blk_alloc BW0.out (.cells #[.int .i64 r0_0, .int .i64 r0_1, .slice A105_0 r0_2.length c105_0] 28 (0, 0))) 1).trans rfl
  have pBW0_2 : (w5.alloc (.cells #[.int .i64 r0_0, .int .i64 r0_1, .slice A105_0 r0_2.length c105_0] 28 (0, 0))).cell? ⟨w3.heap.size, 2, none⟩ = some (.slice A103_0 r0_2.length c103_0) := (blk_cell (blk_alloc BW0.out (.cells #[.int .i64 r0_0, .int .i64 r0_1, .slice A105_0 r0_2.length c105_0] 28 (0, 0))) 2).trans rfl
  go_wp2_with fail
  clear pBW0_0 pBW0_1 pBW0_2
  clear cBA0_0 cBA0_1 cBA0_2 cBW0_0 cBW0_1 cBW0_2 cBX0_0 cBX0_1 cBX0_2
  refine (laws_eqGrammar.calls ke0 r0_0 r0_1 _ _ r0_2 r0_0 r0_1 _ _ r0_2 true _ (Kd.S_reads' (by (with_reducible repeat (first | apply Kd.S_alloc | apply Kd.S_drewN | apply Kd.S_drew)); exact O5_0.out)).2.2 (Kd.S_reads' O5_0.out).2.1 (Kd.N_reads' (by (with_reducible repeat (first | apply Kd.N_alloc | apply Kd.N_drewN | apply Kd.N_drew)); exact O3_0.out)).2.2 (Kd.N_reads' O3_0.out).2.1 hke0).mono ?_
  rintro e w6 ⟨rfl, hb⟩
  have HSZ := Aside0.mk (show w5.heap.size + 1 ≤ w6.heap.size by have h_ := hb.size; (try simp at h_); omega)
  have nB := Aside0.mk (below_step (by repeat (first | (with_reducible first | exact HB.out | apply below_alloc | apply pw_below_drewN | apply below_drew1) | exact HB.out)) hb)
  have nO3_0 := Aside0.mk (Kd.N_below (by (with_reducible repeat (first | apply Kd.N_alloc | apply Kd.N_drewN | apply Kd.N_drew)); exact O3_0.out) hb)
  have nO4_0 := Aside0.mk (Kd.S_below (by (with_reducible repeat (first | apply Kd.S_alloc | apply Kd.S_drewN | apply Kd.S_drew)); exact O4_0.out) hb)
  have nO5_0 := Aside0.mk (Kd.S_below (by (with_reducible repeat (first | apply Kd.S_alloc | apply Kd.S_drewN | apply Kd.S_drew)); exact O5_0.out) hb)
  have nBA0 := Aside0.mk (blk_below (g := w.heap.size) (o := .cells #[.int .i64 a0_0, .int .i64 a0_1, .slice A0_2 l0_2.length c0_2] 24 (0, 0)) (by (with_reducible repeat (first | refine blk_drewN ?_ _ | refine blk_drew ?_ | refine blk_alloc ?_ _)); exact BA0.out) hb)
  have nBW0 := Aside0.mk (blk_below (g := w3.heap.size) (o := .cells #[.int .i64 r0_0, .int .i64 r0_1, .slice A103_0 r0_2.length c103_0] 28 (0, 0)) (by (with_reducible repeat (first | refine blk_drewN ?_ _ | refine blk_drew ?_ | refine blk_alloc ?_ _)); exact BW0.out) hb)
  have nBX0 := Aside0.mk (blk_below (g := w4.heap.size) (o := .cells #[.int .i64 a0_0, .int .i64 a0_1, .slice A104_0 (convs l0_2).length c104_0] 28 (0, 0)) (by (with_reducible repeat (first | refine blk_drewN ?_ _ | refine blk_drew ?_ | refine blk_alloc ?_ _)); exact BX0.out) hb)
  have nBG0 := Aside0.mk (blk_below (o := .cells #[.int .i64 r0_0, .int .i64 r0_1, .slice A105_0 r0_2.length c105_0] 28 (0, 0)) (heap_alloc_new w5 _) hb)
  clear HB O3_0 O4_0 O5_0 BA0 BW0 BX0
  have HB := nB
  have O3_0 := nO3_0
  have O4_0 := nO4_0
  have O5_0 := nO5_0
  have BA0 := nBA0
  have BW0 := nBW0
  have BX0 := nBX0
  have BG0 := nBG0
  clear nB nO3_0 nO4_0 nO5_0 nBA0 nBW0 nBX0 nBG0
  have Z6 := HSZ
  clear HSZ
  have cBA0_0 : w6.cell? ⟨w.heap.size, 0, none⟩ = some (.int .i64 a0_0) := (blk_cell BA0.out 0).trans rfl
  have cBA0_1 : w6.cell? ⟨w.heap.size, 1, none⟩ = some (.int .i64 a0_1) := (blk_cell BA0.out 1).trans rfl
  have cBA0_2 : w6.cell? ⟨w.heap.size, 2, none⟩ = some (.slice A0_2 l0_2.length c0_2) := (blk_cell BA0.out 2).trans rfl
  have cBW0_0 : w6.cell? ⟨w3.heap.size, 0, none⟩ = some (.int .i64 r0_0) := (blk_cell BW0.out 0).trans rfl
  have cBW0_1 : w6.cell? ⟨w3.heap.size, 1, none⟩ = some (.int .i64 r0_1) := (blk_cell BW0.out 1).trans rfl
  have cBW0_2 : w6.cell? ⟨w3.heap.size, 2, none⟩ = some (.slice A103_0 r0_2.length c103_0) := (blk_cell BW0.out 2).trans rfl
  have cBX0_0 : w6.cell? ⟨w4.heap.size, 0, none⟩ = some (.int .i64 a0_0) := (blk_cell BX0.out 0).trans rfl
  have cBX0_1 : w6.cell? ⟨w4.heap.size, 1, none⟩ = some (.int .i64 a0_1) := (blk_cell BX0.out 1).trans rfl
  have cBX0_2 : w6.cell? ⟨w4.heap.size, 2, none⟩ = some (.slice A104_0 (convs l0_2).length c104_0) := (blk_cell BX0.out 2).trans rfl
  have cBG0_0 : w6.cell? ⟨w5.heap.size, 0, none⟩ = some (.int .i64 r0_0) := (blk_cell BG0.out 0).trans rfl
  have cBG0_1 : w6.cell? ⟨w5.heap.size, 1, none⟩ = some (.int .i64 r0_1) := (blk_cell BG0.out 1).trans rfl
  have cBG0_2 : w6.cell? ⟨w5.heap.size, 2, none⟩ = some (.slice A105_0 r0_2.length c105_0) := (blk_cell BG0.out 2).trans rfl
  go_wp2_with fail
  have nO3_0 := Aside0.mk (Kd.N_drew O3_0.out)
  have nO4_0 := Aside0.mk (Kd.S_drew O4_0.out)
  have nO5_0 := Aside0.mk (Kd.S_drew O5_0.out)
  have nBA0 := Aside0.mk (blk_drew BA0.out)
  have nBW0 := Aside0.mk (blk_drew BW0.out)
  have nBX0 := Aside0.mk (blk_drew BX0.out)
  have nBG0 := Aside0.mk (blk_drew BG0.out)
  have nB := Aside0.mk (below_drew1 HB.out)
  have HSZ := Aside0.mk (show w6.heap.size + 0 ≤ w6.drew.heap.size from Nat.le_refl _)
  clear cBA0_0 cBA0_1 cBA0_2 cBW0_0 cBW0_1 cBW0_2 cBX0_0 cBX0_1 cBX0_2 cBG0_0 cBG0_1 cBG0_2
  clear HB O3_0 O4_0 O5_0 BA0 BW0 BX0 BG0
  have HB := nB
  have O3_0 := nO3_0
  have O4_0 := nO4_0
  have O5_0 := nO5_0
  have BA0 := nBA0
  have BW0 := nBW0
  have BX0 := nBX0
  have BG0 := nBG0
  clear nB nO3_0 nO4_0 nO5_0 nBA0 nBW0 nBX0 nBG0
  refine start_ (n := 5) (S := fun w' => w'.cell? ⟨w4.heap.size, 0, none⟩ = some (.int .i64 a0_0) ∧ w'.cell? ⟨w4.heap.size, 1, none⟩ = some (.int .i64 a0_1) ∧ w'.cell? ⟨w4.heap.size, 2, none⟩ = some (.slice A104_0 (convs l0_2).length c104_0) ∧ w'.cell? ⟨w.heap.size, 0, none⟩ = some (.int .i64 a0_0) ∧ w'.cell? ⟨w.heap.size, 1, none⟩ = some (.int .i64 a0_1) ∧ w'.cell? ⟨w.heap.size, 2, none⟩ = some (.slice A0_2 l0_2.length c0_2)) (ds := []) #[false, false, false, false, false] (by kernel_rfl) rfl rfl ⟨(blk_cell BX0.out 0).trans rfl, (blk_cell BX0.out 1).trans rfl, (blk_cell BX0.out 2).trans rfl, (blk_cell BA0.out 0).trans rfl, (blk_cell BA0.out 1).trans rfl, (blk_cell BA0.out 2).trans rfl⟩ (fun hHeld => ?_)
  generalize w6.drew = w7 at O3_0 O4_0 O5_0 BA0 BW0 BX0 BG0 HB HSZ hHeld ⊢
  have Z7 := HSZ
  clear HSZ
  refine take_ (i := 0) (v := ?_) (a' := ?_) #[true, false, false, false, false] rfl rfl (by kernel_rfl) (fun _ _ _ h => h) (Or.inl ⟨by rfl, ?_⟩) hHeld ?_ ?_
  rotate_left
  · rintro w' ⟨s0, s1, s2, s3, s4, s5⟩
    go_simp
    with_reducible rfl
  rotate_left
  · simp only [Act.put, List.setIfInBounds_toArray, List.set_cons_zero, List.set_cons_succ, i64_w, i32_w]
    rfl
  refine take_ (i := 1) (v := ?_) (a' := ?_) #[true, true, false, false, false] rfl rfl (by kernel_rfl) (fun _ _ _ h => h) (Or.inl ⟨by rfl, ?_⟩) hHeld ?_ ?_
  rotate_left
  · rintro w' ⟨s0, s1, s2, s3, s4, s5⟩
    go_simp
    with_reducible rfl
  rotate_left
  · simp only [Act.put, List.setIfInBounds_toArray, List.set_cons_zero, List.set_cons_succ, i64_w, i32_w]
    rfl
  refine one_ (i := 2) #[true, true, true, false, false] rfl rfl (by kernel_rfl) (by decide) (fun K hK => ?_)
  refine goes_ Try.func17 (by kernel_rfl) rfl #[.agg #[.int .i64 a0_0, .int .i64 a0_1, .slice A0_2 l0_2.length c0_2]] (by rfl) rfl rfl (by first | rfl | ((try simp only [List.map_toArray, List.map_cons, List.map_nil]); first | done | rfl)) ?_
  with_reducible refine (laws_toGrammar.calls kt0 a0_0 a0_1 A0_2 c0_2 l0_2 a0_0 a0_1 (convs l0_2) _ (Kd.C_below hr0_2 (by repeat (first | (with_reducible first | exact HB.out | apply below_alloc | apply pw_below_drewN | apply below_drew1) | exact HB.out))) hc0_2 ht0).mono ?_
  rintro e w8 ⟨v0, rfl, ho0, hb⟩
  refine ⟨_, rfl, ?_⟩
  obtain ⟨A108_0, c108_0, ev_⟩ := Kd.S_slice ho0
  subst ev_
  have NO8_0 := Aside0.mk (Kd.S_mono (ok' := fun q_ => w7.heap.size + 0 ≤ q_ ∧ q_ < w8.heap.size) (Kd.S_lower (Kd.S_bound ho0) (below_size (by repeat (first | (with_reducible first | exact HB.out | apply below_alloc | apply pw_below_drewN | apply below_drew1) | exact HB.out)))) (fun q_ h_ => ⟨by have h2_ := h_.2.1; (try simp at h2_); omega, h_.2.2.1⟩))
  clear ho0
  have HSZ := Aside0.mk (show w7.heap.size + 0 ≤ w8.heap.size by have h_ := hb.size; (try simp at h_); omega)
  have nB := Aside0.mk (below_step (by repeat (first | (with_reducible first | exact HB.out | apply below_alloc | apply pw_below_drewN | apply below_drew1) | exact HB.out)) hb)
  have nO3_0 := Aside0.mk (Kd.N_below (by (with_reducible repeat (first | apply Kd.N_alloc | apply Kd.N_drewN | apply Kd.N_drew)); exact O3_0.out) hb)
  have nO4_0 := Aside0.mk (Kd.S_below (by (with_reducible repeat (first | apply Kd.S_alloc | apply Kd.S_drewN | apply Kd.S_drew)); exact O4_0.out) hb)
  have nO5_0 := Aside0.mk (Kd.S_below (by (with_reducible repeat (first | apply Kd.S_alloc | apply Kd.S_drewN | apply Kd.S_drew)); exact O5_0.out) hb)
  have nBA0 := Aside0.mk (blk_below (g := w.heap.size) (o := .cells #[.int .i64 a0_0, .int .i64 a0_1, .slice A0_2 l0_2.length c0_2] 24 (0, 0)) (by (with_reducible repeat (first | refine blk_drewN ?_ _ | refine blk_drew ?_ | refine blk_alloc ?_ _)); exact BA0.out) hb)
  have nBW0 := Aside0.mk (blk_below (g := w3.heap.size) (o := .cells #[.int .i64 r0_0, .int .i64 r0_1, .slice A103_0 r0_2.length c103_0] 28 (0, 0)) (by (with_reducible repeat (first | refine blk_drewN ?_ _ | refine blk_drew ?_ | refine blk_alloc ?_ _)); exact BW0.out) hb)
  have nBX0 := Aside0.mk (blk_below (g := w4.heap.size) (o := .cells #[.int .i64 a0_0, .int .i64 a0_1, .slice A104_0 (convs l0_2).length c104_0] 28 (0, 0)) (by (with_reducible repeat (first | refine blk_drewN ?_ _ | refine blk_drew ?_ | refine blk_alloc ?_ _)); exact BX0.out) hb)
  have nBG0 := Aside0.mk (blk_below (g := w5.heap.size) (o := .cells #[.int .i64 r0_0, .int .i64 r0_1, .slice A105_0 r0_2.length c105_0] 28 (0, 0)) (by (with_reducible repeat (first | refine blk_drewN ?_ _ | refine blk_drew ?_ | refine blk_alloc ?_ _)); exact BG0.out) hb)
  clear HB O3_0 O4_0 O5_0 BA0 BW0 BX0 BG0
  have HB := nB
  have O3_0 := nO3_0
  have O4_0 := nO4_0
  have O5_0 := nO5_0
  have BA0 := nBA0
  have BW0 := nBW0
  have BX0 := nBX0
  have BG0 := nBG0
  clear nB nO3_0 nO4_0 nO5_0 nBA0 nBW0 nBX0 nBG0
  have Z8 := HSZ
  clear HSZ
  have cBA0_0 : w8.cell? ⟨w.heap.size, 0, none⟩ = some (.int .i64 a0_0) := (blk_cell BA0.out 0).trans rfl
  have cBA0_1 : w8.cell? ⟨w.heap.size, 1, none⟩ = some (.int .i64 a0_1) := (blk_cell BA0.out 1).trans rfl
  have cBA0_2 : w8.cell? ⟨w.heap.size, 2, none⟩ = some (.slice A0_2 l0_2.length c0_2) := (blk_cell BA0.out 2).trans rfl
  have cBW0_0 : w8.cell? ⟨w3.heap.size, 0, none⟩ = some (.int .i64 r0_0) := (blk_cell BW0.out 0).trans rfl
  have cBW0_1 : w8.cell? ⟨w3.heap.size, 1, none⟩ = some (.int .i64 r0_1) := (blk_cell BW0.out 1).trans rfl
  have cBW0_2 : w8.cell? ⟨w3.heap.size, 2, none⟩ = some (.slice A103_0 r0_2.length c103_0) := (blk_cell BW0.out 2).trans rfl
  have cBX0_0 : w8.cell? ⟨w4.heap.size, 0, none⟩ = some (.int .i64 a0_0) := (blk_cell BX0.out 0).trans rfl
  have cBX0_1 : w8.cell? ⟨w4.heap.size, 1, none⟩ = some (.int .i64 a0_1) := (blk_cell BX0.out 1).trans rfl
  have cBX0_2 : w8.cell? ⟨w4.heap.size, 2, none⟩ = some (.slice A104_0 (convs l0_2).length c104_0) := (blk_cell BX0.out 2).trans rfl
  have cBG0_0 : w8.cell? ⟨w5.heap.size, 0, none⟩ = some (.int .i64 r0_0) := (blk_cell BG0.out 0).trans rfl
  have cBG0_1 : w8.cell? ⟨w5.heap.size, 1, none⟩ = some (.int .i64 r0_1) := (blk_cell BG0.out 1).trans rfl
  have cBG0_2 : w8.cell? ⟨w5.heap.size, 2, none⟩ = some (.slice A105_0 r0_2.length c105_0) := (blk_cell BG0.out 2).trans rfl
  have O8_0 := NO8_0
  clear NO8_0
  clear cBA0_0 cBA0_1 cBA0_2 cBW0_0 cBW0_1 cBW0_2 cBX0_0 cBX0_1 cBX0_2 cBG0_0 cBG0_1 cBG0_2
  refine hK.out _ _ ⟨(blk_cell BX0.out 0).trans rfl, (blk_cell BX0.out 1).trans rfl, (blk_cell BX0.out 2).trans rfl, (blk_cell BA0.out 0).trans rfl, (blk_cell BA0.out 1).trans rfl, (blk_cell BA0.out 2).trans rfl⟩ (fun hHeld => ?_)
  clear hK K
  refine norm_ (a' := ?_) ?_ ?_
  rotate_left
  · show Act.put _ (some _) _ = _
    simp only [Act.put, List.setIfInBounds_toArray, List.set_cons_zero, List.set_cons_succ, i64_w, i32_w]
    rfl
  refine one_ (i := 3) #[true, true, true, true, false] rfl rfl (by kernel_rfl) (by decide) (fun K hK => ?_)
  refine goes_ Try.func19 (by kernel_rfl) rfl #[.agg #[.int .i64 a0_0, .int .i64 a0_1, .slice A104_0 (convs l0_2).length c104_0], .agg #[.int .i64 a0_0, .int .i64 a0_1, .slice A108_0 (convs l0_2).length c108_0]] (by rfl) rfl rfl (by first | rfl | ((try simp only [List.map_toArray, List.map_cons, List.map_nil]); first | done | rfl)) ?_
  with_reducible refine (laws_eqGrammar.calls kx0 a0_0 a0_1 _ _ (convs l0_2) a0_0 a0_1 _ _ (convs l0_2) true _ (Kd.S_reads' (by (with_reducible repeat (first | apply Kd.S_alloc | apply Kd.S_drewN | apply Kd.S_drew)); exact O4_0.out)).2.2 (Kd.S_reads' O4_0.out).2.1 (Kd.S_reads' (by (with_reducible repeat (first | apply Kd.S_alloc | apply Kd.S_drewN | apply Kd.S_drew)); exact O8_0.out)).2.2 (Kd.S_reads' O8_0.out).2.1 hkx0).mono ?_
  rintro e w9 ⟨rfl, hb⟩
  refine ⟨_, rfl, ?_⟩
  clear O8_0
  have HSZ := Aside0.mk (show w8.heap.size + 0 ≤ w9.heap.size by have h_ := hb.size; (try simp at h_); omega)
  have nB := Aside0.mk (below_step (by repeat (first | (with_reducible first | exact HB.out | apply below_alloc | apply pw_below_drewN | apply below_drew1) | exact HB.out)) hb)
  have nO3_0 := Aside0.mk (Kd.N_below (by (with_reducible repeat (first | apply Kd.N_alloc | apply Kd.N_drewN | apply Kd.N_drew)); exact O3_0.out) hb)
  have nO4_0 := Aside0.mk (Kd.S_below (by (with_reducible repeat (first | apply Kd.S_alloc | apply Kd.S_drewN | apply Kd.S_drew)); exact O4_0.out) hb)
  have nO5_0 := Aside0.mk (Kd.S_below (by (with_reducible repeat (first | apply Kd.S_alloc | apply Kd.S_drewN | apply Kd.S_drew)); exact O5_0.out) hb)
  have nBA0 := Aside0.mk (blk_below (g := w.heap.size) (o := .cells #[.int .i64 a0_0, .int .i64 a0_1, .slice A0_2 l0_2.length c0_2] 24 (0, 0)) (by (with_reducible repeat (first | refine blk_drewN ?_ _ | refine blk_drew ?_ | refine blk_alloc ?_ _)); exact BA0.out) hb)
  have nBW0 := Aside0.mk (blk_below (g := w3.heap.size) (o := .cells #[.int .i64 r0_0, .int .i64 r0_1, .slice A103_0 r0_2.length c103_0] 28 (0, 0)) (by (with_reducible repeat (first | refine blk_drewN ?_ _ | refine blk_drew ?_ | refine blk_alloc ?_ _)); exact BW0.out) hb)
  have nBX0 := Aside0.mk (blk_below (g := w4.heap.size) (o := .cells #[.int .i64 a0_0, .int .i64 a0_1, .slice A104_0 (convs l0_2).length c104_0] 28 (0, 0)) (by (with_reducible repeat (first | refine blk_drewN ?_ _ | refine blk_drew ?_ | refine blk_alloc ?_ _)); exact BX0.out) hb)
  have nBG0 := Aside0.mk (blk_below (g := w5.heap.size) (o := .cells #[.int .i64 r0_0, .int .i64 r0_1, .slice A105_0 r0_2.length c105_0] 28 (0, 0)) (by (with_reducible repeat (first | refine blk_drewN ?_ _ | refine blk_drew ?_ | refine blk_alloc ?_ _)); exact BG0.out) hb)
  clear HB O3_0 O4_0 O5_0 BA0 BW0 BX0 BG0
  have HB := nB
  have O3_0 := nO3_0
  have O4_0 := nO4_0
  have O5_0 := nO5_0
  have BA0 := nBA0
  have BW0 := nBW0
  have BX0 := nBX0
  have BG0 := nBG0
  clear nB nO3_0 nO4_0 nO5_0 nBA0 nBW0 nBX0 nBG0
  have Z9 := HSZ
  clear HSZ
  have cBA0_0 : w9.cell? ⟨w.heap.size, 0, none⟩ = some (.int .i64 a0_0) := (blk_cell BA0.out 0).trans rfl
  have cBA0_1 : w9.cell? ⟨w.heap.size, 1, none⟩ = some (.int .i64 a0_1) := (blk_cell BA0.out 1).trans rfl
  have cBA0_2 : w9.cell? ⟨w.heap.size, 2, none⟩ = some (.slice A0_2 l0_2.length c0_2) := (blk_cell BA0.out 2).trans rfl
  have cBW0_0 : w9.cell? ⟨w3.heap.size, 0, none⟩ = some (.int .i64 r0_0) := (blk_cell BW0.out 0).trans rfl
  have cBW0_1 : w9.cell? ⟨w3.heap.size, 1, none⟩ = some (.int .i64 r0_1) := (blk_cell BW0.out 1).trans rfl
  have cBW0_2 : w9.cell? ⟨w3.heap.size, 2, none⟩ = some (.slice A103_0 r0_2.length c103_0) := (blk_cell BW0.out 2).trans rfl
  have cBX0_0 : w9.cell? ⟨w4.heap.size, 0, none⟩ = some (.int .i64 a0_0) := (blk_cell BX0.out 0).trans rfl
  have cBX0_1 : w9.cell? ⟨w4.heap.size, 1, none⟩ = some (.int .i64 a0_1) := (blk_cell BX0.out 1).trans rfl
  have cBX0_2 : w9.cell? ⟨w4.heap.size, 2, none⟩ = some (.slice A104_0 (convs l0_2).length c104_0) := (blk_cell BX0.out 2).trans rfl
  have cBG0_0 : w9.cell? ⟨w5.heap.size, 0, none⟩ = some (.int .i64 r0_0) := (blk_cell BG0.out 0).trans rfl
  have cBG0_1 : w9.cell? ⟨w5.heap.size, 1, none⟩ = some (.int .i64 r0_1) := (blk_cell BG0.out 1).trans rfl
  have cBG0_2 : w9.cell? ⟨w5.heap.size, 2, none⟩ = some (.slice A105_0 r0_2.length c105_0) := (blk_cell BG0.out 2).trans rfl
  clear cBA0_0 cBA0_1 cBA0_2 cBW0_0 cBW0_1 cBW0_2 cBX0_0 cBX0_1 cBX0_2 cBG0_0 cBG0_1 cBG0_2
  refine hK.out _ _ ⟨(blk_cell BX0.out 0).trans rfl, (blk_cell BX0.out 1).trans rfl, (blk_cell BX0.out 2).trans rfl, (blk_cell BA0.out 0).trans rfl, (blk_cell BA0.out 1).trans rfl, (blk_cell BA0.out 2).trans rfl⟩ (fun hHeld => ?_)
  clear hK K
  refine norm_ (a' := ?_) ?_ ?_
  rotate_left
  · show Act.put _ (some _) _ = _
    simp only [Act.put, List.setIfInBounds_toArray, List.set_cons_zero, List.set_cons_succ, i64_w, i32_w]
    rfl
  refine pure_ (i := 4) (v := ?_) (a' := ?_) #[true, true, true, true, true] rfl rfl (by kernel_rfl) (fun _ _ _ h => h) (Or.inl ⟨by rfl, ?_⟩) ?_ ?_
  rotate_left
  · intro w'
    go_simp
    with_reducible rfl
  rotate_left
  · simp only [Act.put, List.setIfInBounds_toArray, List.set_cons_zero, List.set_cons_succ, i64_w, i32_w]
    rfl
  refine done_ (by kernel_rfl) ?_
  clear hHeld
  have cBA0_0 : w9.cell? ⟨w.heap.size, 0, none⟩ = some (.int .i64 a0_0) := (blk_cell BA0.out 0).trans rfl
  have cBA0_1 : w9.cell? ⟨w.heap.size, 1, none⟩ = some (.int .i64 a0_1) := (blk_cell BA0.out 1).trans rfl
  have cBA0_2 : w9.cell? ⟨w.heap.size, 2, none⟩ = some (.slice A0_2 l0_2.length c0_2) := (blk_cell BA0.out 2).trans rfl
  have cBW0_0 : w9.cell? ⟨w3.heap.size, 0, none⟩ = some (.int .i64 r0_0) := (blk_cell BW0.out 0).trans rfl
  have cBW0_1 : w9.cell? ⟨w3.heap.size, 1, none⟩ = some (.int .i64 r0_1) := (blk_cell BW0.out 1).trans rfl
  have cBW0_2 : w9.cell? ⟨w3.heap.size, 2, none⟩ = some (.slice A103_0 r0_2.length c103_0) := (blk_cell BW0.out 2).trans rfl
  have cBX0_0 : w9.cell? ⟨w4.heap.size, 0, none⟩ = some (.int .i64 a0_0) := (blk_cell BX0.out 0).trans rfl
  have cBX0_1 : w9.cell? ⟨w4.heap.size, 1, none⟩ = some (.int .i64 a0_1) := (blk_cell BX0.out 1).trans rfl
  have cBX0_2 : w9.cell? ⟨w4.heap.size, 2, none⟩ = some (.slice A104_0 (convs l0_2).length c104_0) := (blk_cell BX0.out 2).trans rfl
  have cBG0_0 : w9.cell? ⟨w5.heap.size, 0, none⟩ = some (.int .i64 r0_0) := (blk_cell BG0.out 0).trans rfl
  have cBG0_1 : w9.cell? ⟨w5.heap.size, 1, none⟩ = some (.int .i64 r0_1) := (blk_cell BG0.out 1).trans rfl
  have cBG0_2 : w9.cell? ⟨w5.heap.size, 2, none⟩ = some (.slice A105_0 r0_2.length c105_0) := (blk_cell BG0.out 2).trans rfl
  obtain ⟨kk0, hkk0⟩ : ∃ z_ : Int, z_ = 1 + (szR (convs l0_2) : Int) := ⟨_, rfl⟩
  go_wp2_with fail
  clear cBA0_0 cBA0_1 cBA0_2 cBW0_0 cBW0_1 cBW0_2 cBX0_0 cBX0_1 cBX0_2 cBG0_0 cBG0_1 cBG0_2
  have CM := markGrammar_calls (fun q_ => w3.heap.size + 1 ≤ q_ ∧ q_ < w4.heap.size) a0_0 a0_1 _ (convs l0_2) (1) w _ (by repeat (first | (with_reducible first | exact HB.out | apply below_alloc | apply pw_below_drewN | apply below_drew1) | exact HB.out)) (by (with_reducible repeat (first | apply Kd.S_alloc | apply Kd.S_drewN | apply Kd.S_drew)); exact O4_0.out) (by omega) (by have := bx0; omega)
  rw [← hkk0] at CM
  refine CM.mono ?_
  rintro e w10 ⟨rfl, ho, hB_, hK_⟩
  have NB := Aside0.mk hB_
  have NK := Aside0.mk hK_
  have NO := Aside0.mk ho
  clear ho hB_ hK_ CM
  have HSZ := Aside0.mk (show w9.heap.size + 0 ≤ w10.heap.size by have h_ := NK.out.1; (try simp at h_); omega)
  have nB := NB
  have nO3_0 := Aside0.mk (Kd.N_kept (by (with_reducible repeat (first | apply Kd.N_alloc | apply Kd.N_drewN | apply Kd.N_drew)); exact O3_0.out) NK.out (fun q_ h1_ h2_ => by have := Z1.out; have := Z2.out; have := Z3.out; have := Z4.out; have := Z5.out; have := Z6.out; have := Z7.out; have := Z8.out; have := Z9.out; omega))
  have nO5_0 := Aside0.mk (Kd.S_kept (by (with_reducible repeat (first | apply Kd.S_alloc | apply Kd.S_drewN | apply Kd.S_drew)); exact O5_0.out) NK.out (fun q_ h1_ h2_ => by have := Z1.out; have := Z2.out; have := Z3.out; have := Z4.out; have := Z5.out; have := Z6.out; have := Z7.out; have := Z8.out; have := Z9.out; omega))
  have nBA0 := Aside0.mk (blk_kept (g := w.heap.size) (o := .cells #[.int .i64 a0_0, .int .i64 a0_1, .slice A0_2 l0_2.length c0_2] 24 (0, 0)) (by (with_reducible repeat (first | refine blk_drewN ?_ _ | refine blk_drew ?_ | refine blk_alloc ?_ _)); exact BA0.out) NK.out (fun h2_ => by have := Z1.out; have := Z2.out; have := Z3.out; have := Z4.out; have := Z5.out; have := Z6.out; have := Z7.out; have := Z8.out; have := Z9.out; omega))
  have nBW0 := Aside0.mk (blk_kept (g := w3.heap.size) (o := .cells #[.int .i64 r0_0, .int .i64 r0_1, .slice A103_0 r0_2.length c103_0] 28 (0, 0)) (by (with_reducible repeat (first | refine blk_drewN ?_ _ | refine blk_drew ?_ | refine blk_alloc ?_ _)); exact BW0.out) NK.out (fun h2_ => by have := Z1.out; have := Z2.out; have := Z3.out; have := Z4.out; have := Z5.out; have := Z6.out; have := Z7.out; have := Z8.out; have := Z9.out; omega))
  have nBX0 := Aside0.mk (blk_kept (g := w4.heap.size) (o := .cells #[.int .i64 a0_0, .int .i64 a0_1, .slice A104_0 (convs l0_2).length c104_0] 28 (0, 0)) (by (with_reducible repeat (first | refine blk_drewN ?_ _ | refine blk_drew ?_ | refine blk_alloc ?_ _)); exact BX0.out) NK.out (fun h2_ => by have := Z1.out; have := Z2.out; have := Z3.out; have := Z4.out; have := Z5.out; have := Z6.out; have := Z7.out; have := Z8.out; have := Z9.out; omega))
  have nBG0 := Aside0.mk (blk_kept (g := w5.heap.size) (o := .cells #[.int .i64 r0_0, .int .i64 r0_1, .slice A105_0 r0_2.length c105_0] 28 (0, 0)) (by (with_reducible repeat (first | refine blk_drewN ?_ _ | refine blk_drew ?_ | refine blk_alloc ?_ _)); exact BG0.out) NK.out (fun h2_ => by have := Z1.out; have := Z2.out; have := Z3.out; have := Z4.out; have := Z5.out; have := Z6.out; have := Z7.out; have := Z8.out; have := Z9.out; omega))
  clear HB O3_0 O5_0 BA0 BW0 BX0 BG0
  have HB := nB
  have O3_0 := nO3_0
  have O5_0 := nO5_0
  have BA0 := nBA0
  have BW0 := nBW0
  have BX0 := nBX0
  have BG0 := nBG0
  clear nB nO3_0 nO5_0 nBA0 nBW0 nBX0 nBG0
  have Z10 := HSZ
  clear HSZ
  have cBA0_0 : w10.cell? ⟨w.heap.size, 0, none⟩ = some (.int .i64 a0_0) := (blk_cell BA0.out 0).trans rfl
  have cBA0_1 : w10.cell? ⟨w.heap.size, 1, none⟩ = some (.int .i64 a0_1) := (blk_cell BA0.out 1).trans rfl
  have cBA0_2 : w10.cell? ⟨w.heap.size, 2, none⟩ = some (.slice A0_2 l0_2.length c0_2) := (blk_cell BA0.out 2).trans rfl
  have cBW0_0 : w10.cell? ⟨w3.heap.size, 0, none⟩ = some (.int .i64 r0_0) := (blk_cell BW0.out 0).trans rfl
  have cBW0_1 : w10.cell? ⟨w3.heap.size, 1, none⟩ = some (.int .i64 r0_1) := (blk_cell BW0.out 1).trans rfl
  have cBW0_2 : w10.cell? ⟨w3.heap.size, 2, none⟩ = some (.slice A103_0 r0_2.length c103_0) := (blk_cell BW0.out 2).trans rfl
  have cBX0_0 : w10.cell? ⟨w4.heap.size, 0, none⟩ = some (.int .i64 a0_0) := (blk_cell BX0.out 0).trans rfl
  have cBX0_1 : w10.cell? ⟨w4.heap.size, 1, none⟩ = some (.int .i64 a0_1) := (blk_cell BX0.out 1).trans rfl
  have cBX0_2 : w10.cell? ⟨w4.heap.size, 2, none⟩ = some (.slice A104_0 (convs l0_2).length c104_0) := (blk_cell BX0.out 2).trans rfl
  have cBG0_0 : w10.cell? ⟨w5.heap.size, 0, none⟩ = some (.int .i64 r0_0) := (blk_cell BG0.out 0).trans rfl
  have cBG0_1 : w10.cell? ⟨w5.heap.size, 1, none⟩ = some (.int .i64 r0_1) := (blk_cell BG0.out 1).trans rfl
  have cBG0_2 : w10.cell? ⟨w5.heap.size, 2, none⟩ = some (.slice A105_0 r0_2.length c105_0) := (blk_cell BG0.out 2).trans rfl
  clear O4_0
  have O4_0 := NO
  clear NO NK NB
  have dkk0 : decide (kk0 < 0) = false := decide_eq_false (by omega)
  have gkk0 : 0 ≤ kk0 := by omega
  have qkk0 : kk0 ≤ 1152921504606846976 := by have := bx0; omega
  have Skk0 := Aside0.mk hkk0
  clear hkk0
  clear O4_0
  go_wp2_with fail
  clear cBA0_0 cBA0_1 cBA0_2 cBW0_0 cBW0_1 cBW0_2 cBG0_0 cBG0_1 cBG0_2
  refine (laws_eqGrammar.calls ke0 r0_0 r0_1 _ _ r0_2 r0_0 r0_1 _ _ r0_2 true _ (Kd.S_reads' (by (with_reducible repeat (first | apply Kd.S_alloc | apply Kd.S_drewN | apply Kd.S_drew)); exact O5_0.out)).2.2 (Kd.S_reads' O5_0.out).2.1 (Kd.N_reads' (by (with_reducible repeat (first | apply Kd.N_alloc | apply Kd.N_drewN | apply Kd.N_drew)); exact O3_0.out)).2.2 (Kd.N_reads' O3_0.out).2.1 hke0).mono ?_
  rintro e w11 ⟨rfl, hb⟩
  have HSZ := Aside0.mk (show w10.heap.size + 0 ≤ w11.heap.size by have h_ := hb.size; (try simp at h_); omega)
  have nB := Aside0.mk (below_step (by repeat (first | (with_reducible first | exact HB.out | apply below_alloc | apply pw_below_drewN | apply below_drew1) | exact HB.out)) hb)
  have nO3_0 := Aside0.mk (Kd.N_below (by (with_reducible repeat (first | apply Kd.N_alloc | apply Kd.N_drewN | apply Kd.N_drew)); exact O3_0.out) hb)
  have nO5_0 := Aside0.mk (Kd.S_below (by (with_reducible repeat (first | apply Kd.S_alloc | apply Kd.S_drewN | apply Kd.S_drew)); exact O5_0.out) hb)
  have nBA0 := Aside0.mk (blk_below (g := w.heap.size) (o := .cells #[.int .i64 a0_0, .int .i64 a0_1, .slice A0_2 l0_2.length c0_2] 24 (0, 0)) (by (with_reducible repeat (first | refine blk_drewN ?_ _ | refine blk_drew ?_ | refine blk_alloc ?_ _)); exact BA0.out) hb)
  have nBW0 := Aside0.mk (blk_below (g := w3.heap.size) (o := .cells #[.int .i64 r0_0, .int .i64 r0_1, .slice A103_0 r0_2.length c103_0] 28 (0, 0)) (by (with_reducible repeat (first | refine blk_drewN ?_ _ | refine blk_drew ?_ | refine blk_alloc ?_ _)); exact BW0.out) hb)
  have nBG0 := Aside0.mk (blk_below (g := w5.heap.size) (o := .cells #[.int .i64 r0_0, .int .i64 r0_1, .slice A105_0 r0_2.length c105_0] 28 (0, 0)) (by (with_reducible repeat (first | refine blk_drewN ?_ _ | refine blk_drew ?_ | refine blk_alloc ?_ _)); exact BG0.out) hb)
  clear HB O3_0 O5_0 BA0 BW0 BG0
  have HB := nB
  have O3_0 := nO3_0
  have O5_0 := nO5_0
  have BA0 := nBA0
  have BW0 := nBW0
  have BG0 := nBG0
  clear nB nO3_0 nO5_0 nBA0 nBW0 nBG0
  have Z11 := HSZ
  clear HSZ
  have cBA0_0 : w11.cell? ⟨w.heap.size, 0, none⟩ = some (.int .i64 a0_0) := (blk_cell BA0.out 0).trans rfl
  have cBA0_1 : w11.cell? ⟨w.heap.size, 1, none⟩ = some (.int .i64 a0_1) := (blk_cell BA0.out 1).trans rfl
  have cBA0_2 : w11.cell? ⟨w.heap.size, 2, none⟩ = some (.slice A0_2 l0_2.length c0_2) := (blk_cell BA0.out 2).trans rfl
  have cBW0_0 : w11.cell? ⟨w3.heap.size, 0, none⟩ = some (.int .i64 r0_0) := (blk_cell BW0.out 0).trans rfl
  have cBW0_1 : w11.cell? ⟨w3.heap.size, 1, none⟩ = some (.int .i64 r0_1) := (blk_cell BW0.out 1).trans rfl
  have cBW0_2 : w11.cell? ⟨w3.heap.size, 2, none⟩ = some (.slice A103_0 r0_2.length c103_0) := (blk_cell BW0.out 2).trans rfl
  have cBG0_0 : w11.cell? ⟨w5.heap.size, 0, none⟩ = some (.int .i64 r0_0) := (blk_cell BG0.out 0).trans rfl
  have cBG0_1 : w11.cell? ⟨w5.heap.size, 1, none⟩ = some (.int .i64 r0_1) := (blk_cell BG0.out 1).trans rfl
  have cBG0_2 : w11.cell? ⟨w5.heap.size, 2, none⟩ = some (.slice A105_0 r0_2.length c105_0) := (blk_cell BG0.out 2).trans rfl
  obtain ⟨mm0, hmm0⟩ : ∃ z_ : Int, z_ = 1 + (szR r0_2 : Int) := ⟨_, rfl⟩
  go_wp2_with fail
  clear cBA0_0 cBA0_1 cBA0_2 cBW0_0 cBW0_1 cBW0_2 cBG0_0 cBG0_1 cBG0_2
  have CM := markGrammar_calls (fun q_ => w4.heap.size + 1 ≤ q_ ∧ q_ < w5.heap.size) r0_0 r0_1 _ r0_2 (1) w _ (by repeat (first | (with_reducible first | exact HB.out | apply below_alloc | apply pw_below_drewN | apply below_drew1) | exact HB.out)) (by (with_reducible repeat (first | apply Kd.S_alloc | apply Kd.S_drewN | apply Kd.S_drew)); exact O5_0.out) (by omega) (by have := br0; omega)
  rw [← hmm0] at CM
  refine CM.mono ?_
  rintro e w12 ⟨rfl, ho, hB_, hK_⟩
  have NB := Aside0.mk hB_
  have NK := Aside0.mk hK_
  have NO := Aside0.mk ho
  clear ho hB_ hK_ CM
  have HSZ := Aside0.mk (show w11.heap.size + 0 ≤ w12.heap.size by have h_ := NK.out.1; (try simp at h_); omega)
  have nB := NB
  have nO3_0 := Aside0.mk (Kd.N_kept (by (with_reducible repeat (first | apply Kd.N_alloc | apply Kd.N_drewN | apply Kd.N_drew)); exact O3_0.out) NK.out (fun q_ h1_ h2_ => by have := Z1.out; have := Z2.out; have := Z3.out; have := Z4.out; have := Z5.out; have := Z6.out; have := Z7.out; have := Z8.out; have := Z9.out; have := Z10.out; have := Z11.out; omega))
  have nBA0 := Aside0.mk (blk_kept (g := w.heap.size) (o := .cells #[.int .i64 a0_0, .int .i64 a0_1, .slice A0_2 l0_2.length c0_2] 24 (0, 0)) (by (with_reducible repeat (first | refine blk_drewN ?_ _ | refine blk_drew ?_ | refine blk_alloc ?_ _)); exact BA0.out) NK.out (fun h2_ => by have := Z1.out; have := Z2.out; have := Z3.out; have := Z4.out; have := Z5.out; have := Z6.out; have := Z7.out; have := Z8.out; have := Z9.out; have := Z10.out; have := Z11.out; omega))
  have nBW0 := Aside0.mk (blk_kept (g := w3.heap.size) (o := .cells #[.int .i64 r0_0, .int .i64 r0_1, .slice A103_0 r0_2.length c103_0] 28 (0, 0)) (by (with_reducible repeat (first | refine blk_drewN ?_ _ | refine blk_drew ?_ | refine blk_alloc ?_ _)); exact BW0.out) NK.out (fun h2_ => by have := Z1.out; have := Z2.out; have := Z3.out; have := Z4.out; have := Z5.out; have := Z6.out; have := Z7.out; have := Z8.out; have := Z9.out; have := Z10.out; have := Z11.out; omega))
  have nBG0 := Aside0.mk (blk_kept (g := w5.heap.size) (o := .cells #[.int .i64 r0_0, .int .i64 r0_1, .slice A105_0 r0_2.length c105_0] 28 (0, 0)) (by (with_reducible repeat (first | refine blk_drewN ?_ _ | refine blk_drew ?_ | refine blk_alloc ?_ _)); exact BG0.out) NK.out (fun h2_ => by have := Z1.out; have := Z2.out; have := Z3.out; have := Z4.out; have := Z5.out; have := Z6.out; have := Z7.out; have := Z8.out; have := Z9.out; have := Z10.out; have := Z11.out; omega))
  clear HB O3_0 BA0 BW0 BG0
  have HB := nB
  have O3_0 := nO3_0
  have BA0 := nBA0
  have BW0 := nBW0
  have BG0 := nBG0
  clear nB nO3_0 nBA0 nBW0 nBG0
  have Z12 := HSZ
  clear HSZ
  have cBA0_0 : w12.cell? ⟨w.heap.size, 0, none⟩ = some (.int .i64 a0_0) := (blk_cell BA0.out 0).trans rfl
  have cBA0_1 : w12.cell? ⟨w.heap.size, 1, none⟩ = some (.int .i64 a0_1) := (blk_cell BA0.out 1).trans rfl
  have cBA0_2 : w12.cell? ⟨w.heap.size, 2, none⟩ = some (.slice A0_2 l0_2.length c0_2) := (blk_cell BA0.out 2).trans rfl
  have cBW0_0 : w12.cell? ⟨w3.heap.size, 0, none⟩ = some (.int .i64 r0_0) := (blk_cell BW0.out 0).trans rfl
  have cBW0_1 : w12.cell? ⟨w3.heap.size, 1, none⟩ = some (.int .i64 r0_1) := (blk_cell BW0.out 1).trans rfl
  have cBW0_2 : w12.cell? ⟨w3.heap.size, 2, none⟩ = some (.slice A103_0 r0_2.length c103_0) := (blk_cell BW0.out 2).trans rfl
  have cBG0_0 : w12.cell? ⟨w5.heap.size, 0, none⟩ = some (.int .i64 r0_0) := (blk_cell BG0.out 0).trans rfl
  have cBG0_1 : w12.cell? ⟨w5.heap.size, 1, none⟩ = some (.int .i64 r0_1) := (blk_cell BG0.out 1).trans rfl
  have cBG0_2 : w12.cell? ⟨w5.heap.size, 2, none⟩ = some (.slice A105_0 r0_2.length c105_0) := (blk_cell BG0.out 2).trans rfl
  clear O5_0
  have O5_0 := NO
  clear NO NK NB
  have dmm0 : decide (mm0 < 0) = false := decide_eq_false (by omega)
  have gmm0 : 0 ≤ mm0 := by omega
  have qmm0 : mm0 ≤ 1152921504606846976 := by have := br0; omega
  have Smm0 := Aside0.mk hmm0
  clear hmm0
  go_wp2_with fail
  clear cBA0_0 cBA0_1 cBA0_2 cBW0_0 cBW0_1 cBW0_2 cBG0_0 cBG0_1 cBG0_2
  have CH := fun A_ c_ w_ hr_ hc_ => heldGrammar_calls r0_0 r0_1 A_ c_ r0_2 (1) w_ hr_ hc_ (by omega) (by have := br0; omega)
  rw [← Smm0.out] at CH
  refine (CH _ _ _ (Kd.S_reads' (by (with_reducible repeat (first | apply Kd.S_alloc | apply Kd.S_drewN | apply Kd.S_drew)); exact O5_0.out)).2.2 (Kd.S_reads' O5_0.out).2.1).mono ?_
  rintro e w13 ⟨rfl, hb⟩
  clear CH
  have HSZ := Aside0.mk (show w12.heap.size + 0 ≤ w13.heap.size by have h_ := hb.size; (try simp at h_); omega)
  have nB := Aside0.mk (below_step (by repeat (first | (with_reducible first | exact HB.out | apply below_alloc | apply pw_below_drewN | apply below_drew1) | exact HB.out)) hb)
  have nO3_0 := Aside0.mk (Kd.N_below (by (with_reducible repeat (first | apply Kd.N_alloc | apply Kd.N_drewN | apply Kd.N_drew)); exact O3_0.out) hb)
  have nO5_0 := Aside0.mk (Kd.S_below (by (with_reducible repeat (first | apply Kd.S_alloc | apply Kd.S_drewN | apply Kd.S_drew)); exact O5_0.out) hb)
  have nBA0 := Aside0.mk (blk_below (g := w.heap.size) (o := .cells #[.int .i64 a0_0, .int .i64 a0_1, .slice A0_2 l0_2.length c0_2] 24 (0, 0)) (by (with_reducible repeat (first | refine blk_drewN ?_ _ | refine blk_drew ?_ | refine blk_alloc ?_ _)); exact BA0.out) hb)
  have nBW0 := Aside0.mk (blk_below (g := w3.heap.size) (o := .cells #[.int .i64 r0_0, .int .i64 r0_1, .slice A103_0 r0_2.length c103_0] 28 (0, 0)) (by (with_reducible repeat (first | refine blk_drewN ?_ _ | refine blk_drew ?_ | refine blk_alloc ?_ _)); exact BW0.out) hb)
  have nBG0 := Aside0.mk (blk_below (g := w5.heap.size) (o := .cells #[.int .i64 r0_0, .int .i64 r0_1, .slice A105_0 r0_2.length c105_0] 28 (0, 0)) (by (with_reducible repeat (first | refine blk_drewN ?_ _ | refine blk_drew ?_ | refine blk_alloc ?_ _)); exact BG0.out) hb)
  clear HB O3_0 O5_0 BA0 BW0 BG0
  have HB := nB
  have O3_0 := nO3_0
  have O5_0 := nO5_0
  have BA0 := nBA0
  have BW0 := nBW0
  have BG0 := nBG0
  clear nB nO3_0 nO5_0 nBA0 nBW0 nBG0
  have Z13 := HSZ
  clear HSZ
  have cBA0_0 : w13.cell? ⟨w.heap.size, 0, none⟩ = some (.int .i64 a0_0) := (blk_cell BA0.out 0).trans rfl
  have cBA0_1 : w13.cell? ⟨w.heap.size, 1, none⟩ = some (.int .i64 a0_1) := (blk_cell BA0.out 1).trans rfl
  have cBA0_2 : w13.cell? ⟨w.heap.size, 2, none⟩ = some (.slice A0_2 l0_2.length c0_2) := (blk_cell BA0.out 2).trans rfl
  have cBW0_0 : w13.cell? ⟨w3.heap.size, 0, none⟩ = some (.int .i64 r0_0) := (blk_cell BW0.out 0).trans rfl
  have cBW0_1 : w13.cell? ⟨w3.heap.size, 1, none⟩ = some (.int .i64 r0_1) := (blk_cell BW0.out 1).trans rfl
  have cBW0_2 : w13.cell? ⟨w3.heap.size, 2, none⟩ = some (.slice A103_0 r0_2.length c103_0) := (blk_cell BW0.out 2).trans rfl
  have cBG0_0 : w13.cell? ⟨w5.heap.size, 0, none⟩ = some (.int .i64 r0_0) := (blk_cell BG0.out 0).trans rfl
  have cBG0_1 : w13.cell? ⟨w5.heap.size, 1, none⟩ = some (.int .i64 r0_1) := (blk_cell BG0.out 1).trans rfl
  have cBG0_2 : w13.cell? ⟨w5.heap.size, 2, none⟩ = some (.slice A105_0 r0_2.length c105_0) := (blk_cell BG0.out 2).trans rfl
  go_wp2_with fail
  clear cBA0_0 cBA0_1 cBA0_2 cBW0_0 cBW0_1 cBW0_2 cBG0_0 cBG0_1 cBG0_2
  refine (laws_toGrammar.calls kt0 a0_0 a0_1 A0_2 c0_2 l0_2 a0_0 a0_1 (convs l0_2) _ (Kd.C_below hr0_2 (by repeat (first | (with_reducible first | exact HB.out | apply below_alloc | apply pw_below_drewN | apply below_drew1) | exact HB.out))) hc0_2 ht0).mono ?_
  rintro e w14 ⟨v0, rfl, ho0, hb⟩
  obtain ⟨A114_0, c114_0, ev_⟩ := Kd.S_slice ho0
  subst ev_
  have NO14_0 := Aside0.mk (Kd.S_mono (ok' := fun q_ => w13.heap.size + 0 ≤ q_ ∧ q_ < w14.heap.size) (Kd.S_lower (Kd.S_bound ho0) (below_size (by repeat (first | (with_reducible first | exact HB.out | apply below_alloc | apply pw_below_drewN | apply below_drew1) | exact HB.out)))) (fun q_ h_ => ⟨by have h2_ := h_.2.1; (try simp at h2_); omega, h_.2.2.1⟩))
  clear ho0
  have HSZ := Aside0.mk (show w13.heap.size + 0 ≤ w14.heap.size by have h_ := hb.size; (try simp at h_); omega)
  have nB := Aside0.mk (below_step (by repeat (first | (with_reducible first | exact HB.out | apply below_alloc | apply pw_below_drewN | apply below_drew1) | exact HB.out)) hb)
  have nO3_0 := Aside0.mk (Kd.N_below (by (with_reducible repeat (first | apply Kd.N_alloc | apply Kd.N_drewN | apply Kd.N_drew)); exact O3_0.out) hb)
  have nO5_0 := Aside0.mk (Kd.S_below (by (with_reducible repeat (first | apply Kd.S_alloc | apply Kd.S_drewN | apply Kd.S_drew)); exact O5_0.out) hb)
  have nBA0 := Aside0.mk (blk_below (g := w.heap.size) (o := .cells #[.int .i64 a0_0, .int .i64 a0_1, .slice A0_2 l0_2.length c0_2] 24 (0, 0)) (by (with_reducible repeat (first | refine blk_drewN ?_ _ | refine blk_drew ?_ | refine blk_alloc ?_ _)); exact BA0.out) hb)
  have nBW0 := Aside0.mk (blk_below (g := w3.heap.size) (o := .cells #[.int .i64 r0_0, .int .i64 r0_1, .slice A103_0 r0_2.length c103_0] 28 (0, 0)) (by (with_reducible repeat (first | refine blk_drewN ?_ _ | refine blk_drew ?_ | refine blk_alloc ?_ _)); exact BW0.out) hb)
  have nBG0 := Aside0.mk (blk_below (g := w5.heap.size) (o := .cells #[.int .i64 r0_0, .int .i64 r0_1, .slice A105_0 r0_2.length c105_0] 28 (0, 0)) (by (with_reducible repeat (first | refine blk_drewN ?_ _ | refine blk_drew ?_ | refine blk_alloc ?_ _)); exact BG0.out) hb)
  clear HB O3_0 O5_0 BA0 BW0 BG0
  have HB := nB
  have O3_0 := nO3_0
  have O5_0 := nO5_0
  have BA0 := nBA0
  have BW0 := nBW0
  have BG0 := nBG0
  clear nB nO3_0 nO5_0 nBA0 nBW0 nBG0
  have Z14 := HSZ
  clear HSZ
  have cBA0_0 : w14.cell? ⟨w.heap.size, 0, none⟩ = some (.int .i64 a0_0) := (blk_cell BA0.out 0).trans rfl
  have cBA0_1 : w14.cell? ⟨w.heap.size, 1, none⟩ = some (.int .i64 a0_1) := (blk_cell BA0.out 1).trans rfl
  have cBA0_2 : w14.cell? ⟨w.heap.size, 2, none⟩ = some (.slice A0_2 l0_2.length c0_2) := (blk_cell BA0.out 2).trans rfl
  have cBW0_0 : w14.cell? ⟨w3.heap.size, 0, none⟩ = some (.int .i64 r0_0) := (blk_cell BW0.out 0).trans rfl
  have cBW0_1 : w14.cell? ⟨w3.heap.size, 1, none⟩ = some (.int .i64 r0_1) := (blk_cell BW0.out 1).trans rfl
  have cBW0_2 : w14.cell? ⟨w3.heap.size, 2, none⟩ = some (.slice A103_0 r0_2.length c103_0) := (blk_cell BW0.out 2).trans rfl
  have cBG0_0 : w14.cell? ⟨w5.heap.size, 0, none⟩ = some (.int .i64 r0_0) := (blk_cell BG0.out 0).trans rfl
  have cBG0_1 : w14.cell? ⟨w5.heap.size, 1, none⟩ = some (.int .i64 r0_1) := (blk_cell BG0.out 1).trans rfl
  have cBG0_2 : w14.cell? ⟨w5.heap.size, 2, none⟩ = some (.slice A105_0 r0_2.length c105_0) := (blk_cell BG0.out 2).trans rfl
  have O14_0 := NO14_0
  clear NO14_0
  go_wp2_with fail
  clear cBA0_0 cBA0_1 cBA0_2 cBW0_0 cBW0_1 cBW0_2 cBG0_0 cBG0_1 cBG0_2
  refine (impl_UsefulOf.calls a0_0 a0_1 _ _ (convs l0_2) r0_0 r0_1 r0_2 r1 _ (Kd.S_reads' (by (with_reducible repeat (first | apply Kd.S_alloc | apply Kd.S_drewN | apply Kd.S_drew)); exact O14_0.out)).2.2 (Kd.S_reads' O14_0.out).2.1 hki).mono ?_
  rintro e w15 ⟨v0, rfl, ho0, hb⟩
  obtain ⟨A115_0, c115_0, ev_⟩ := Kd.S_slice ho0
  subst ev_
  have NO15_0 := Aside0.mk (Kd.S_mono (ok' := fun q_ => w14.heap.size + 0 ≤ q_ ∧ q_ < w15.heap.size) (Kd.S_lower (Kd.S_bound ho0) (below_size (by repeat (first | (with_reducible first | exact HB.out | apply below_alloc | apply pw_below_drewN | apply below_drew1) | exact HB.out)))) (fun q_ h_ => ⟨by have h2_ := h_.2.1; (try simp at h2_); omega, h_.2.2.1⟩))
  clear ho0
  have HSZ := Aside0.mk (show w14.heap.size + 0 ≤ w15.heap.size by have h_ := hb.size; (try simp at h_); omega)
  have nB := Aside0.mk (below_step (by repeat (first | (with_reducible first | exact HB.out | apply below_alloc | apply pw_below_drewN | apply below_drew1) | exact HB.out)) hb)
  have nO3_0 := Aside0.mk (Kd.N_below (by (with_reducible repeat (first | apply Kd.N_alloc | apply Kd.N_drewN | apply Kd.N_drew)); exact O3_0.out) hb)
  have nO5_0 := Aside0.mk (Kd.S_below (by (with_reducible repeat (first | apply Kd.S_alloc | apply Kd.S_drewN | apply Kd.S_drew)); exact O5_0.out) hb)
  have nO14_0 := Aside0.mk (Kd.S_below (by (with_reducible repeat (first | apply Kd.S_alloc | apply Kd.S_drewN | apply Kd.S_drew)); exact O14_0.out) hb)
  have nBA0 := Aside0.mk (blk_below (g := w.heap.size) (o := .cells #[.int .i64 a0_0, .int .i64 a0_1, .slice A0_2 l0_2.length c0_2] 24 (0, 0)) (by (with_reducible repeat (first | refine blk_drewN ?_ _ | refine blk_drew ?_ | refine blk_alloc ?_ _)); exact BA0.out) hb)
  have nBW0 := Aside0.mk (blk_below (g := w3.heap.size) (o := .cells #[.int .i64 r0_0, .int .i64 r0_1, .slice A103_0 r0_2.length c103_0] 28 (0, 0)) (by (with_reducible repeat (first | refine blk_drewN ?_ _ | refine blk_drew ?_ | refine blk_alloc ?_ _)); exact BW0.out) hb)
  have nBG0 := Aside0.mk (blk_below (g := w5.heap.size) (o := .cells #[.int .i64 r0_0, .int .i64 r0_1, .slice A105_0 r0_2.length c105_0] 28 (0, 0)) (by (with_reducible repeat (first | refine blk_drewN ?_ _ | refine blk_drew ?_ | refine blk_alloc ?_ _)); exact BG0.out) hb)
  clear HB O3_0 O5_0 O14_0 BA0 BW0 BG0
  have HB := nB
  have O3_0 := nO3_0
  have O5_0 := nO5_0
  have O14_0 := nO14_0
  have BA0 := nBA0
  have BW0 := nBW0
  have BG0 := nBG0
  clear nB nO3_0 nO5_0 nO14_0 nBA0 nBW0 nBG0
  have Z15 := HSZ
  clear HSZ
  have cBA0_0 : w15.cell? ⟨w.heap.size, 0, none⟩ = some (.int .i64 a0_0) := (blk_cell BA0.out 0).trans rfl
  have cBA0_1 : w15.cell? ⟨w.heap.size, 1, none⟩ = some (.int .i64 a0_1) := (blk_cell BA0.out 1).trans rfl
  have cBA0_2 : w15.cell? ⟨w.heap.size, 2, none⟩ = some (.slice A0_2 l0_2.length c0_2) := (blk_cell BA0.out 2).trans rfl
  have cBW0_0 : w15.cell? ⟨w3.heap.size, 0, none⟩ = some (.int .i64 r0_0) := (blk_cell BW0.out 0).trans rfl
  have cBW0_1 : w15.cell? ⟨w3.heap.size, 1, none⟩ = some (.int .i64 r0_1) := (blk_cell BW0.out 1).trans rfl
  have cBW0_2 : w15.cell? ⟨w3.heap.size, 2, none⟩ = some (.slice A103_0 r0_2.length c103_0) := (blk_cell BW0.out 2).trans rfl
  have cBG0_0 : w15.cell? ⟨w5.heap.size, 0, none⟩ = some (.int .i64 r0_0) := (blk_cell BG0.out 0).trans rfl
  have cBG0_1 : w15.cell? ⟨w5.heap.size, 1, none⟩ = some (.int .i64 r0_1) := (blk_cell BG0.out 1).trans rfl
  have cBG0_2 : w15.cell? ⟨w5.heap.size, 2, none⟩ = some (.slice A105_0 r0_2.length c105_0) := (blk_cell BG0.out 2).trans rfl
  have O15_0 := NO15_0
  clear NO15_0
  clear O14_0
  have pBW0_0 : (w15.alloc (.cells #[.int .i64 r0_0, .int .i64 r0_1, .slice A115_0 r0_2.length c115_0] 28 (0, 0))).cell? ⟨w3.heap.size, 0, none⟩ = some (.int .i64 r0_0) := (blk_cell (blk_alloc BW0.out (.cells #[.int .i64 r0_0, .int .i64 r0_1, .slice A115_0 r0_2.length c115_0] 28 (0, 0))) 0).trans rfl
  have pBW0_1 : (w15.alloc (.cells #[.int .i64 r0_0, .int .i64 r0_1, .slice A115_0 r0_2.length c115_0] 28 (0, 0))).cell? ⟨w3.heap.size, 1, none⟩ = some (.int .i64 r0_1) := (blk_cell (blk_alloc BW0.out (.cells #[.int .i64 r0_0, .int .i64 r0_1, .slice A115_0 r0_2.length c115_0] 28 (0, 0))) 1).trans rfl
  have pBW0_2 : (w15.alloc (.cells #[.int .i64 r0_0, .int .i64 r0_1, .slice A115_0 r0_2.length c115_0] 28 (0, 0))).cell? ⟨w3.heap.size, 2, none⟩ = some (.slice A103_0 r0_2.length c103_0) := (blk_cell (blk_alloc BW0.out (.cells #[.int .i64 r0_0, .int .i64 r0_1, .slice A115_0 r0_2.length c115_0] 28 (0, 0))) 2).trans rfl
  have pBG0_0 : (w15.alloc (.cells #[.int .i64 r0_0, .int .i64 r0_1, .slice A115_0 r0_2.length c115_0] 28 (0, 0))).cell? ⟨w5.heap.size, 0, none⟩ = some (.int .i64 r0_0) := (blk_cell (blk_alloc BG0.out (.cells #[.int .i64 r0_0, .int .i64 r0_1, .slice A115_0 r0_2.length c115_0] 28 (0, 0))) 0).trans rfl
  have pBG0_1 : (w15.alloc (.cells #[.int .i64 r0_0, .int .i64 r0_1, .slice A115_0 r0_2.length c115_0] 28 (0, 0))).cell? ⟨w5.heap.size, 1, none⟩ = some (.int .i64 r0_1) := (blk_cell (blk_alloc BG0.out (.cells #[.int .i64 r0_0, .int .i64 r0_1, .slice A115_0 r0_2.length c115_0] 28 (0, 0))) 1).trans rfl
  have pBG0_2 : (w15.alloc (.cells #[.int .i64 r0_0, .int .i64 r0_1, .slice A115_0 r0_2.length c115_0] 28 (0, 0))).cell? ⟨w5.heap.size, 2, none⟩ = some (.slice A105_0 r0_2.length c105_0) := (blk_cell (blk_alloc BG0.out (.cells #[.int .i64 r0_0, .int .i64 r0_1, .slice A115_0 r0_2.length c115_0] 28 (0, 0))) 2).trans rfl
  go_wp2_with fail
  clear pBW0_0 pBW0_1 pBW0_2 pBG0_0 pBG0_1 pBG0_2
  clear cBA0_0 cBA0_1 cBA0_2 cBW0_0 cBW0_1 cBW0_2 cBG0_0 cBG0_1 cBG0_2
  refine (laws_eqGrammar.calls ke0 r0_0 r0_1 _ _ r0_2 r0_0 r0_1 _ _ r0_2 true _ (Kd.S_reads' (by (with_reducible repeat (first | apply Kd.S_alloc | apply Kd.S_drewN | apply Kd.S_drew)); exact O15_0.out)).2.2 (Kd.S_reads' O15_0.out).2.1 (Kd.N_reads' (by (with_reducible repeat (first | apply Kd.N_alloc | apply Kd.N_drewN | apply Kd.N_drew)); exact O3_0.out)).2.2 (Kd.N_reads' O3_0.out).2.1 hke0).mono ?_
  rintro e w16 ⟨rfl, hb⟩
  have HSZ := Aside0.mk (show w15.heap.size + 1 ≤ w16.heap.size by have h_ := hb.size; (try simp at h_); omega)
  have nB := Aside0.mk (below_step (by repeat (first | (with_reducible first | exact HB.out | apply below_alloc | apply pw_below_drewN | apply below_drew1) | exact HB.out)) hb)
  have nO3_0 := Aside0.mk (Kd.N_below (by (with_reducible repeat (first | apply Kd.N_alloc | apply Kd.N_drewN | apply Kd.N_drew)); exact O3_0.out) hb)
  have nO5_0 := Aside0.mk (Kd.S_below (by (with_reducible repeat (first | apply Kd.S_alloc | apply Kd.S_drewN | apply Kd.S_drew)); exact O5_0.out) hb)
  have nO15_0 := Aside0.mk (Kd.S_below (by (with_reducible repeat (first | apply Kd.S_alloc | apply Kd.S_drewN | apply Kd.S_drew)); exact O15_0.out) hb)
  have nBA0 := Aside0.mk (blk_below (g := w.heap.size) (o := .cells #[.int .i64 a0_0, .int .i64 a0_1, .slice A0_2 l0_2.length c0_2] 24 (0, 0)) (by (with_reducible repeat (first | refine blk_drewN ?_ _ | refine blk_drew ?_ | refine blk_alloc ?_ _)); exact BA0.out) hb)
  have nBW0 := Aside0.mk (blk_below (g := w3.heap.size) (o := .cells #[.int .i64 r0_0, .int .i64 r0_1, .slice A103_0 r0_2.length c103_0] 28 (0, 0)) (by (with_reducible repeat (first | refine blk_drewN ?_ _ | refine blk_drew ?_ | refine blk_alloc ?_ _)); exact BW0.out) hb)
  have nBG0 := Aside0.mk (blk_below (g := w5.heap.size) (o := .cells #[.int .i64 r0_0, .int .i64 r0_1, .slice A105_0 r0_2.length c105_0] 28 (0, 0)) (by (with_reducible repeat (first | refine blk_drewN ?_ _ | refine blk_drew ?_ | refine blk_alloc ?_ _)); exact BG0.out) hb)
  have nBH0 := Aside0.mk (blk_below (o := .cells #[.int .i64 r0_0, .int .i64 r0_1, .slice A115_0 r0_2.length c115_0] 28 (0, 0)) (heap_alloc_new w15 _) hb)
  clear HB O3_0 O5_0 O15_0 BA0 BW0 BG0
  have HB := nB
  have O3_0 := nO3_0
  have O5_0 := nO5_0
  have O15_0 := nO15_0
  have BA0 := nBA0
  have BW0 := nBW0
  have BG0 := nBG0
  have BH0 := nBH0
  clear nB nO3_0 nO5_0 nO15_0 nBA0 nBW0 nBG0 nBH0
  have Z16 := HSZ
  clear HSZ
  have cBA0_0 : w16.cell? ⟨w.heap.size, 0, none⟩ = some (.int .i64 a0_0) := (blk_cell BA0.out 0).trans rfl
  have cBA0_1 : w16.cell? ⟨w.heap.size, 1, none⟩ = some (.int .i64 a0_1) := (blk_cell BA0.out 1).trans rfl
  have cBA0_2 : w16.cell? ⟨w.heap.size, 2, none⟩ = some (.slice A0_2 l0_2.length c0_2) := (blk_cell BA0.out 2).trans rfl
  have cBW0_0 : w16.cell? ⟨w3.heap.size, 0, none⟩ = some (.int .i64 r0_0) := (blk_cell BW0.out 0).trans rfl
  have cBW0_1 : w16.cell? ⟨w3.heap.size, 1, none⟩ = some (.int .i64 r0_1) := (blk_cell BW0.out 1).trans rfl
  have cBW0_2 : w16.cell? ⟨w3.heap.size, 2, none⟩ = some (.slice A103_0 r0_2.length c103_0) := (blk_cell BW0.out 2).trans rfl
  have cBG0_0 : w16.cell? ⟨w5.heap.size, 0, none⟩ = some (.int .i64 r0_0) := (blk_cell BG0.out 0).trans rfl
  have cBG0_1 : w16.cell? ⟨w5.heap.size, 1, none⟩ = some (.int .i64 r0_1) := (blk_cell BG0.out 1).trans rfl
  have cBG0_2 : w16.cell? ⟨w5.heap.size, 2, none⟩ = some (.slice A105_0 r0_2.length c105_0) := (blk_cell BG0.out 2).trans rfl
  have cBH0_0 : w16.cell? ⟨w15.heap.size, 0, none⟩ = some (.int .i64 r0_0) := (blk_cell BH0.out 0).trans rfl
  have cBH0_1 : w16.cell? ⟨w15.heap.size, 1, none⟩ = some (.int .i64 r0_1) := (blk_cell BH0.out 1).trans rfl
  have cBH0_2 : w16.cell? ⟨w15.heap.size, 2, none⟩ = some (.slice A115_0 r0_2.length c115_0) := (blk_cell BH0.out 2).trans rfl
  go_wp2_with fail
  clear cBA0_0 cBA0_1 cBA0_2 cBW0_0 cBW0_1 cBW0_2 cBG0_0 cBG0_1 cBG0_2 cBH0_0 cBH0_1 cBH0_2
  have CH := fun A_ c_ w_ hr_ hc_ => heldGrammar_calls r0_0 r0_1 A_ c_ r0_2 (1) w_ hr_ hc_ (by omega) (by have := br0; omega)
  rw [← Smm0.out] at CH
  refine (CH _ _ _ (Kd.S_reads' (by (with_reducible repeat (first | apply Kd.S_alloc | apply Kd.S_drewN | apply Kd.S_drew)); exact O5_0.out)).2.2 (Kd.S_reads' O5_0.out).2.1).mono ?_
  rintro e w17 ⟨rfl, hb⟩
  clear CH
  have HSZ := Aside0.mk (show w16.heap.size + 0 ≤ w17.heap.size by have h_ := hb.size; (try simp at h_); omega)
  have nB := Aside0.mk (below_step (by repeat (first | (with_reducible first | exact HB.out | apply below_alloc | apply pw_below_drewN | apply below_drew1) | exact HB.out)) hb)
  have nO3_0 := Aside0.mk (Kd.N_below (by (with_reducible repeat (first | apply Kd.N_alloc | apply Kd.N_drewN | apply Kd.N_drew)); exact O3_0.out) hb)
  have nO5_0 := Aside0.mk (Kd.S_below (by (with_reducible repeat (first | apply Kd.S_alloc | apply Kd.S_drewN | apply Kd.S_drew)); exact O5_0.out) hb)
  have nO15_0 := Aside0.mk (Kd.S_below (by (with_reducible repeat (first | apply Kd.S_alloc | apply Kd.S_drewN | apply Kd.S_drew)); exact O15_0.out) hb)
  have nBA0 := Aside0.mk (blk_below (g := w.heap.size) (o := .cells #[.int .i64 a0_0, .int .i64 a0_1, .slice A0_2 l0_2.length c0_2] 24 (0, 0)) (by (with_reducible repeat (first | refine blk_drewN ?_ _ | refine blk_drew ?_ | refine blk_alloc ?_ _)); exact BA0.out) hb)
  have nBW0 := Aside0.mk (blk_below (g := w3.heap.size) (o := .cells #[.int .i64 r0_0, .int .i64 r0_1, .slice A103_0 r0_2.length c103_0] 28 (0, 0)) (by (with_reducible repeat (first | refine blk_drewN ?_ _ | refine blk_drew ?_ | refine blk_alloc ?_ _)); exact BW0.out) hb)
  have nBG0 := Aside0.mk (blk_below (g := w5.heap.size) (o := .cells #[.int .i64 r0_0, .int .i64 r0_1, .slice A105_0 r0_2.length c105_0] 28 (0, 0)) (by (with_reducible repeat (first | refine blk_drewN ?_ _ | refine blk_drew ?_ | refine blk_alloc ?_ _)); exact BG0.out) hb)
  have nBH0 := Aside0.mk (blk_below (g := w15.heap.size) (o := .cells #[.int .i64 r0_0, .int .i64 r0_1, .slice A115_0 r0_2.length c115_0] 28 (0, 0)) (by (with_reducible repeat (first | refine blk_drewN ?_ _ | refine blk_drew ?_ | refine blk_alloc ?_ _)); exact BH0.out) hb)
  clear HB O3_0 O5_0 O15_0 BA0 BW0 BG0 BH0
  have HB := nB
  have O3_0 := nO3_0
  have O5_0 := nO5_0
  have O15_0 := nO15_0
  have BA0 := nBA0
  have BW0 := nBW0
  have BG0 := nBG0
  have BH0 := nBH0
  clear nB nO3_0 nO5_0 nO15_0 nBA0 nBW0 nBG0 nBH0
  have Z17 := HSZ
  clear HSZ
  have cBA0_0 : w17.cell? ⟨w.heap.size, 0, none⟩ = some (.int .i64 a0_0) := (blk_cell BA0.out 0).trans rfl
  have cBA0_1 : w17.cell? ⟨w.heap.size, 1, none⟩ = some (.int .i64 a0_1) := (blk_cell BA0.out 1).trans rfl
  have cBA0_2 : w17.cell? ⟨w.heap.size, 2, none⟩ = some (.slice A0_2 l0_2.length c0_2) := (blk_cell BA0.out 2).trans rfl
  have cBW0_0 : w17.cell? ⟨w3.heap.size, 0, none⟩ = some (.int .i64 r0_0) := (blk_cell BW0.out 0).trans rfl
  have cBW0_1 : w17.cell? ⟨w3.heap.size, 1, none⟩ = some (.int .i64 r0_1) := (blk_cell BW0.out 1).trans rfl
  have cBW0_2 : w17.cell? ⟨w3.heap.size, 2, none⟩ = some (.slice A103_0 r0_2.length c103_0) := (blk_cell BW0.out 2).trans rfl
  have cBG0_0 : w17.cell? ⟨w5.heap.size, 0, none⟩ = some (.int .i64 r0_0) := (blk_cell BG0.out 0).trans rfl
  have cBG0_1 : w17.cell? ⟨w5.heap.size, 1, none⟩ = some (.int .i64 r0_1) := (blk_cell BG0.out 1).trans rfl
  have cBG0_2 : w17.cell? ⟨w5.heap.size, 2, none⟩ = some (.slice A105_0 r0_2.length c105_0) := (blk_cell BG0.out 2).trans rfl
  have cBH0_0 : w17.cell? ⟨w15.heap.size, 0, none⟩ = some (.int .i64 r0_0) := (blk_cell BH0.out 0).trans rfl
  have cBH0_1 : w17.cell? ⟨w15.heap.size, 1, none⟩ = some (.int .i64 r0_1) := (blk_cell BH0.out 1).trans rfl
  have cBH0_2 : w17.cell? ⟨w15.heap.size, 2, none⟩ = some (.slice A115_0 r0_2.length c115_0) := (blk_cell BH0.out 2).trans rfl
  go_wp2
  go_ret
  exact ⟨rfl, by repeat (first | (with_reducible first | exact HB.out | apply below_alloc | apply pw_below_drewN | apply below_drew1) | exact HB.out)⟩
end Go.Proofs.Ytekoclhnfhbmeaa.P
namespace Go.Proofs.Ytekoclhnfhbmeaa.Open
open Go.RowKit Go.Proofs.YtekoclhnfhbmeaaW.PrintWords
section
variable {H : Type} {enc : TypeId × Value → H} {P : Program} {w : World}
def Opens {α : Type} (enc : TypeId × Value → H) (P : Program) (w : World) (t : TypeId) (d : Kd α) : Prop :=
  ∀ (fuel : Nat) (cs : List Value) (x : DataW H × List MemPlace), DataW.trod enc P w 0 (fun _ => true) true fuel t cs = some x → ∃ y : α, d.K w y cs
theorem opens_int {t : TypeId} {k : IntKind} (ht : P.underlying t = some (.int k)) : Opens enc P w t (Kd.int k) := by
  intro fuel cs x h
  cases fuel with
  | zero => simp [DataW.trod] at h
  | succ fuel =>
    unfold DataW.trod at h
    rw [ht] at h
    split at h <;> first | (cases h; done) | skip
    all_goals first | (rename_i hh; cases hh; done) | skip
    all_goals try (rename_i k' n heq; cases heq)
    all_goals
      split at h
      · rename_i hk
        obtain ⟨rfl, _⟩ := hk
        exact ⟨_, rfl⟩
      · cases h
theorem each_mapM {α β : Type} {f : α → Option β} : ∀ {l : List α} {ys : List β}, l.mapM f = some ys → ∀ a ∈ l, ∃ y, f a = some y := by
  intro l
  induction l with
  | nil => intro ys _ a ha; cases ha
  | cons b l ih =>
    intro ys h a ha
    rw [List.mapM_cons] at h
    cases hb : f b with
    | none => rw [hb] at h; cases h
    | some z =>
      rw [hb] at h
      cases hl : l.mapM f with
      | none => rw [hl] at h; cases h
      | some zs =>
        rcases List.mem_cons.1 ha with rfl | ha
        · exact ⟨z, hb⟩
        · exact ih hl a ha
theorem opens_slice {α : Type} {t e : TypeId} {d : Kd α} (ht : P.underlying t = some (.slice e)) (hs : P.cellsOf e = d.sz) (hd : Opens enc P w e d) : Opens enc P w t (Kd.slice e d) := by
  intro fuel cs x h
  rcases Go.Deep.open_slice ht h with ⟨rfl, _⟩ | ⟨a, len, cap, m, n, D, Pl, rfl, hb, hl, hm, hmm, rfl, hx⟩
  · exact ⟨[], none, 0, rfl, Nat.le_refl _, rfl, Nat.zero_le _, fun h0 => absurd h0 (Nat.lt_irrefl _)⟩
  · simp only [if_true] at hmm
    subst hmm
    have each : ∀ i, i < len → ∃ y : α, ∃ c, c.length = d.sz ∧ d.K w y c ∧ ∀ j u, c[j]? = some u → w.cell? (a.add (i * d.sz + j)) = some u := by
      intro i hi
      obtain ⟨cs', h1, h2⟩ := hx i (by omega)
      obtain ⟨y, hy⟩ := hd _ _ _ h2
      obtain ⟨_, hlen, hc⟩ := World.cells?_some h1
      refine ⟨y, cs', d.K_len hy, hy, fun j u hu => ?_⟩
      have hj := (List.getElem?_eq_some_iff.1 hu).1
      have := hc j (by omega)
      rw [hu] at this
      rw [← this, hs]
      unfold Addr.add
      by_cases h0 : i * d.sz = 0 <;> by_cases h1 : j = 0 <;> simp [h0, h1, Nat.add_assoc]
    have pick : ∃ f : Nat → Option α, ∀ i, i < len → ∃ y, f i = some y ∧ ∃ c, c.length = d.sz ∧ d.K w y c ∧ ∀ j u, c[j]? = some u → w.cell? (a.add (i * d.sz + j)) = some u := by
      classical
      refine ⟨fun i => if hi : i < len then some (Classical.choose (each i hi)) else none, fun i hi => ⟨_, dif_pos hi, Classical.choose_spec (each i hi)⟩⟩
    obtain ⟨f, hf⟩ := pick
    refine ⟨(List.range len).filterMap f, some a, m, ?_, ?_, ?_⟩
    all_goals
      have hlen : ((List.range len).filterMap f).length = len ∧ ∀ j, j < len → ((List.range len).filterMap f)[j]? = f j := by
        have key : ∀ n, n ≤ len → ((List.range n).filterMap f).length = n ∧ ∀ j, j < n → ((List.range n).filterMap f)[j]? = f j := by
          intro n
          induction n with
          | zero => exact fun _ => ⟨rfl, fun j hj => absurd hj (Nat.not_lt_zero _)⟩
          | succ n ih =>
            intro hn
            obtain ⟨h1, h2⟩ := ih (by omega)
            obtain ⟨y, hy, _⟩ := hf n (by omega)
            have e : (List.range (n + 1)).filterMap f = (List.range n).filterMap f ++ [y] := by
              rw [List.range_succ, List.filterMap_append]; simp [hy]
            rw [e]
            refine ⟨by simp [h1], fun j hj => ?_⟩
            by_cases hj' : j < n
            · rw [List.getElem?_append_left (by omega)]; exact h2 j hj'
            · obtain rfl : j = n := by omega
              rw [List.getElem?_append_right (by omega), h1, hy]; simp
        exact key len (Nat.le_refl _)
    · rw [hlen.1]
    · rw [hlen.1]; exact hl
    · refine ⟨rfl, by rw [hlen.1]; simp only [maxLen] at hm; omega, fun _ => ⟨a, rfl, fun j p hj => ?_⟩⟩
      have hjl := (List.getElem?_eq_some_iff.1 hj).1
      rw [hlen.1] at hjl
      rw [hlen.2 j hjl] at hj
      obtain ⟨y, hy, c, h1, h2, h3⟩ := hf j hjl
      rw [hy] at hj
      injection hj with hj
      subst hj
      exact ⟨c, h1, h2, h3⟩
theorem open_struct {t : TypeId} {fs : Array Field} {fuel : Nat} {cs : List Value} {x : DataW H × List MemPlace} (ht : P.underlying t = some (.struct fs)) (h : DataW.trod enc P w 0 (fun _ => true) true fuel t cs = some x) :
    cs.length = P.cellsOf t ∧ ∃ fuel', ∀ f ∈ fs.toList, ∃ y, DataW.trod enc P w 0 (fun _ => true) true fuel' f.type ((cs.drop f.offset).take (P.cellsOf f.type)) = some y := by
  cases fuel with
  | zero => simp [DataW.trod] at h
  | succ fuel =>
    unfold DataW.trod at h
    rw [ht] at h
    simp only at h
    split at h
    · rename_i hl
      refine ⟨hl, fuel, fun f hf => ?_⟩
      cases hm : (fs.toList.mapM fun f => DataW.trod enc P w 0 (fun _ => true) true fuel f.type ((cs.drop f.offset).take (P.cellsOf f.type))) with
      | none => rw [hm] at h; cases h
      | some ys => exact each_mapM hm f hf
    · cases h
end
end Go.Proofs.Ytekoclhnfhbmeaa.Open
namespace Go.Proofs.Ytekoclhnfhbmeaa.Open
open Go.RowKit Go.Proofs.YtekoclhnfhbmeaaW.PrintWords Go.Proofs.Ytekoclhnfhbmeaa.P Go.ChangeShapes Go.WideShapes
section
variable {H : Type} {enc : TypeId × Value → H} {w : World}
theorem cells_int : Try.prog.cellsOf 3 = 1 := by kernel_rfl
theorem cells_ints : Try.prog.cellsOf 37 = 1 := by kernel_rfl
theorem cells_rule : Try.prog.cellsOf 98 = 2 := by kernel_rfl
theorem cells_rules : Try.prog.cellsOf 22 = 1 := by kernel_rfl
theorem cells_grammar : Try.prog.cellsOf 24 = 3 := by kernel_rfl
theorem opens_i : Opens enc Try.prog w 3 (Kd.int .i64) := opens_int Try.underlying3
theorem opens_ints : Opens enc Try.prog w 37 (Kd.slice 3 (Kd.int .i64)) := opens_slice Try.underlying37 cells_int opens_i
set_option maxRecDepth 100000 in
theorem opens_rule : Opens enc Try.prog w 98 k98 := by
  intro fuel cs x h
  obtain ⟨hl, n, hf⟩ := open_struct Try.underlying98 h
  rw [cells_rule] at hl
  have h0 := hf _ List.mem_cons_self
  have h1 := hf _ (List.mem_cons_of_mem _ List.mem_cons_self)
  match cs, hl with
  | [c0, c1], _ =>
    obtain ⟨y0, h0⟩ := h0
    obtain ⟨y1, h1⟩ := h1
    simp only [cells_int, cells_ints] at h0 h1
    obtain ⟨i, hi⟩ := opens_i n _ _ h0
    obtain ⟨l, A, c, hc, hlc, hC⟩ := opens_ints n _ _ h1
    have e0 : c0 = .int .i64 i := (List.cons.inj (show [c0] = [(.int .i64 i : Value)] from hi)).1
    have e1 : c1 = .slice A l.length c := (List.cons.inj (show [c1] = [(.slice A l.length c : Value)] from hc)).1
    subst e0 e1
    exact ⟨⟨i, l⟩, k98_mk w ⟨i, l⟩ hlc hC⟩
theorem opens_rules : Opens enc Try.prog w 22 (Kd.slice 98 k98) := opens_slice Try.underlying22 cells_rule opens_rule
set_option maxRecDepth 100000 in
theorem open_grammar {v : Value} {d : DataW H} {ps : List MemPlace} {r : Reach} {b0 : Nat} (hv : Value.okWide Try.prog w r b0 24 v) (h : DataW.Trod enc Try.prog w 0 (fun _ => true) true 24 v d ps) :
    ∃ (a0 a1 : Int) (A : Option Addr) (c : Nat) (l : List S98), v = .agg #[.int .i64 a0, .int .i64 a1, .slice A l.length c] ∧ l.length ≤ c ∧ Kd.C k98 w A l.length l := by
  obtain ⟨cs, rfl, hsz⟩ := okWide_struct Try.underlying24 hv
  obtain ⟨fuel, h⟩ := h
  obtain ⟨hl, n, hf⟩ := open_struct Try.underlying24 h
  rw [cells_grammar] at hl
  have h0 := hf _ List.mem_cons_self
  have h1 := hf _ (List.mem_cons_of_mem _ List.mem_cons_self)
  have h2 := hf _ (List.mem_cons_of_mem _ (List.mem_cons_of_mem _ List.mem_cons_self))
  obtain ⟨L⟩ := cs
  match L, hl with
  | [c0, c1, c2], _ =>
    obtain ⟨y0, h0⟩ := h0
    obtain ⟨y1, h1⟩ := h1
    obtain ⟨y2, h2⟩ := h2
    simp only [cells_int, cells_rules] at h0 h1 h2
    obtain ⟨i, hi⟩ := opens_i n _ _ h0
    obtain ⟨j, hj⟩ := opens_i n _ _ h1
    obtain ⟨l, A, c, hc, hlc, hC⟩ := opens_rules n _ _ h2
    have e0 : c0 = .int .i64 i := (List.cons.inj (show [c0] = [(.int .i64 i : Value)] from hi)).1
    have e1 : c1 = .int .i64 j := (List.cons.inj (show [c1] = [(.int .i64 j : Value)] from hj)).1
    have e2 : c2 = .slice A l.length c := (List.cons.inj (show [c2] = [(.slice A l.length c : Value)] from hc)).1
    subst e0 e1 e2
    exact ⟨i, j, A, c, l, rfl, hlc, hC⟩
end
end Go.Proofs.Ytekoclhnfhbmeaa.Open
namespace Go.Proofs.Ytekoclhnfhbmeaa.fnExactUsefulOf
open Go.ChangeShapes Go.WideShapes Go.ChangeAt Go.RowKit
open Go.ChangeMaps (open_string shut_string)
set_option linter.unusedVariables false
theorem own : ownKnob Try.prog.godebug = none := by kernel_rfl
theorem laidOut : laidOutB Try.prog = true := by kernel_rfl
set_option maxRecDepth 100000 in
theorem lifted (os : Os) (started : os.Started) (H : Type) (enc : TypeId × Value → H) :
    ReturnsInHanded {} Try.checked os 3 .any (Rows.fnExactUsefulOfSpec.pre6 enc Try.prog Try.f3 Rows.fnExactUsefulOfRow.domain false) (Rows.fnExactUsefulOfSpec.post enc Try.prog Try.f3 false true false false) := by
  refine returnsInHanded_of_change_sized (C := Try.checked) own started (by kernel_rfl) Try.func3
    (ChangeSpec.witness6 (enc := enc) (C := Try.checked) false ⟨#[], #[.agg #[.int .i64 0, .int .i64 0, .slice none 0 0]], []⟩ 8 (by kernel_rfl) (by kernel_rfl) (by kernel_rfl) (by kernel_rfl)) ?_
  intro W base args ds gs before hval0 hW hcnd hsz0 _
  have hval : ∀ (j : Nat) t v, Try.f3.params[j]? = some t → args[j]? = some v → Value.okWide Try.prog W .any base t v := hval0
  have hW' := hW
  obtain ⟨p, q, hA0, hV, rfl, hfz, hnd⟩ := hW
  have hA : DataW.TrodAll enc Try.prog W 0 (fun _ => true) true Try.f3.params.toList args.toList ds p := hA0
  rw [Try.params3] at hA hval
  obtain ⟨v0, vs0, d0, ds0, p0, q0, hargs, rfl, rfl, h0, r0⟩ := trodAll_cons hA
  obtain ⟨rfl, rfl, rfl⟩ := trodAll_nil r0
  obtain rfl : args = #[v0] := by cases args; simp_all
  obtain ⟨rfl, rfl⟩ := trodVars_none hV
  have lt0 : ∀ x ∈ p0, x.block < W.heap.size := by obtain ⟨m, hm⟩ := h0; exact DataW.trod_lt m _ _ _ hm
  have k0 := h0
  obtain ⟨a0_0, a0_1, A0_2, c0_2, l0_2, rfl, hc0_2, hr0_2⟩ := Open.open_grammar (hval 0 24 v0 rfl rfl) h0
  clear hA0 hval0 hsz0
  refine (P.holds_FnExactUsefulOf W a0_0 a0_1 A0_2 c0_2 l0_2 hr0_2 hc0_2).mono fun e W' ⟨he, bel⟩ => ?_
  subst he
  exact ⟨_, rfl, _, _, _, [], _, [], hW', trodAll_mk1 (shut_bool Try.underlying4 _), (trodAll_cons_mk (Below.trod laidOut (by kernel_rfl) (of_decide_eq_true (by kernel_rfl)) k0 bel lt0) trodAll_mk0), rfl, bel.frame _, fun h => by cases h⟩
theorem over : Rows.fnExactUsefulOfRow.holds Try.pinned (OpenSpec.ofChange Rows.fnExactUsefulOfSpec) :=
  OpenClaim.holds_of_wide 3 Try.f3 rfl rfl rfl rfl rfl rfl rfl ⟨rfl, rfl, rfl, rfl, rfl⟩ rfl rfl rfl rfl rfl (by kernel_rfl) Try.func3 (by kernel_rfl)
    (of_decide_eq_true (by kernel_rfl)) (by unfold Func.isWrapper; first | (rw [if_pos (by decide +kernel)]; kernel_rfl) | (rw [if_neg (by decide +kernel)]; exact ⟨rfl, rfl⟩))
    (fun os started H enc _ => lifted os started H enc)
theorem proved : Rows.FnExactUsefulOfSaid := over
#print axioms proved
end Go.Proofs.Ytekoclhnfhbmeaa.fnExactUsefulOf
namespace Go.Proofs.Ytekoclhnfhbmeaa
theorem fnExactUsefulOf_holds : Rows.FnExactUsefulOfSaid := fnExactUsefulOf.proved
end Go.Proofs.Ytekoclhnfhbmeaa
