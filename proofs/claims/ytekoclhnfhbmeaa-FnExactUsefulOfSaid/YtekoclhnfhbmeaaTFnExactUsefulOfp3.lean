/- A part of the proof of the law FnExactUsefulOf (words of the print and texts of this session, without what this law does not use). -/
import Derived.Below
import Derived.Deep.Draws
import Derived.Deep.AppendLies
import Derived.Maps.AppendAt
import Derived.OwnWalk
import Derived.Laws.BytesArg
import Derived.Laws.MakeOwn
import Derived.Laws.OwnMore
import Derived.Deep.OwnRows
import Derived.Tactics
import Derived.Lib.ConvBytes
import Derived.Laws.Slices
import Derived.WalkKit
import Derived.KernelRfl
import Derived.RowKit3
import Derived.Deep.LoopGhost
import Derived.Deep.QuietTactic
import Derived.BigQuiet
import Derived.WideLaws
import Derived.Deep.DeepCutAuto
import Derived.Deep.CutBlock
import Derived.Deep.RegionHeld3
import Derived.Laws.Rows
import Derived.Lib.AppendStr
import Derived.ArgAppend
import Derived.Laws.IdiomCopy
import Derived.RowKit
import Derived.OrdersHeld
import Derived.Laws.BitsLemmas
import Derived.Laws.StructEq
import Derived.Test.YtekoclhnfhbmeaaProg
import Derived.Shelf.Abstract
import Derived.Lib.SliceRun
import Derived.Orders
import Derived.DataReads
import Derived.Deep.Slices
import Derived.OpenShut
import Derived.Test.YtekoclhnfhbmeaaRows
import Derived.ProofKit
import Derived.ShutString
import Derived.ChangeOld
import Derived.SizedLaws
import Derived.Test.YtekoclhnfhbmeaaTFnExactUsefulOfp2
namespace Go.Proofs.Ytekoclhnfhbmeaa.P
open Go.RowKit Go.Proofs.YtekoclhnfhbmeaaW.PrintWords Go.Proofs.YtekoclhnfhbmeaaW.PrintLast Go.Proofs.YtekoclhnfhbmeaaW.PrintMore
attribute [local go_sem] max2_int min2_int max_two min_two max_three min_three max_four min_four
set_option linter.unusedVariables false
set_option linter.unusedSimpArgs false
mutual
def spec_GoodGrammar.j0 : Nat → Bool → Int → Int → List (S87) → Option (Bool)
  | 0, _, _, _, _ => none
  | k + 1, x24, x102000, x102001, x102002 => if x24 = true then (some false) else (spec_GoodGrammar.l0 k x102002 (x102002.length : Int) 0 x102000 x102001 x102002)
def spec_GoodGrammar.l0 : Nat → List (S87) → Int → Int → Int → Int → List (S87) → Option (Bool)
  | 0, _, _, _, _, _, _ => none
  | k + 1, x26, x27, x28, x102000, x102001, x102002 => if x28 < x27 then (if 0 ≤ x28 then (if x28 < (x26.length : Int) then ((spec_l1In.f ((rd_T87 x26 x28).f0) 0 (wrap64 (x102000 - 1))).bind fun t106 => (if t106 = true then (spec_GoodGrammar.j2 k x28 x26 x27 x28 (decide ((((rd_T87 x26 x28).f1).length : Int) > 4)) x102000 x102001 x102002 ((rd_T87 x26 x28).f0) ((rd_T87 x26 x28).f1)) else (spec_GoodGrammar.j2 k x28 x26 x27 x28 true x102000 x102001 x102002 ((rd_T87 x26 x28).f0) ((rd_T87 x26 x28).f1)))) else (none)) else (none)) else (some true)
def spec_GoodGrammar.j2 : Nat → Int → List (S87) → Int → Int → Bool → Int → Int → List (S87) → Int → List Int → Option (Bool)
  | 0, _, _, _, _, _, _, _, _, _, _ => none
  | k + 1, x3, x26, x27, x28, x45, x102000, x102001, x102002, x106000, x106001 => if x45 = true then (some false) else (spec_GoodGrammar.l1 k x3 x26 x27 x28 x106001 (x106001.length : Int) 0 x102000 x102001 x102002 x106000 x106001)
def spec_GoodGrammar.l1 : Nat → Int → List (S87) → Int → Int → List Int → Int → Int → Int → Int → List (S87) → Int → List Int → Option (Bool)
  | 0, _, _, _, _, _, _, _, _, _, _, _, _ => none
  | k + 1, x3, x26, x27, x28, x47, x48, x49, x102000, x102001, x102002, x106000, x106001 => if x49 < x48 then (if 0 ≤ x49 then (if x49 < (x47.length : Int) then ((spec_l1Symbol.f x102000 x102001 x102002 (rd x47 x49)).bind fun t108 => (if t108 = true then (spec_GoodGrammar.l1 k x3 x26 x27 x28 x47 x48 (wrap64 (x49 + 1)) x102000 x102001 x102002 x106000 x106001) else (some false))) else (none)) else (none)) else (if 0 ≤ x3 then (if x3 ≤ (x102002.length : Int) then ((some (x102002.take (x3 : Int).toNat : List (S87))).bind fun y109 => (spec_GoodGrammar.l2 k x26 x27 x28 y109 (y109.length : Int) 0 x102000 x102001 x102002 x106000 x106001)) else (none)) else (none))
def spec_GoodGrammar.l2 : Nat → List (S87) → Int → Int → List (S87) → Int → Int → Int → Int → List (S87) → Int → List Int → Option (Bool)
  | 0, _, _, _, _, _, _, _, _, _, _, _ => none
  | k + 1, x26, x27, x28, x61, x62, x63, x102000, x102001, x102002, x106000, x106001 => if x63 < x62 then (if 0 ≤ x63 then (if x63 < (x61.length : Int) then ((spec_l1SameRule.f k x106000 x106001 ((rd_T87 x61 x63).f0) ((rd_T87 x61 x63).f1)).bind fun t115 => (if t115 = true then (some false) else (spec_GoodGrammar.l2 k x26 x27 x28 x61 x62 (wrap64 (x63 + 1)) x102000 x102001 x102002 x106000 x106001))) else (none)) else (none)) else (spec_GoodGrammar.l0 k x26 x27 (wrap64 (x28 + 1)) x102000 x102001 x102002)
end
def spec_GoodGrammar.f (k : Nat) (a0_0 : Int) (a0_1 : Int) (l0_2 : List (S87)) : Option (Bool) := (spec_l1In.f a0_0 1 6).bind fun t102 => (if t102 = true then ((spec_l1In.f a0_1 1 4).bind fun t103 => (if t103 = true then (spec_GoodGrammar.j0 k (decide ((l0_2.length : Int) > 16)) a0_0 a0_1 l0_2) else (spec_GoodGrammar.j0 k true a0_0 a0_1 l0_2))) else (spec_GoodGrammar.j0 k true a0_0 a0_1 l0_2))
set_option maxHeartbeats 8000000 in
set_option maxRecDepth 100000 in
theorem spec_GoodGrammar.calls (k : Nat) (a0_0 : Int) (a0_1 : Int) (A0_2 : Option Addr) (c0_2 : Nat) (l0_2 : List (S87)) (r : Bool) (w : World) (hr0_2 : Kd.C k87 w A0_2 l0_2.length l0_2) (hc0_2 : l0_2.length ≤ c0_2) (h : spec_GoodGrammar.f k a0_0 a0_1 l0_2 = some r) :
    Calls Try.prog 52 #[.agg #[.int .i64 a0_0, .int .i64 a0_1, .slice A0_2 l0_2.length c0_2]] w fun e w' => e = .returned (.bool r) ∧ Below w.heap.size w w' := by
  have hu28 := Try.underlying28
  have hu87 := Try.underlying87
  have HR0_2 := Aside0.mk hr0_2
  have HC0_2 := Aside0.mk hc0_2
  clear hr0_2 hc0_2
  have HB := Aside0.mk (Below.refl w.heap.size w)
  have H : ((spec_l1In.f a0_0 1 6).bind fun t102 => (if t102 = true then ((spec_l1In.f a0_1 1 4).bind fun t103 => (if t103 = true then (spec_GoodGrammar.j0 k (decide ((l0_2.length : Int) > 16)) a0_0 a0_1 l0_2) else (spec_GoodGrammar.j0 k true a0_0 a0_1 l0_2))) else (spec_GoodGrammar.j0 k true a0_0 a0_1 l0_2))) = some r := h
  clear h
  have HC2 := Aside0.mk H
  clear H
  go_enter Try.func52, Try.ntmps52
  go_upto_region 1 with (first | ((with_reducible refine gate_dst (N := 1) rfl ?_); (try (refine gate_guard (by rfl) ?_; dsimp only)); refine box_event ?hg (N := 1) ?hd (cs := #[.int .i64 a0_0, .int .i64 a0_1, .slice A0_2 l0_2.length c0_2]) (t := 28) ?hr ?_; (case hd => rfl); (case hg => rfl); (case hr => first | (go_simp; done) | (go_simp; rfl)); intro gb101 hg w3 hbox hb; have n0_ := Aside0.mk (below_step (by repeat (first | (with_reducible first | exact HB.out | apply below_alloc | apply pw_below_drewN | apply below_drew1) | exact HB.out)) hb); have n1_ := Aside0.mk (hbox); have n2_ := Aside0.mk ((by rw [hg]; exact (below_size (by repeat (first | (with_reducible first | exact HB.out | apply below_alloc | apply pw_below_drewN | apply below_drew1) | exact HB.out))) : w.heap.size ≤ gb101)); have n3_ := Aside0.mk ((by rw [hg]; exact (below_size (by repeat (first | (with_reducible first | exact HB.out | apply below_alloc | apply pw_below_drewN | apply below_drew1) | exact HB.out))) : w.heap.size ≤ gb101)); clear HB; have HB := n0_; have BK101 := n1_; have GW101 := n2_; have GE101 := n3_; clear n0_ n1_ n2_ n3_; clear hb hbox hg))
  (try simp only [Act.put, List.setIfInBounds_toArray, List.set_cons_zero, List.set_cons_succ])
  go_cut [24] (fun v24 wc => ∃ (kq : Nat) (x24_1 : Bool), v24 = .bool x24_1 ∧ Aside0 (spec_GoodGrammar.j0 kq x24_1 a0_0 a0_1 l0_2 = some r) ∧ Aside0 (kq ≤ k) ∧ Aside0 (wc.heap[gb101]? = some (.cells #[.int .i64 a0_0, .int .i64 a0_1, (.slice A0_2 l0_2.length c0_2)] 28 (0, 0))) ∧ Aside0 (Below w.heap.size w wc))
  case first =>
    have H := HC2.out
    clear HC2
    replace H := Option.bind_eq_some_iff.mp H
    obtain ⟨t102, A40, H⟩ := H
    replace H : (if t102 = true then ((spec_l1In.f a0_1 1 4).bind fun t103 => (if t103 = true then (spec_GoodGrammar.j0 k (decide ((l0_2.length : Int) > 16)) a0_0 a0_1 l0_2) else (spec_GoodGrammar.j0 k true a0_0 a0_1 l0_2))) else (spec_GoodGrammar.j0 k true a0_0 a0_1 l0_2)) = some r := H
    have A4 := Aside0.mk A40
    clear A40
    by_cases c5 : t102 = true
    · subst c5
      have H1 : ((spec_l1In.f a0_1 1 4).bind fun t103 => (if t103 = true then (spec_GoodGrammar.j0 k (decide ((l0_2.length : Int) > 16)) a0_0 a0_1 l0_2) else (spec_GoodGrammar.j0 k true a0_0 a0_1 l0_2))) = some r := by rw [if_pos rfl] at H; exact H
      clear H
      have H := H1
      clear H1
      replace H := Option.bind_eq_some_iff.mp H
      obtain ⟨t103, A60, H⟩ := H
      replace H : (if t103 = true then (spec_GoodGrammar.j0 k (decide ((l0_2.length : Int) > 16)) a0_0 a0_1 l0_2) else (spec_GoodGrammar.j0 k true a0_0 a0_1 l0_2)) = some r := H
      have A6 := Aside0.mk A60
      clear A60
      by_cases c7 : t103 = true
      · subst c7
        have H1 : (spec_GoodGrammar.j0 k (decide ((l0_2.length : Int) > 16)) a0_0 a0_1 l0_2) = some r := by rw [if_pos rfl] at H; exact H
        clear H
        have H := H1
        clear H1
        have H' := Aside0.mk H
        clear H
        have hcz8_0 : w3.cell? ⟨gb101, 0, none⟩ = some (.int .i64 a0_0) := (blk_cell BK101.out 0).trans rfl
        have hcz8_1 : w3.cell? ⟨gb101, 1, none⟩ = some (.int .i64 a0_1) := (blk_cell BK101.out 1).trans rfl
        have hcz8_2 : w3.cell? ⟨gb101, 2, none⟩ = some (.slice A0_2 l0_2.length c0_2) := (blk_cell BK101.out 2).trans rfl
        have hfz8_0 := blk_frozen BK101.out 0
        have hfz8_1 := blk_frozen BK101.out 1
        have hfz8_2 := blk_frozen BK101.out 2
        go_wp2_with (first | ((with_reducible refine gate_callee (f := 63) rfl ?_); refine goesL_ (some 11) rfl rfl Try.func63 (by kernel_rfl) rfl #[.int .i64 a0_0, .int .i64 1, .int .i64 6] rfl (by (try simp only [List.map_toArray, List.map_cons, List.map_nil]); first | done | rfl | (simp only [List.length_drop, List.length_take]; rfl)) ?_; (with_reducible refine (spec_l1In.calls a0_0 1 6 true _ A4.out).mono ?_); rintro e w' ⟨rfl, ⟨nd, rfl⟩⟩; refine ⟨_, rfl, ?_⟩) | (go_at_call 63; (with_reducible refine (spec_l1In.calls a0_1 1 4 true _ A6.out).mono ?_); rintro e w' ⟨rfl, ⟨nd, rfl⟩⟩))
        go_meet
        case rel => exact ⟨_, (decide ((l0_2.length : Int) > 16)), (by first | rfl | (simp; done) | (simp [*]; done)), H', ⟨by first | omega | exact Nat.le_refl _⟩, ⟨by (with_reducible repeat (first | refine blk_drewN ?_ _ | refine blk_drew ?_ | refine blk_alloc ?_ _)); exact BK101.out⟩, ⟨by repeat (first | (with_reducible first | exact HB.out | apply below_alloc | apply pw_below_drewN | apply below_drew1 | refine below_set ?_ GE101.out) | exact HB.out)⟩⟩
      · replace c7 := Bool.eq_false_iff.mpr c7
        subst c7
        have H1 : (spec_GoodGrammar.j0 k true a0_0 a0_1 l0_2) = some r := by rw [if_neg (show ¬ (false = true) by decide)] at H; exact H
        clear H
        have H := H1
        clear H1
        have H' := Aside0.mk H
        clear H
        have hcz9_0 : w3.cell? ⟨gb101, 0, none⟩ = some (.int .i64 a0_0) := (blk_cell BK101.out 0).trans rfl
        have hcz9_1 : w3.cell? ⟨gb101, 1, none⟩ = some (.int .i64 a0_1) := (blk_cell BK101.out 1).trans rfl
        have hcz9_2 : w3.cell? ⟨gb101, 2, none⟩ = some (.slice A0_2 l0_2.length c0_2) := (blk_cell BK101.out 2).trans rfl
        have hfz9_0 := blk_frozen BK101.out 0
        have hfz9_1 := blk_frozen BK101.out 1
        have hfz9_2 := blk_frozen BK101.out 2
        go_wp2_with (first | ((with_reducible refine gate_callee (f := 63) rfl ?_); refine goesL_ (some 11) rfl rfl Try.func63 (by kernel_rfl) rfl #[.int .i64 a0_0, .int .i64 1, .int .i64 6] rfl (by (try simp only [List.map_toArray, List.map_cons, List.map_nil]); first | done | rfl | (simp only [List.length_drop, List.length_take]; rfl)) ?_; (with_reducible refine (spec_l1In.calls a0_0 1 6 true _ A4.out).mono ?_); rintro e w' ⟨rfl, ⟨nd, rfl⟩⟩; refine ⟨_, rfl, ?_⟩) | (go_at_call 63; (with_reducible refine (spec_l1In.calls a0_1 1 4 false _ A6.out).mono ?_); rintro e w' ⟨rfl, ⟨nd, rfl⟩⟩))
        go_meet
        case rel => exact ⟨_, (true), (by first | rfl | (simp; done) | (simp [*]; done)), H', ⟨by first | omega | exact Nat.le_refl _⟩, ⟨by (with_reducible repeat (first | refine blk_drewN ?_ _ | refine blk_drew ?_ | refine blk_alloc ?_ _)); exact BK101.out⟩, ⟨by repeat (first | (with_reducible first | exact HB.out | apply below_alloc | apply pw_below_drewN | apply below_drew1 | refine below_set ?_ GE101.out) | exact HB.out)⟩⟩
    · replace c5 := Bool.eq_false_iff.mpr c5
      subst c5
      have H1 : (spec_GoodGrammar.j0 k true a0_0 a0_1 l0_2) = some r := by rw [if_neg (show ¬ (false = true) by decide)] at H; exact H
      clear H
      have H := H1
      clear H1
      have H' := Aside0.mk H
      clear H
      have hcz10_0 : w3.cell? ⟨gb101, 0, none⟩ = some (.int .i64 a0_0) := (blk_cell BK101.out 0).trans rfl
      have hcz10_1 : w3.cell? ⟨gb101, 1, none⟩ = some (.int .i64 a0_1) := (blk_cell BK101.out 1).trans rfl
      have hcz10_2 : w3.cell? ⟨gb101, 2, none⟩ = some (.slice A0_2 l0_2.length c0_2) := (blk_cell BK101.out 2).trans rfl
      have hfz10_0 := blk_frozen BK101.out 0
      have hfz10_1 := blk_frozen BK101.out 1
      have hfz10_2 := blk_frozen BK101.out 2
      go_wp2_with (first | ((with_reducible refine gate_callee (f := 63) rfl ?_); refine goesL_ (some 11) rfl rfl Try.func63 (by kernel_rfl) rfl #[.int .i64 a0_0, .int .i64 1, .int .i64 6] rfl (by (try simp only [List.map_toArray, List.map_cons, List.map_nil]); first | done | rfl | (simp only [List.length_drop, List.length_take]; rfl)) ?_; (with_reducible refine (spec_l1In.calls a0_0 1 6 false _ A4.out).mono ?_); rintro e w' ⟨rfl, ⟨nd, rfl⟩⟩; refine ⟨_, rfl, ?_⟩))
      go_meet
      case rel => exact ⟨_, (true), (by first | rfl | (simp; done) | (simp [*]; done)), H', ⟨by first | omega | exact Nat.le_refl _⟩, ⟨by (with_reducible repeat (first | refine blk_drewN ?_ _ | refine blk_drew ?_ | refine blk_alloc ?_ _)); exact BK101.out⟩, ⟨by repeat (first | (with_reducible first | exact HB.out | apply below_alloc | apply pw_below_drewN | apply below_drew1 | refine below_set ?_ GE101.out) | exact HB.out)⟩⟩
  case rest =>
    clear HC2
    try clear p2
    try clear c5
    try clear c6
    try clear c7
    try clear hcz10_0
    try clear hcz10_1
    try clear hcz10_2
    try clear hcz8_0
    try clear hcz8_1
    try clear hcz8_2
    try clear hcz9_0
    try clear hcz9_1
    try clear hcz9_2
    try clear hfz10_0
    try clear hfz10_1
    try clear hfz10_2
    try clear hfz8_0
    try clear hfz8_1
    try clear hfz8_2
    try clear hfz9_0
    try clear hfz9_1
    try clear hfz9_2
    obtain ⟨kq, x24_1, rfl, HA, HJ1, BK101, HB⟩ := hcut
    cases kq with
    | zero => exact absurd HA.out (by simp [spec_GoodGrammar.j0])
    | succ kj1 =>
      have H := HA.out
      clear HA
      simp only [spec_GoodGrammar.j0] at H
      by_cases c11 : x24_1 = true
      · subst c11
        have H1 : (some false) = some r := by rw [if_pos rfl] at H; exact H
        clear H
        have H := H1
        clear H1
        obtain rfl := Option.some.inj H
        go_wp2
        go_ret
        exact ⟨by first | rfl | (simp [errW_none, errW_some] <;> rfl) | (simp [*, errW_none, errW_some] <;> rfl), by repeat (first | (with_reducible first | exact HB.out | apply below_alloc | apply pw_below_drewN | apply below_drew1 | refine below_set ?_ GE101.out) | exact HB.out)⟩
      · replace c11 := Bool.eq_false_iff.mpr c11
        subst c11
        have H1 : (spec_GoodGrammar.l0 kj1 l0_2 (l0_2.length : Int) 0 a0_0 a0_1 l0_2) = some r := by rw [if_neg (show ¬ (false = true) by decide)] at H; exact H
        clear H
        have H := H1
        clear H1
        have H' := Aside0.mk H
        clear H
        have hcz12_0 : wc.cell? ⟨gb101, 0, none⟩ = some (.int .i64 a0_0) := (blk_cell BK101.out 0).trans rfl
        have hcz12_1 : wc.cell? ⟨gb101, 1, none⟩ = some (.int .i64 a0_1) := (blk_cell BK101.out 1).trans rfl
        have hcz12_2 : wc.cell? ⟨gb101, 2, none⟩ = some (.slice A0_2 l0_2.length c0_2) := (blk_cell BK101.out 2).trans rfl
        have hfz12_0 := blk_frozen BK101.out 0
        have hfz12_1 := blk_frozen BK101.out 1
        have hfz12_2 := blk_frozen BK101.out 2
        go_wp2
        go_loopg [28] kj1 (fun kq v28 w' => ∃ (x28_2 : Int), v28 = .int .i64 x28_2 ∧ Aside0 (spec_GoodGrammar.l0 kq l0_2 (l0_2.length : Int) x28_2 a0_0 a0_1 l0_2 = some r) ∧ Aside0 (kq ≤ kj1) ∧ Aside0 (w'.heap[gb101]? = some (.cells #[.int .i64 a0_0, .int .i64 a0_1, (.slice A0_2 l0_2.length c0_2)] 28 (0, 0))) ∧ Aside0 (Below w.heap.size w w'))
        case atStart => exact ⟨(0), (by first | rfl | (simp; done) | (simp [*]; done)), H', ⟨Nat.le_refl _⟩, ⟨by (with_reducible repeat (first | refine blk_drewN ?_ _ | refine blk_drew ?_ | refine blk_alloc ?_ _)); exact BK101.out⟩, ⟨by repeat (first | (with_reducible first | exact HB.out | apply below_alloc | apply pw_below_drewN | apply below_drew1 | refine below_set ?_ GE101.out) | exact HB.out)⟩⟩
        case round =>
          clear H'
          try clear c1
          try clear p2
          try clear c5
          try clear c6
          try clear c7
          try clear c11
          try clear hcz10_0
          try clear hcz10_1
          try clear hcz10_2
          try clear hcz12_0
          try clear hcz12_1
          try clear hcz12_2
          try clear hcz8_0
          try clear hcz8_1
          try clear hcz8_2
          try clear hcz9_0
          try clear hcz9_1
          try clear hcz9_2
          try clear hfz10_0
          try clear hfz10_1
          try clear hfz10_2
          try clear hfz12_0
          try clear hfz12_1
          try clear hfz12_2
          try clear hfz8_0
          try clear hfz8_1
          try clear hfz8_2
          try clear hfz9_0
          try clear hfz9_1
          try clear hfz9_2
          try clear p2
          obtain ⟨x28_2, rfl, HA, HK2, BK101, HB⟩ := hrel
          cases gk with
          | zero => exact absurd HA.out (by simp [spec_GoodGrammar.l0])
          | succ k2 =>
            have H := HA.out
            clear HA
            simp only [spec_GoodGrammar.l0] at H
            by_cases c13 : x28_2 < (l0_2.length : Int)
            · rw [if_pos c13] at H
              have c13b0 : decide (x28_2 < (l0_2.length : Int)) = true := decide_eq_true c13
              clear c13
              by_cases c14 : 0 ≤ x28_2
              · rw [if_pos c14] at H
                have c14b0 : decide (0 ≤ x28_2) = true := decide_eq_true c14
                clear c14
                by_cases c15 : x28_2 < (l0_2.length : Int)
                · rw [if_pos c15] at H
                  have c15b0 : decide (x28_2 < (l0_2.length : Int)) = true := decide_eq_true c15
                  clear c15
                  have HC16 := Aside0.mk H
                  clear H
                  have p104 : 0 ≤ (x28_2 : Int) := of_decide_eq_true (by first | (with_reducible assumption) | assumption)
                  have q104 : x28_2 < (l0_2.length : Int) := of_decide_eq_true (by first | (with_reducible assumption) | assumption)
                  obtain ⟨ad104, A104_1, c104_1, e104, hx104_0, hx104_1, hl104_1, hi104_1⟩ := at_T87 HR0_2.out x28_2 p104 q104
                  cases e104
                  replace hx104_0 := (HB.out.cell (World.block_lt_of_cell? w _ hx104_0)).trans hx104_0
                  replace hx104_1 := (HB.out.cell (World.block_lt_of_cell? w _ hx104_1)).trans hx104_1
                  have HR104_1 := Aside0.mk hi104_1
                  have HC104_1 := Aside0.mk hl104_1
                  clear hi104_1 hl104_1
                  replace p104 := eq_true p104
                  replace q104 := eq_true q104
                  go_upto_region 6 with (first | ((with_reducible refine gate_dst (N := 4) rfl ?_); (try (refine gate_guard (by rfl) ?_; dsimp only)); refine box_event ?hg (N := 4) ?hd (cs := #[.int .i64 0, .slice none 0 0]) (t := 87) ?hr ?_; (case hd => rfl); (case hg => rfl); (case hr => first | (go_simp; done) | (go_simp; rfl)); intro gb105 hg w17 hbox hb; have n0_ := Aside0.mk (blk_below (g := gb101) (o := .cells #[.int .i64 a0_0, .int .i64 a0_1, .slice (some ad104) l0_2.length c0_2] 28 (0, 0)) (by (with_reducible repeat (first | refine blk_drewN ?_ _ | refine blk_drew ?_ | refine blk_alloc ?_ _)); exact BK101.out) hb); have n1_ := Aside0.mk (below_step (by repeat (first | (with_reducible first | exact HB.out | apply below_alloc | apply pw_below_drewN | apply below_drew1 | refine below_set ?_ GE101.out) | exact HB.out)) hb); have n2_ := Aside0.mk (hbox); have n3_ := Aside0.mk ((by rw [hg]; exact (below_size (by repeat (first | (with_reducible first | exact HB.out | apply below_alloc | apply pw_below_drewN | apply below_drew1 | refine below_set ?_ GE101.out) | exact HB.out))) : w.heap.size ≤ gb105)); have n4_ := Aside0.mk ((by rw [hg]; exact (below_size (by repeat (first | (with_reducible first | exact HB.out | apply below_alloc | apply pw_below_drewN | apply below_drew1 | refine below_set ?_ GE101.out) | exact HB.out))) : w.heap.size ≤ gb105)); have n5_ := Aside0.mk ((by rw [hg]; exact Nat.ne_of_lt (blk_lt (g := gb101) (o := .cells #[.int .i64 a0_0, .int .i64 a0_1, .slice (some ad104) l0_2.length c0_2] 28 (0, 0)) (by (with_reducible repeat (first | refine blk_drewN ?_ _ | refine blk_drew ?_ | refine blk_alloc ?_ _)); exact BK101.out)) : gb101 ≠ gb105)); have n6_ := Aside0.mk ((by rw [hg]; exact Nat.ne_of_gt (blk_lt (g := gb101) (o := .cells #[.int .i64 a0_0, .int .i64 a0_1, .slice (some ad104) l0_2.length c0_2] 28 (0, 0)) (by (with_reducible repeat (first | refine blk_drewN ?_ _ | refine blk_drew ?_ | refine blk_alloc ?_ _)); exact BK101.out)) : gb105 ≠ gb101)); clear BK101; clear HB; have BK101 := n0_; have HB := n1_; have BK105 := n2_; have GW105 := n3_; have GE105 := n4_; have NB101_105 := n5_; have NB105_101 := n6_; clear n0_ n1_ n2_ n3_ n4_ n5_ n6_; clear hb hbox hg; have hnb18 := NB105_101.out; have hnc18 := NB101_105.out; have hcz19_0 : w17.cell? ⟨gb105, 0, none⟩ = some (.int .i64 0) := (blk_cell BK105.out 0).trans rfl; have hcz19_1 : w17.cell? ⟨gb105, 1, none⟩ = some (.slice none 0 0) := (blk_cell BK105.out 1).trans rfl; have hfz19_0 := blk_frozen BK105.out 0; have hfz19_1 := blk_frozen BK105.out 1))
                  (try simp only [Act.put, List.setIfInBounds_toArray, List.set_cons_zero, List.set_cons_succ])
                  go_cut [45] (fun v45 wc => ∃ (kq : Nat) (x45_15 : Bool), v45 = .bool x45_15 ∧ Aside0 (spec_GoodGrammar.j2 kq x28_2 l0_2 (l0_2.length : Int) x28_2 x45_15 a0_0 a0_1 l0_2 ((rd_T87 l0_2 x28_2).f0) ((rd_T87 l0_2 x28_2).f1) = some r) ∧ Aside0 (kq ≤ k2) ∧ Aside0 (wc.heap[gb101]? = some (.cells #[.int .i64 a0_0, .int .i64 a0_1, (.slice (some ad104) l0_2.length c0_2)] 28 (0, 0))) ∧ Aside0 (wc.heap[gb105]? = some (.cells #[.int .i64 ((rd_T87 l0_2 x28_2).f0), (.slice A104_1 ((rd_T87 l0_2 x28_2).f1).length c104_1)] 87 (0, 0))) ∧ Aside0 (Below w.heap.size w wc))
                  case first =>
                    have H := HC16.out
                    clear HC16
                    replace H := Option.bind_eq_some_iff.mp H
                    obtain ⟨t106, A200, H⟩ := H
                    replace H : (if t106 = true then (spec_GoodGrammar.j2 k2 x28_2 l0_2 (l0_2.length : Int) x28_2 (decide ((((rd_T87 l0_2 x28_2).f1).length : Int) > 4)) a0_0 a0_1 l0_2 ((rd_T87 l0_2 x28_2).f0) ((rd_T87 l0_2 x28_2).f1)) else (spec_GoodGrammar.j2 k2 x28_2 l0_2 (l0_2.length : Int) x28_2 true a0_0 a0_1 l0_2 ((rd_T87 l0_2 x28_2).f0) ((rd_T87 l0_2 x28_2).f1))) = some r := H
                    have A20 := Aside0.mk A200
                    clear A200
                    by_cases c21 : t106 = true
                    · subst c21
                      have H1 : (spec_GoodGrammar.j2 k2 x28_2 l0_2 (l0_2.length : Int) x28_2 (decide ((((rd_T87 l0_2 x28_2).f1).length : Int) > 4)) a0_0 a0_1 l0_2 ((rd_T87 l0_2 x28_2).f0) ((rd_T87 l0_2 x28_2).f1)) = some r := by rw [if_pos rfl] at H; exact H
                      clear H
                      have H := H1
                      clear H1
                      have H' := Aside0.mk H
                      clear H
                      have hnb22 := NB105_101.out
                      have hnc22 := NB101_105.out
                      have hcz23_0 : w17.cell? ⟨gb105, 0, none⟩ = some (.int .i64 0) := (blk_cell BK105.out 0).trans rfl
                      have hcz23_1 : w17.cell? ⟨gb105, 1, none⟩ = some (.slice none 0 0) := (blk_cell BK105.out 1).trans rfl
                      have hfz23_0 := blk_frozen BK105.out 0
                      have hfz23_1 := blk_frozen BK105.out 1
                      have hcz24_0 : w17.cell? ⟨gb101, 0, none⟩ = some (.int .i64 a0_0) := (blk_cell BK101.out 0).trans rfl
                      have hcz24_1 : w17.cell? ⟨gb101, 1, none⟩ = some (.int .i64 a0_1) := (blk_cell BK101.out 1).trans rfl
                      have hcz24_2 : w17.cell? ⟨gb101, 2, none⟩ = some (.slice (some ad104) l0_2.length c0_2) := (blk_cell BK101.out 2).trans rfl
                      have hfz24_0 := blk_frozen BK101.out 0
                      have hfz24_1 := blk_frozen BK101.out 1
                      have hfz24_2 := blk_frozen BK101.out 2
                      go_wp2_with (first | ((with_reducible refine gate_callee (f := 63) rfl ?_); refine goesL_ (some 38) rfl rfl Try.func63 (by kernel_rfl) rfl #[.int .i64 ((rd_T87 l0_2 x28_2).f0), .int .i64 0, .int .i64 (wrap64 (a0_0 - 1))] rfl (by (try simp only [List.map_toArray, List.map_cons, List.map_nil]); first | done | rfl | (simp only [List.length_drop, List.length_take]; rfl)) ?_; (with_reducible refine (spec_l1In.calls ((rd_T87 l0_2 x28_2).f0) 0 (wrap64 (a0_0 - 1)) true _ A20.out).mono ?_); rintro e w' ⟨rfl, ⟨nd, rfl⟩⟩; refine ⟨_, rfl, ?_⟩))
                      go_meet
                      case rel => exact ⟨_, (decide ((((rd_T87 l0_2 x28_2).f1).length : Int) > 4)), (by first | rfl | (simp; done) | (simp [*]; done)), H', ⟨by have := HJ1.out; have := HK2.out; first | omega | exact Nat.le_refl _⟩, ⟨by (with_reducible repeat (first | refine blk_drewN ?_ _ | refine blk_drew ?_ | refine blk_alloc ?_ _)); refine blk_far ?_ NB101_105.out _; (with_reducible repeat (first | refine blk_drewN ?_ _ | refine blk_drew ?_ | refine blk_alloc ?_ _)); refine blk_far ?_ NB101_105.out _; (with_reducible repeat (first | refine blk_drewN ?_ _ | refine blk_drew ?_ | refine blk_alloc ?_ _)); exact BK101.out⟩, ⟨by (with_reducible repeat (first | refine blk_drewN ?_ _ | refine blk_drew ?_ | refine blk_alloc ?_ _)); refine blk_put (cs := #[.int .i64 ((rd_T87 l0_2 x28_2).f0), .slice none 0 0]) ?_ 1 _ rfl; (with_reducible repeat (first | refine blk_drewN ?_ _ | refine blk_drew ?_ | refine blk_alloc ?_ _)); refine blk_put (cs := #[.int .i64 0, .slice none 0 0]) ?_ 0 _ rfl; (with_reducible repeat (first | refine blk_drewN ?_ _ | refine blk_drew ?_ | refine blk_alloc ?_ _)); exact BK105.out⟩, ⟨by repeat (first | (with_reducible first | exact HB.out | apply below_alloc | apply pw_below_drewN | apply below_drew1 | refine below_set ?_ GE101.out | refine below_set ?_ GE105.out) | exact HB.out)⟩⟩
                    · replace c21 := Bool.eq_false_iff.mpr c21
                      subst c21
                      have H1 : (spec_GoodGrammar.j2 k2 x28_2 l0_2 (l0_2.length : Int) x28_2 true a0_0 a0_1 l0_2 ((rd_T87 l0_2 x28_2).f0) ((rd_T87 l0_2 x28_2).f1)) = some r := by rw [if_neg (show ¬ (false = true) by decide)] at H; exact H
                      clear H
                      have H := H1
                      clear H1
                      have H' := Aside0.mk H
                      clear H
                      have hnb25 := NB105_101.out
                      have hnc25 := NB101_105.out
                      have hcz26_0 : w17.cell? ⟨gb105, 0, none⟩ = some (.int .i64 0) := (blk_cell BK105.out 0).trans rfl
                      have hcz26_1 : w17.cell? ⟨gb105, 1, none⟩ = some (.slice none 0 0) := (blk_cell BK105.out 1).trans rfl
                      have hfz26_0 := blk_frozen BK105.out 0
                      have hfz26_1 := blk_frozen BK105.out 1
                      have hcz27_0 : w17.cell? ⟨gb101, 0, none⟩ = some (.int .i64 a0_0) := (blk_cell BK101.out 0).trans rfl
                      have hcz27_1 : w17.cell? ⟨gb101, 1, none⟩ = some (.int .i64 a0_1) := (blk_cell BK101.out 1).trans rfl
                      have hcz27_2 : w17.cell? ⟨gb101, 2, none⟩ = some (.slice (some ad104) l0_2.length c0_2) := (blk_cell BK101.out 2).trans rfl
                      have hfz27_0 := blk_frozen BK101.out 0
                      have hfz27_1 := blk_frozen BK101.out 1
                      have hfz27_2 := blk_frozen BK101.out 2
                      go_wp2_with (first | ((with_reducible refine gate_callee (f := 63) rfl ?_); refine goesL_ (some 38) rfl rfl Try.func63 (by kernel_rfl) rfl #[.int .i64 ((rd_T87 l0_2 x28_2).f0), .int .i64 0, .int .i64 (wrap64 (a0_0 - 1))] rfl (by (try simp only [List.map_toArray, List.map_cons, List.map_nil]); first | done | rfl | (simp only [List.length_drop, List.length_take]; rfl)) ?_; (with_reducible refine (spec_l1In.calls ((rd_T87 l0_2 x28_2).f0) 0 (wrap64 (a0_0 - 1)) false _ A20.out).mono ?_); rintro e w' ⟨rfl, ⟨nd, rfl⟩⟩; refine ⟨_, rfl, ?_⟩))
                      go_meet
                      case rel => exact ⟨_, (true), (by first | rfl | (simp; done) | (simp [*]; done)), H', ⟨by have := HJ1.out; have := HK2.out; first | omega | exact Nat.le_refl _⟩, ⟨by (with_reducible repeat (first | refine blk_drewN ?_ _ | refine blk_drew ?_ | refine blk_alloc ?_ _)); refine blk_far ?_ NB101_105.out _; (with_reducible repeat (first | refine blk_drewN ?_ _ | refine blk_drew ?_ | refine blk_alloc ?_ _)); refine blk_far ?_ NB101_105.out _; (with_reducible repeat (first | refine blk_drewN ?_ _ | refine blk_drew ?_ | refine blk_alloc ?_ _)); exact BK101.out⟩, ⟨by (with_reducible repeat (first | refine blk_drewN ?_ _ | refine blk_drew ?_ | refine blk_alloc ?_ _)); refine blk_put (cs := #[.int .i64 ((rd_T87 l0_2 x28_2).f0), .slice none 0 0]) ?_ 1 _ rfl; (with_reducible repeat (first | refine blk_drewN ?_ _ | refine blk_drew ?_ | refine blk_alloc ?_ _)); refine blk_put (cs := #[.int .i64 0, .slice none 0 0]) ?_ 0 _ rfl; (with_reducible repeat (first | refine blk_drewN ?_ _ | refine blk_drew ?_ | refine blk_alloc ?_ _)); exact BK105.out⟩, ⟨by repeat (first | (with_reducible first | exact HB.out | apply below_alloc | apply pw_below_drewN | apply below_drew1 | refine below_set ?_ GE101.out | refine below_set ?_ GE105.out) | exact HB.out)⟩⟩
                  case rest =>
                    clear HC16
                    try clear c1
                    try clear p1
                    try clear q1
                    try clear hx1
                    try clear c2
                    try clear p2
                    try clear c5
                    try clear c6
                    try clear p6
                    try clear c7
                    try clear c10
                    try clear p10
                    try clear q10
                    try clear hx10
                    try clear c11
                    try clear c13
                    try clear c13b0
                    try clear c14
                    try clear c14b0
                    try clear c15
                    try clear c15b0
                    try clear c18
                    try clear c21
                    try clear c22
                    try clear c25
                    try clear hcz10_0
                    try clear hcz10_1
                    try clear hcz10_2
                    try clear hcz12_0
                    try clear hcz12_1
                    try clear hcz12_2
                    try clear hcz19_0
                    try clear hcz19_1
                    try clear hcz23_0
                    try clear hcz23_1
                    try clear hcz24_0
                    try clear hcz24_1
                    try clear hcz24_2
                    try clear hcz26_0
                    try clear hcz26_1
                    try clear hcz27_0
                    try clear hcz27_1
                    try clear hcz27_2
                    try clear hcz8_0
                    try clear hcz8_1
                    try clear hcz8_2
                    try clear hcz9_0
                    try clear hcz9_1
                    try clear hcz9_2
                    try clear hfz10_0
                    try clear hfz10_1
                    try clear hfz10_2
                    try clear hfz12_0
                    try clear hfz12_1
                    try clear hfz12_2
                    try clear hfz19_0
                    try clear hfz19_1
                    try clear hfz23_0
                    try clear hfz23_1
                    try clear hfz24_0
                    try clear hfz24_1
                    try clear hfz24_2
                    try clear hfz26_0
                    try clear hfz26_1
                    try clear hfz27_0
                    try clear hfz27_1
                    try clear hfz27_2
                    try clear hfz8_0
                    try clear hfz8_1
                    try clear hfz8_2
                    try clear hfz9_0
                    try clear hfz9_1
                    try clear hfz9_2
                    try clear hx104_0
                    try clear hx104_1
                    try clear p104
                    try clear p2
                    try clear q104
                    obtain ⟨kq, x45_15, rfl, HA, HJ15, BK101, BK105, HB⟩ := hcut
                    cases kq with
                    | zero => exact absurd HA.out (by simp [spec_GoodGrammar.j2])
                    | succ kj15 =>
                      have H := HA.out
                      clear HA
                      simp only [spec_GoodGrammar.j2] at H
                      by_cases c28 : x45_15 = true
                      · subst c28
                        have H1 : (some false) = some r := by rw [if_pos rfl] at H; exact H
                        clear H
                        have H := H1
                        clear H1
                        obtain rfl := Option.some.inj H
                        go_wp2
                        go_ret
                        exact ⟨by first | rfl | (simp [errW_none, errW_some] <;> rfl) | (simp [*, errW_none, errW_some] <;> rfl), by repeat (first | (with_reducible first | exact HB.out | apply below_alloc | apply pw_below_drewN | apply below_drew1 | refine below_set ?_ GE101.out | refine below_set ?_ GE105.out) | exact HB.out)⟩
                      · replace c28 := Bool.eq_false_iff.mpr c28
                        subst c28
                        have H1 : (spec_GoodGrammar.l1 kj15 x28_2 l0_2 (l0_2.length : Int) x28_2 ((rd_T87 l0_2 x28_2).f1) (((rd_T87 l0_2 x28_2).f1).length : Int) 0 a0_0 a0_1 l0_2 ((rd_T87 l0_2 x28_2).f0) ((rd_T87 l0_2 x28_2).f1)) = some r := by rw [if_neg (show ¬ (false = true) by decide)] at H; exact H
                        clear H
                        have H := H1
                        clear H1
                        have H' := Aside0.mk H
                        clear H
                        have hnb29 := NB105_101.out
                        have hnc29 := NB101_105.out
                        have hcz30_0 : wc.cell? ⟨gb105, 0, none⟩ = some (.int .i64 ((rd_T87 l0_2 x28_2).f0)) := (blk_cell BK105.out 0).trans rfl
                        have hcz30_1 : wc.cell? ⟨gb105, 1, none⟩ = some (.slice A104_1 ((rd_T87 l0_2 x28_2).f1).length c104_1) := (blk_cell BK105.out 1).trans rfl
                        have hfz30_0 := blk_frozen BK105.out 0
                        have hfz30_1 := blk_frozen BK105.out 1
                        go_wp2
                        go_loopg [49] kj15 (fun kq v49 w' => ∃ (x49_4 : Int), v49 = .int .i64 x49_4 ∧ Aside0 (spec_GoodGrammar.l1 kq x28_2 l0_2 (l0_2.length : Int) x28_2 ((rd_T87 l0_2 x28_2).f1) (((rd_T87 l0_2 x28_2).f1).length : Int) x49_4 a0_0 a0_1 l0_2 ((rd_T87 l0_2 x28_2).f0) ((rd_T87 l0_2 x28_2).f1) = some r) ∧ Aside0 (kq ≤ kj15) ∧ Aside0 (w'.heap[gb101]? = some (.cells #[.int .i64 a0_0, .int .i64 a0_1, (.slice (some ad104) l0_2.length c0_2)] 28 (0, 0))) ∧ Aside0 (w'.heap[gb105]? = some (.cells #[.int .i64 ((rd_T87 l0_2 x28_2).f0), (.slice A104_1 ((rd_T87 l0_2 x28_2).f1).length c104_1)] 87 (0, 0))) ∧ Aside0 (Below w.heap.size w w'))
                        case atStart => exact ⟨(0), (by first | rfl | (simp; done) | (simp [*]; done)), H', ⟨Nat.le_refl _⟩, ⟨by (with_reducible repeat (first | refine blk_drewN ?_ _ | refine blk_drew ?_ | refine blk_alloc ?_ _)); exact BK101.out⟩, ⟨by (with_reducible repeat (first | refine blk_drewN ?_ _ | refine blk_drew ?_ | refine blk_alloc ?_ _)); exact BK105.out⟩, ⟨by repeat (first | (with_reducible first | exact HB.out | apply below_alloc | apply pw_below_drewN | apply below_drew1 | refine below_set ?_ GE101.out | refine below_set ?_ GE105.out) | exact HB.out)⟩⟩
                        case round =>
                          clear H'
                          try clear c1
                          try clear p1
                          try clear q1
                          try clear hx1
                          try clear c2
                          try clear p2
                          try clear c5
                          try clear c6
                          try clear p6
                          try clear c7
                          try clear c10
                          try clear p10
                          try clear q10
                          try clear hx10
                          try clear c11
                          try clear c13
                          try clear c13b0
                          try clear c14
                          try clear c14b0
                          try clear c15
                          try clear c15b0
                          try clear c18
                          try clear c21
                          try clear c22
                          try clear c25
                          try clear c28
                          try clear c29
                          try clear hcz10_0
                          try clear hcz10_1
                          try clear hcz10_2
                          try clear hcz12_0
                          try clear hcz12_1
                          try clear hcz12_2
                          try clear hcz19_0
                          try clear hcz19_1
                          try clear hcz23_0
                          try clear hcz23_1
                          try clear hcz24_0
                          try clear hcz24_1
                          try clear hcz24_2
                          try clear hcz26_0
                          try clear hcz26_1
                          try clear hcz27_0
                          try clear hcz27_1
                          try clear hcz27_2
                          try clear hcz30_0
                          try clear hcz30_1
                          try clear hcz8_0
                          try clear hcz8_1
                          try clear hcz8_2
                          try clear hcz9_0
                          try clear hcz9_1
                          try clear hcz9_2
                          try clear hfz10_0
                          try clear hfz10_1
                          try clear hfz10_2
                          try clear hfz12_0
                          try clear hfz12_1
                          try clear hfz12_2
                          try clear hfz19_0
                          try clear hfz19_1
                          try clear hfz23_0
                          try clear hfz23_1
                          try clear hfz24_0
                          try clear hfz24_1
                          try clear hfz24_2
                          try clear hfz26_0
                          try clear hfz26_1
                          try clear hfz27_0
                          try clear hfz27_1
                          try clear hfz27_2
                          try clear hfz30_0
                          try clear hfz30_1
                          try clear hfz8_0
                          try clear hfz8_1
                          try clear hfz8_2
                          try clear hfz9_0
                          try clear hfz9_1
                          try clear hfz9_2
                          try clear hx104_0
                          try clear hx104_1
                          try clear p1
                          try clear p10
                          try clear p104
                          try clear p2
                          try clear p6
                          try clear q1
                          try clear q10
                          try clear q104
                          obtain ⟨x49_4, rfl, HA, HK4, BK101, BK105, HB⟩ := hrel
                          cases gk with
                          | zero => exact absurd HA.out (by simp [spec_GoodGrammar.l1])
                          | succ k4 =>
                            have H := HA.out
                            clear HA
                            simp only [spec_GoodGrammar.l1] at H
                            by_cases c31 : x49_4 < (((rd_T87 l0_2 x28_2).f1).length : Int)
                            · rw [if_pos c31] at H
                              have c31b0 : decide (x49_4 < (((rd_T87 l0_2 x28_2).f1).length : Int)) = true := decide_eq_true c31
                              clear c31
                              by_cases c32 : 0 ≤ x49_4
                              · rw [if_pos c32] at H
                                have c32b0 : decide (0 ≤ x49_4) = true := decide_eq_true c32
                                clear c32
                                by_cases c33 : x49_4 < (((rd_T87 l0_2 x28_2).f1).length : Int)
                                · rw [if_pos c33] at H
                                  have c33b0 : decide (x49_4 < (((rd_T87 l0_2 x28_2).f1).length : Int)) = true := decide_eq_true c33
                                  clear c33
                                  replace H := Option.bind_eq_some_iff.mp H
                                  obtain ⟨t108, A340, H⟩ := H
                                  replace H : (if t108 = true then (spec_GoodGrammar.l1 k4 x28_2 l0_2 (l0_2.length : Int) x28_2 ((rd_T87 l0_2 x28_2).f1) (((rd_T87 l0_2 x28_2).f1).length : Int) (wrap64 (x49_4 + 1)) a0_0 a0_1 l0_2 ((rd_T87 l0_2 x28_2).f0) ((rd_T87 l0_2 x28_2).f1)) else (some false)) = some r := H
                                  have A34 := Aside0.mk A340
                                  clear A340
                                  by_cases c35 : t108 = true
                                  · subst c35
                                    have H1 : (spec_GoodGrammar.l1 k4 x28_2 l0_2 (l0_2.length : Int) x28_2 ((rd_T87 l0_2 x28_2).f1) (((rd_T87 l0_2 x28_2).f1).length : Int) (wrap64 (x49_4 + 1)) a0_0 a0_1 l0_2 ((rd_T87 l0_2 x28_2).f0) ((rd_T87 l0_2 x28_2).f1)) = some r := by rw [if_pos rfl] at H; exact H
                                    clear H
                                    have H := H1
                                    clear H1
                                    have H' := Aside0.mk H
                                    clear H
                                    have p107 : 0 ≤ (x49_4 : Int) := of_decide_eq_true (by first | (with_reducible assumption) | assumption)
                                    have q107 : x49_4 < (((rd_T87 l0_2 x28_2).f1).length : Int) := of_decide_eq_true (by first | (with_reducible assumption) | assumption)
                                    obtain ⟨ad107, e107, hx107_0⟩ := Kd.at_int HR104_1.out x49_4 p107 q107
                                    cases e107
                                    replace hx107_0 := (HB.out.cell (World.block_lt_of_cell? w _ hx107_0)).trans hx107_0
                                    replace p107 := eq_true p107
                                    replace q107 := eq_true q107
                                    have hnb36 := NB101_105.out
                                    have hnc36 := NB105_101.out
                                    have hcz37_0 : wr.cell? ⟨gb101, 0, none⟩ = some (.int .i64 a0_0) := (blk_cell BK101.out 0).trans rfl
                                    have hcz37_1 : wr.cell? ⟨gb101, 1, none⟩ = some (.int .i64 a0_1) := (blk_cell BK101.out 1).trans rfl
                                    have hcz37_2 : wr.cell? ⟨gb101, 2, none⟩ = some (.slice (some ad104) l0_2.length c0_2) := (blk_cell BK101.out 2).trans rfl
                                    have hfz37_0 := blk_frozen BK101.out 0
                                    have hfz37_1 := blk_frozen BK101.out 1
                                    have hfz37_2 := blk_frozen BK101.out 2
                                    go_wp2_with (first | ((with_reducible refine gate_callee (f := 89) rfl ?_); refine goesL_ (some 55) rfl rfl Try.func89 (by kernel_rfl) rfl #[.agg #[.int .i64 a0_0, .int .i64 a0_1, .slice (some ad104) l0_2.length c0_2], .int .i64 (rd ((rd_T87 l0_2 x28_2).f1) x49_4)] rfl (by (try simp only [List.map_toArray, List.map_cons, List.map_nil]); first | done | rfl | (simp only [List.length_drop, List.length_take]; rfl)) ?_; (with_reducible refine (spec_l1Symbol.calls a0_0 a0_1 _ _ l0_2 (rd ((rd_T87 l0_2 x28_2).f1) x49_4) true _ ?side1 ?side2 A34.out).mono ?_); (case side1 => repeat (first | exact (Kd.C_below HR0_2.out HB.out) | (with_reducible refine Kd.C_alloc ?_ _) | (with_reducible refine Kd.C_drewN ?_ _) | (with_reducible refine Kd.C_drew ?_))); (case side2 => exact HC0_2.out); rintro e w38 ⟨rfl, hb⟩; refine ⟨_, rfl, ?_⟩; have n0_ := Aside0.mk (blk_below (g := gb101) (o := .cells #[.int .i64 a0_0, .int .i64 a0_1, .slice (some ad104) l0_2.length c0_2] 28 (0, 0)) (by (with_reducible repeat (first | refine blk_drewN ?_ _ | refine blk_drew ?_ | refine blk_alloc ?_ _)); exact BK101.out) hb); have n1_ := Aside0.mk (blk_below (g := gb105) (o := .cells #[.int .i64 ((rd_T87 l0_2 x28_2).f0), .slice (some ad107) ((rd_T87 l0_2 x28_2).f1).length c104_1] 87 (0, 0)) (by (with_reducible repeat (first | refine blk_drewN ?_ _ | refine blk_drew ?_ | refine blk_alloc ?_ _)); exact BK105.out) hb); have n2_ := Aside0.mk (below_step (by repeat (first | (with_reducible first | exact HB.out | apply below_alloc | apply pw_below_drewN | apply below_drew1 | refine below_set ?_ GE101.out | refine below_set ?_ GE105.out) | exact HB.out)) hb); clear BK101; clear BK105; clear HB; have BK101 := n0_; have BK105 := n1_; have HB := n2_; clear n0_ n1_ n2_; (try clear hb); (try clear hb2); (try clear hk); (try clear hi)))
                                    go_roundg k4
                                    case measure => have := HJ1.out; have := HK2.out; have := HJ15.out; have := HK4.out; omega
                                    case rel => exact ⟨(wrap64 (x49_4 + 1)), (by first | rfl | (simp; done) | (simp [*]; done)), H', ⟨by have := HJ1.out; have := HK2.out; have := HJ15.out; have := HK4.out; omega⟩, ⟨by (with_reducible repeat (first | refine blk_drewN ?_ _ | refine blk_drew ?_ | refine blk_alloc ?_ _)); exact BK101.out⟩, ⟨by (with_reducible repeat (first | refine blk_drewN ?_ _ | refine blk_drew ?_ | refine blk_alloc ?_ _)); exact BK105.out⟩, ⟨by repeat (first | (with_reducible first | exact HB.out | apply below_alloc | apply pw_below_drewN | apply below_drew1 | refine below_set ?_ GE101.out | refine below_set ?_ GE105.out) | exact HB.out)⟩⟩
                                  · replace c35 := Bool.eq_false_iff.mpr c35
                                    subst c35
                                    have H1 : (some false) = some r := by rw [if_neg (show ¬ (false = true) by decide)] at H; exact H
                                    clear H
                                    have H := H1
                                    clear H1
                                    obtain rfl := Option.some.inj H
                                    have p107 : 0 ≤ (x49_4 : Int) := of_decide_eq_true (by first | (with_reducible assumption) | assumption)
                                    have q107 : x49_4 < (((rd_T87 l0_2 x28_2).f1).length : Int) := of_decide_eq_true (by first | (with_reducible assumption) | assumption)
                                    obtain ⟨ad107, e107, hx107_0⟩ := Kd.at_int HR104_1.out x49_4 p107 q107
                                    cases e107
                                    replace hx107_0 := (HB.out.cell (World.block_lt_of_cell? w _ hx107_0)).trans hx107_0
                                    replace p107 := eq_true p107
                                    replace q107 := eq_true q107
                                    have hnb39 := NB101_105.out
                                    have hnc39 := NB105_101.out
                                    have hcz40_0 : wr.cell? ⟨gb101, 0, none⟩ = some (.int .i64 a0_0) := (blk_cell BK101.out 0).trans rfl
                                    have hcz40_1 : wr.cell? ⟨gb101, 1, none⟩ = some (.int .i64 a0_1) := (blk_cell BK101.out 1).trans rfl
                                    have hcz40_2 : wr.cell? ⟨gb101, 2, none⟩ = some (.slice (some ad104) l0_2.length c0_2) := (blk_cell BK101.out 2).trans rfl
                                    have hfz40_0 := blk_frozen BK101.out 0
                                    have hfz40_1 := blk_frozen BK101.out 1
                                    have hfz40_2 := blk_frozen BK101.out 2
                                    go_wp2_with (first | ((with_reducible refine gate_callee (f := 89) rfl ?_); refine goesL_ (some 55) rfl rfl Try.func89 (by kernel_rfl) rfl #[.agg #[.int .i64 a0_0, .int .i64 a0_1, .slice (some ad104) l0_2.length c0_2], .int .i64 (rd ((rd_T87 l0_2 x28_2).f1) x49_4)] rfl (by (try simp only [List.map_toArray, List.map_cons, List.map_nil]); first | done | rfl | (simp only [List.length_drop, List.length_take]; rfl)) ?_; (with_reducible refine (spec_l1Symbol.calls a0_0 a0_1 _ _ l0_2 (rd ((rd_T87 l0_2 x28_2).f1) x49_4) false _ ?side1 ?side2 A34.out).mono ?_); (case side1 => repeat (first | exact (Kd.C_below HR0_2.out HB.out) | (with_reducible refine Kd.C_alloc ?_ _) | (with_reducible refine Kd.C_drewN ?_ _) | (with_reducible refine Kd.C_drew ?_))); (case side2 => exact HC0_2.out); rintro e w41 ⟨rfl, hb⟩; refine ⟨_, rfl, ?_⟩; have n0_ := Aside0.mk (blk_below (g := gb101) (o := .cells #[.int .i64 a0_0, .int .i64 a0_1, .slice (some ad104) l0_2.length c0_2] 28 (0, 0)) (by (with_reducible repeat (first | refine blk_drewN ?_ _ | refine blk_drew ?_ | refine blk_alloc ?_ _)); exact BK101.out) hb); have n1_ := Aside0.mk (blk_below (g := gb105) (o := .cells #[.int .i64 ((rd_T87 l0_2 x28_2).f0), .slice (some ad107) ((rd_T87 l0_2 x28_2).f1).length c104_1] 87 (0, 0)) (by (with_reducible repeat (first | refine blk_drewN ?_ _ | refine blk_drew ?_ | refine blk_alloc ?_ _)); exact BK105.out) hb); have n2_ := Aside0.mk (below_step (by repeat (first | (with_reducible first | exact HB.out | apply below_alloc | apply pw_below_drewN | apply below_drew1 | refine below_set ?_ GE101.out | refine below_set ?_ GE105.out) | exact HB.out)) hb); clear BK101; clear BK105; clear HB; have BK101 := n0_; have BK105 := n1_; have HB := n2_; clear n0_ n1_ n2_; (try clear hb); (try clear hb2); (try clear hk); (try clear hi)))
                                    go_ret
                                    exact ⟨by first | rfl | (simp [errW_none, errW_some] <;> rfl) | (simp [*, errW_none, errW_some] <;> rfl), by repeat (first | (with_reducible first | exact HB.out | apply below_alloc | apply pw_below_drewN | apply below_drew1 | refine below_set ?_ GE101.out | refine below_set ?_ GE105.out) | exact HB.out)⟩
                                · rw [if_neg c33] at H
                                  exact absurd H (by simp)
                              · rw [if_neg c32] at H
                                exact absurd H (by simp)
                            · rw [if_neg c31] at H
                              have c31b0 : decide (x49_4 < (((rd_T87 l0_2 x28_2).f1).length : Int)) = false := decide_eq_false c31
                              clear c31
                              by_cases c42 : 0 ≤ x28_2
                              · rw [if_pos c42] at H
                                have c42b0 := eq_true c42
                                have c42b1 : decide (0 ≤ x28_2) = true := decide_eq_true c42
                                clear c42
                                by_cases c43 : x28_2 ≤ (l0_2.length : Int)
                                · rw [if_pos c43] at H
                                  have c43b0 := eq_true c43
                                  have c43b1 : decide (x28_2 ≤ (l0_2.length : Int)) = true := decide_eq_true c43
                                  clear c43
                                  obtain ⟨y109, hy109⟩ : ∃ y_ : List (S87), y_ = (l0_2.take (x28_2 : Int).toNat) := ⟨_, rfl⟩
                                  replace H : (spec_GoodGrammar.l2 k4 l0_2 (l0_2.length : Int) x28_2 y109 (y109.length : Int) 0 a0_0 a0_1 l0_2 ((rd_T87 l0_2 x28_2).f0) ((rd_T87 l0_2 x28_2).f1)) = some r := by first | (rw [hy109]; with_reducible exact H) | (have H2_ := (Option.bind_some _ _).symm.trans H; rw [hy109]; with_reducible exact H2_) | (have H2_ := (Option.bind_some _ _).symm.trans H; with_reducible exact H2_) | with_reducible exact H | (rw [hy109]; exact H) | exact H
                                  have Ny109 := Aside0.mk hy109
                                  clear hy109
                                  have H' := Aside0.mk H
                                  clear H
                                  have hnb44 := NB101_105.out
                                  have hnc44 := NB105_101.out
                                  have hcz45_0 : wr.cell? ⟨gb101, 0, none⟩ = some (.int .i64 a0_0) := (blk_cell BK101.out 0).trans rfl
                                  have hcz45_1 : wr.cell? ⟨gb101, 1, none⟩ = some (.int .i64 a0_1) := (blk_cell BK101.out 1).trans rfl
                                  have hcz45_2 : wr.cell? ⟨gb101, 2, none⟩ = some (.slice (some ad104) l0_2.length c0_2) := (blk_cell BK101.out 2).trans rfl
                                  have hfz45_0 := blk_frozen BK101.out 0
                                  have hfz45_1 := blk_frozen BK101.out 1
                                  have hfz45_2 := blk_frozen BK101.out 2
                                  have q46 : (x28_2 : Int) ≤ ((l0_2.length : Int) : Int) := of_decide_eq_true (by first | (with_reducible assumption) | assumption)
                                  obtain ⟨i046, hi046, _, hsz46, _⟩ := info_parts info87
                                  have hroom46 : l0_2.length ≤ c0_2 := HC0_2.out
                                  have hC46 : Kd.C k87 _ (some ad104) l0_2.length l0_2 := HR0_2.out
                                  have hcut46 := cut_to (P := Try.prog) 26 87 .i64 Try.underlying26 hi046 (some ad104) l0_2.length c0_2 x28_2 (of_decide_eq_true (by first | (with_reducible assumption) | assumption)) q46 hroom46
                                  have hr46 := Kd.C_take (m := (x28_2 : Int).toNat) hC46 (by omega)
                                  have hy46 : y109.length = (x28_2 : Int).toNat := (by rw [Ny109.out, List.length_take]; omega)
                                  rw [← Ny109.out] at hr46
                                  rw [← hy46] at hcut46
                                  have HR112 := Aside0.mk hr46
                                  have HC112 := Aside0.mk (show y109.length ≤ c0_2 from by omega)
                                  clear hr46 hC46 hroom46 hi046 hsz46
                                  have KY46 := Aside0.mk hy46
                                  clear hy46
                                  replace q46 := eq_true q46
                                  go_wp2
                                  go_loopg [63] k4 (fun kq v63 w' => ∃ (x63_5 : Int), v63 = .int .i64 x63_5 ∧ Aside0 (spec_GoodGrammar.l2 kq l0_2 (l0_2.length : Int) x28_2 y109 (y109.length : Int) x63_5 a0_0 a0_1 l0_2 ((rd_T87 l0_2 x28_2).f0) ((rd_T87 l0_2 x28_2).f1) = some r) ∧ Aside0 (kq ≤ k4) ∧ Aside0 (w'.heap[gb101]? = some (.cells #[.int .i64 a0_0, .int .i64 a0_1, (.slice (some ad104) l0_2.length c0_2)] 28 (0, 0))) ∧ Aside0 (w'.heap[gb105]? = some (.cells #[.int .i64 ((rd_T87 l0_2 x28_2).f0), (.slice A104_1 ((rd_T87 l0_2 x28_2).f1).length c104_1)] 87 (0, 0))) ∧ Aside0 (Below w.heap.size w w'))
                                  case atStart => exact ⟨(0), (by first | rfl | (simp; done) | (simp [*]; done)), H', ⟨Nat.le_refl _⟩, ⟨by (with_reducible repeat (first | refine blk_drewN ?_ _ | refine blk_drew ?_ | refine blk_alloc ?_ _)); exact BK101.out⟩, ⟨by (with_reducible repeat (first | refine blk_drewN ?_ _ | refine blk_drew ?_ | refine blk_alloc ?_ _)); exact BK105.out⟩, ⟨by repeat (first | (with_reducible first | exact HB.out | apply below_alloc | apply pw_below_drewN | apply below_drew1 | refine below_set ?_ GE101.out | refine below_set ?_ GE105.out) | exact HB.out)⟩⟩
                                  case round =>
                                    clear H'
                                    try clear c1
                                    try clear p1
                                    try clear q1
                                    try clear hx1
                                    try clear c2
                                    try clear p2
                                    try clear c3
                                    try clear c4
                                    try clear q4
                                    try clear c5
                                    try clear c6
                                    try clear p6
                                    try clear c7
                                    try clear c8
                                    try clear c10
                                    try clear p10
                                    try clear q10
                                    try clear hx10
                                    try clear c11
                                    try clear c13
                                    try clear c13b0
                                    try clear c14
                                    try clear c14b0
                                    try clear c15
                                    try clear c15b0
                                    try clear c18
                                    try clear c21
                                    try clear c22
                                    try clear c25
                                    try clear c28
                                    try clear c29
                                    try clear c31
                                    try clear c31b0
                                    try clear c32
                                    try clear c32b0
                                    try clear c33
                                    try clear c33b0
                                    try clear c35
                                    try clear c36
                                    try clear c39
                                    try clear c42
                                    try clear c42b0
                                    try clear c42b1
                                    try clear c43
                                    try clear c43b0
                                    try clear c43b1
                                    try clear c44
                                    try clear q46
                                    try clear hcz10_0
                                    try clear hcz10_1
                                    try clear hcz10_2
                                    try clear hcz12_0
                                    try clear hcz12_1
                                    try clear hcz12_2
                                    try clear hcz19_0
                                    try clear hcz19_1
                                    try clear hcz23_0
                                    try clear hcz23_1
                                    try clear hcz24_0
                                    try clear hcz24_1
                                    try clear hcz24_2
                                    try clear hcz26_0
                                    try clear hcz26_1
                                    try clear hcz27_0
                                    try clear hcz27_1
                                    try clear hcz27_2
                                    try clear hcz30_0
                                    try clear hcz30_1
                                    try clear hcz37_0
                                    try clear hcz37_1
                                    try clear hcz37_2
                                    try clear hcz40_0
                                    try clear hcz40_1
                                    try clear hcz40_2
                                    try clear hcz45_0
                                    try clear hcz45_1
                                    try clear hcz45_2
                                    try clear hcz8_0
                                    try clear hcz8_1
                                    try clear hcz8_2
                                    try clear hcz9_0
                                    try clear hcz9_1
                                    try clear hcz9_2
                                    try clear hfz10_0
                                    try clear hfz10_1
                                    try clear hfz10_2
                                    try clear hfz12_0
                                    try clear hfz12_1
                                    try clear hfz12_2
                                    try clear hfz19_0
                                    try clear hfz19_1
                                    try clear hfz23_0
                                    try clear hfz23_1
                                    try clear hfz24_0
                                    try clear hfz24_1
                                    try clear hfz24_2
                                    try clear hfz26_0
                                    try clear hfz26_1
                                    try clear hfz27_0
                                    try clear hfz27_1
                                    try clear hfz27_2
                                    try clear hfz30_0
                                    try clear hfz30_1
                                    try clear hfz37_0
                                    try clear hfz37_1
                                    try clear hfz37_2
                                    try clear hfz40_0
                                    try clear hfz40_1
                                    try clear hfz40_2
                                    try clear hfz45_0
                                    try clear hfz45_1
                                    try clear hfz45_2
                                    try clear hfz8_0
                                    try clear hfz8_1
                                    try clear hfz8_2
                                    try clear hfz9_0
                                    try clear hfz9_1
                                    try clear hfz9_2
                                    try clear hx104_0
                                    try clear hx104_1
                                    try clear hx107_0
                                    try clear p1
                                    try clear p10
                                    try clear p104
                                    try clear p107
                                    try clear p2
                                    try clear p6
                                    try clear q1
                                    try clear q10
                                    try clear q104
                                    try clear q107
                                    try clear q46
                                    obtain ⟨x63_5, rfl, HA, HK5, BK101, BK105, HB⟩ := hrel
                                    cases gk with
                                    | zero => exact absurd HA.out (by simp [spec_GoodGrammar.l2])
                                    | succ k5 =>
                                      have H := HA.out
                                      clear HA
                                      simp only [spec_GoodGrammar.l2] at H
                                      by_cases c47 : x63_5 < (y109.length : Int)
                                      · rw [if_pos c47] at H
                                        have c47b0 : decide (x63_5 < (y109.length : Int)) = true := decide_eq_true c47
                                        clear c47
                                        by_cases c48 : 0 ≤ x63_5
                                        · rw [if_pos c48] at H
                                          have c48b0 : decide (0 ≤ x63_5) = true := decide_eq_true c48
                                          clear c48
                                          by_cases c49 : x63_5 < (y109.length : Int)
                                          · rw [if_pos c49] at H
                                            have c49b0 : decide (x63_5 < (y109.length : Int)) = true := decide_eq_true c49
                                            clear c49
                                            replace H := Option.bind_eq_some_iff.mp H
                                            obtain ⟨t115, A500, H⟩ := H
                                            replace H : (if t115 = true then (some false) else (spec_GoodGrammar.l2 k5 l0_2 (l0_2.length : Int) x28_2 y109 (y109.length : Int) (wrap64 (x63_5 + 1)) a0_0 a0_1 l0_2 ((rd_T87 l0_2 x28_2).f0) ((rd_T87 l0_2 x28_2).f1))) = some r := H
                                            have A50 := Aside0.mk A500
                                            clear A500
                                            by_cases c51 : t115 = true
                                            · subst c51
                                              have H1 : (some false) = some r := by rw [if_pos rfl] at H; exact H
                                              clear H
                                              have H := H1
                                              clear H1
                                              obtain rfl := Option.some.inj H
                                              have p113 : 0 ≤ (x63_5 : Int) := of_decide_eq_true (by first | (with_reducible assumption) | assumption)
                                              have q113 : x63_5 < (y109.length : Int) := of_decide_eq_true (by first | (with_reducible assumption) | assumption)
                                              obtain ⟨ad113, A113_1, c113_1, e113, hx113_0, hx113_1, hl113_1, hi113_1⟩ := at_T87 HR112.out x63_5 p113 q113
                                              obtain rfl : ad104 = ad113 := (by injection e113)
                                              replace hx113_0 := (HB.out.cell (World.block_lt_of_cell? w _ hx113_0)).trans hx113_0
                                              replace hx113_1 := (HB.out.cell (World.block_lt_of_cell? w _ hx113_1)).trans hx113_1
                                              have HR113_1 := Aside0.mk hi113_1
                                              have HC113_1 := Aside0.mk hl113_1
                                              clear hi113_1 hl113_1
                                              replace p113 := eq_true p113
                                              replace q113 := eq_true q113
                                              go_wp2_with (first | ((with_reducible refine gate_dst (N := 8) rfl ?_); (try (refine gate_guard (by rfl) ?_; dsimp only)); refine box_event ?hg (N := 8) ?hd (cs := #[.int .i64 0, .slice none 0 0]) (t := 87) ?hr ?_; (case hd => rfl); (case hg => rfl); (case hr => first | (go_simp; done) | (go_simp; rfl)); intro gb114 hg w52 hbox hb; have n0_ := Aside0.mk (blk_below (g := gb101) (o := .cells #[.int .i64 a0_0, .int .i64 a0_1, .slice (some ad104) l0_2.length c0_2] 28 (0, 0)) (by (with_reducible repeat (first | refine blk_drewN ?_ _ | refine blk_drew ?_ | refine blk_alloc ?_ _)); exact BK101.out) hb); have n1_ := Aside0.mk (blk_below (g := gb105) (o := .cells #[.int .i64 ((rd_T87 l0_2 x28_2).f0), .slice A104_1 ((rd_T87 l0_2 x28_2).f1).length c104_1] 87 (0, 0)) (by (with_reducible repeat (first | refine blk_drewN ?_ _ | refine blk_drew ?_ | refine blk_alloc ?_ _)); exact BK105.out) hb); have n2_ := Aside0.mk (below_step (by repeat (first | (with_reducible first | exact HB.out | apply below_alloc | apply pw_below_drewN | apply below_drew1 | refine below_set ?_ GE101.out | refine below_set ?_ GE105.out) | exact HB.out)) hb); have n3_ := Aside0.mk (hbox); have n4_ := Aside0.mk ((by rw [hg]; exact (below_size (by repeat (first | (with_reducible first | exact HB.out | apply below_alloc | apply pw_below_drewN | apply below_drew1 | refine below_set ?_ GE101.out | refine below_set ?_ GE105.out) | exact HB.out))) : w.heap.size ≤ gb114)); have n5_ := Aside0.mk ((by rw [hg]; exact (below_size (by repeat (first | (with_reducible first | exact HB.out | apply below_alloc | apply pw_below_drewN | apply below_drew1 | refine below_set ?_ GE101.out | refine below_set ?_ GE105.out) | exact HB.out))) : w.heap.size ≤ gb114)); have n6_ := Aside0.mk ((by rw [hg]; exact Nat.ne_of_lt (blk_lt (g := gb101) (o := .cells #[.int .i64 a0_0, .int .i64 a0_1, .slice (some ad104) l0_2.length c0_2] 28 (0, 0)) (by (with_reducible repeat (first | refine blk_drewN ?_ _ | refine blk_drew ?_ | refine blk_alloc ?_ _)); exact BK101.out)) : gb101 ≠ gb114)); have n7_ := Aside0.mk ((by rw [hg]; exact Nat.ne_of_gt (blk_lt (g := gb101) (o := .cells #[.int .i64 a0_0, .int .i64 a0_1, .slice (some ad104) l0_2.length c0_2] 28 (0, 0)) (by (with_reducible repeat (first | refine blk_drewN ?_ _ | refine blk_drew ?_ | refine blk_alloc ?_ _)); exact BK101.out)) : gb114 ≠ gb101)); have n8_ := Aside0.mk ((by rw [hg]; exact Nat.ne_of_lt (blk_lt (g := gb105) (o := .cells #[.int .i64 ((rd_T87 l0_2 x28_2).f0), .slice A104_1 ((rd_T87 l0_2 x28_2).f1).length c104_1] 87 (0, 0)) (by (with_reducible repeat (first | refine blk_drewN ?_ _ | refine blk_drew ?_ | refine blk_alloc ?_ _)); exact BK105.out)) : gb105 ≠ gb114)); have n9_ := Aside0.mk ((by rw [hg]; exact Nat.ne_of_gt (blk_lt (g := gb105) (o := .cells #[.int .i64 ((rd_T87 l0_2 x28_2).f0), .slice A104_1 ((rd_T87 l0_2 x28_2).f1).length c104_1] 87 (0, 0)) (by (with_reducible repeat (first | refine blk_drewN ?_ _ | refine blk_drew ?_ | refine blk_alloc ?_ _)); exact BK105.out)) : gb114 ≠ gb105)); clear BK101; clear BK105; clear HB; have BK101 := n0_; have BK105 := n1_; have HB := n2_; have BK114 := n3_; have GW114 := n4_; have GE114 := n5_; have NB101_114 := n6_; have NB114_101 := n7_; have NB105_114 := n8_; have NB114_105 := n9_; clear n0_ n1_ n2_ n3_ n4_ n5_ n6_ n7_ n8_ n9_; clear hb hbox hg; have hnb53 := NB114_101.out; have hnc53 := NB101_114.out; have hnb54 := NB114_105.out; have hnc54 := NB105_114.out; have hcz55_0 : w52.cell? ⟨gb114, 0, none⟩ = some (.int .i64 0) := (blk_cell BK114.out 0).trans rfl; have hcz55_1 : w52.cell? ⟨gb114, 1, none⟩ = some (.slice none 0 0) := (blk_cell BK114.out 1).trans rfl; have hfz55_0 := blk_frozen BK114.out 0; have hfz55_1 := blk_frozen BK114.out 1; have hnb56 := NB105_101.out; have hnc56 := NB101_105.out; have hcz57_0 : w52.cell? ⟨gb105, 0, none⟩ = some (.int .i64 ((rd_T87 l0_2 x28_2).f0)) := (blk_cell BK105.out 0).trans rfl; have hcz57_1 : w52.cell? ⟨gb105, 1, none⟩ = some (.slice A104_1 ((rd_T87 l0_2 x28_2).f1).length c104_1) := (blk_cell BK105.out 1).trans rfl; have hfz57_0 := blk_frozen BK105.out 0; have hfz57_1 := blk_frozen BK105.out 1) | ((with_reducible refine gate_callee (f := 90) rfl ?_); refine goesL_ (some 69) rfl rfl Try.func90 (by kernel_rfl) rfl #[.agg #[.int .i64 ((rd_T87 l0_2 x28_2).f0), .slice A104_1 ((rd_T87 l0_2 x28_2).f1).length c104_1], .agg #[.int .i64 ((rd_T87 y109 x63_5).f0), .slice A113_1 ((rd_T87 y109 x63_5).f1).length c113_1]] rfl (by (try simp only [List.map_toArray, List.map_cons, List.map_nil]); first | done | rfl | (simp only [List.length_drop, List.length_take]; rfl)) ?_; (with_reducible refine (spec_l1SameRule.calls k5 ((rd_T87 l0_2 x28_2).f0) _ _ ((rd_T87 l0_2 x28_2).f1) ((rd_T87 y109 x63_5).f0) _ _ ((rd_T87 y109 x63_5).f1) true _ ?side1 ?side2 ?side3 ?side4 A50.out).mono ?_); (case side1 => exact Kd.C_below HR104_1.out (by repeat (first | (with_reducible first | exact HB.out | apply below_alloc | apply pw_below_drewN | apply below_drew1 | refine below_set ?_ GE101.out | refine below_set ?_ GE105.out | refine below_set ?_ GE114.out) | exact HB.out))); (case side2 => exact HC104_1.out); (case side3 => exact Kd.C_below HR113_1.out (by repeat (first | (with_reducible first | exact HB.out | apply below_alloc | apply pw_below_drewN | apply below_drew1 | refine below_set ?_ GE101.out | refine below_set ?_ GE105.out | refine below_set ?_ GE114.out) | exact HB.out))); (case side4 => exact HC113_1.out); rintro e w58 ⟨rfl, hb⟩; refine ⟨_, rfl, ?_⟩; have n0_ := Aside0.mk (blk_below (g := gb101) (o := .cells #[.int .i64 a0_0, .int .i64 a0_1, .slice (some ad104) l0_2.length c0_2] 28 (0, 0)) (by (with_reducible repeat (first | refine blk_drewN ?_ _ | refine blk_drew ?_ | refine blk_alloc ?_ _)); refine blk_far ?_ NB101_114.out _; (with_reducible repeat (first | refine blk_drewN ?_ _ | refine blk_drew ?_ | refine blk_alloc ?_ _)); refine blk_far ?_ NB101_114.out _; (with_reducible repeat (first | refine blk_drewN ?_ _ | refine blk_drew ?_ | refine blk_alloc ?_ _)); exact BK101.out) hb); have n1_ := Aside0.mk (blk_below (g := gb105) (o := .cells #[.int .i64 ((rd_T87 l0_2 x28_2).f0), .slice A104_1 ((rd_T87 l0_2 x28_2).f1).length c104_1] 87 (0, 0)) (by (with_reducible repeat (first | refine blk_drewN ?_ _ | refine blk_drew ?_ | refine blk_alloc ?_ _)); refine blk_far ?_ NB105_114.out _; (with_reducible repeat (first | refine blk_drewN ?_ _ | refine blk_drew ?_ | refine blk_alloc ?_ _)); refine blk_far ?_ NB105_114.out _; (with_reducible repeat (first | refine blk_drewN ?_ _ | refine blk_drew ?_ | refine blk_alloc ?_ _)); exact BK105.out) hb); have n2_ := Aside0.mk (blk_below (g := gb114) (o := .cells #[.int .i64 ((rd_T87 y109 x63_5).f0), .slice A113_1 ((rd_T87 y109 x63_5).f1).length c113_1] 87 (0, 0)) (by (with_reducible repeat (first | refine blk_drewN ?_ _ | refine blk_drew ?_ | refine blk_alloc ?_ _)); refine blk_put (cs := #[.int .i64 ((rd_T87 y109 x63_5).f0), .slice none 0 0]) ?_ 1 _ rfl; (with_reducible repeat (first | refine blk_drewN ?_ _ | refine blk_drew ?_ | refine blk_alloc ?_ _)); refine blk_put (cs := #[.int .i64 0, .slice none 0 0]) ?_ 0 _ rfl; (with_reducible repeat (first | refine blk_drewN ?_ _ | refine blk_drew ?_ | refine blk_alloc ?_ _)); exact BK114.out) hb); have n3_ := Aside0.mk (below_step (by repeat (first | (with_reducible first | exact HB.out | apply below_alloc | apply pw_below_drewN | apply below_drew1 | refine below_set ?_ GE101.out | refine below_set ?_ GE105.out | refine below_set ?_ GE114.out) | exact HB.out)) hb); clear BK101; clear BK105; clear BK114; clear HB; have BK101 := n0_; have BK105 := n1_; have BK114 := n2_; have HB := n3_; clear n0_ n1_ n2_ n3_; (try clear hb); (try clear hb2); (try clear hk); (try clear hi)))
                                              go_ret
                                              exact ⟨by first | rfl | (simp [errW_none, errW_some] <;> rfl) | (simp [*, errW_none, errW_some] <;> rfl), by repeat (first | (with_reducible first | exact HB.out | apply below_alloc | apply pw_below_drewN | apply below_drew1 | refine below_set ?_ GE101.out | refine below_set ?_ GE105.out | refine below_set ?_ GE114.out) | exact HB.out)⟩
                                            · replace c51 := Bool.eq_false_iff.mpr c51
                                              subst c51
                                              have H1 : (spec_GoodGrammar.l2 k5 l0_2 (l0_2.length : Int) x28_2 y109 (y109.length : Int) (wrap64 (x63_5 + 1)) a0_0 a0_1 l0_2 ((rd_T87 l0_2 x28_2).f0) ((rd_T87 l0_2 x28_2).f1)) = some r := by rw [if_neg (show ¬ (false = true) by decide)] at H; exact H
                                              clear H
                                              have H := H1
                                              clear H1
                                              have H' := Aside0.mk H
                                              clear H
                                              have p113 : 0 ≤ (x63_5 : Int) := of_decide_eq_true (by first | (with_reducible assumption) | assumption)
                                              have q113 : x63_5 < (y109.length : Int) := of_decide_eq_true (by first | (with_reducible assumption) | assumption)
                                              obtain ⟨ad113, A113_1, c113_1, e113, hx113_0, hx113_1, hl113_1, hi113_1⟩ := at_T87 HR112.out x63_5 p113 q113
                                              obtain rfl : ad104 = ad113 := (by injection e113)
                                              replace hx113_0 := (HB.out.cell (World.block_lt_of_cell? w _ hx113_0)).trans hx113_0
                                              replace hx113_1 := (HB.out.cell (World.block_lt_of_cell? w _ hx113_1)).trans hx113_1
                                              have HR113_1 := Aside0.mk hi113_1
                                              have HC113_1 := Aside0.mk hl113_1
                                              clear hi113_1 hl113_1
                                              replace p113 := eq_true p113
                                              replace q113 := eq_true q113
                                              go_wp2_with (first | ((with_reducible refine gate_dst (N := 8) rfl ?_); (try (refine gate_guard (by rfl) ?_; dsimp only)); refine box_event ?hg (N := 8) ?hd (cs := #[.int .i64 0, .slice none 0 0]) (t := 87) ?hr ?_; (case hd => rfl); (case hg => rfl); (case hr => first | (go_simp; done) | (go_simp; rfl)); intro gb114 hg w59 hbox hb; have n0_ := Aside0.mk (blk_below (g := gb101) (o := .cells #[.int .i64 a0_0, .int .i64 a0_1, .slice (some ad104) l0_2.length c0_2] 28 (0, 0)) (by (with_reducible repeat (first | refine blk_drewN ?_ _ | refine blk_drew ?_ | refine blk_alloc ?_ _)); exact BK101.out) hb); have n1_ := Aside0.mk (blk_below (g := gb105) (o := .cells #[.int .i64 ((rd_T87 l0_2 x28_2).f0), .slice A104_1 ((rd_T87 l0_2 x28_2).f1).length c104_1] 87 (0, 0)) (by (with_reducible repeat (first | refine blk_drewN ?_ _ | refine blk_drew ?_ | refine blk_alloc ?_ _)); exact BK105.out) hb); have n2_ := Aside0.mk (below_step (by repeat (first | (with_reducible first | exact HB.out | apply below_alloc | apply pw_below_drewN | apply below_drew1 | refine below_set ?_ GE101.out | refine below_set ?_ GE105.out) | exact HB.out)) hb); have n3_ := Aside0.mk (hbox); have n4_ := Aside0.mk ((by rw [hg]; exact (below_size (by repeat (first | (with_reducible first | exact HB.out | apply below_alloc | apply pw_below_drewN | apply below_drew1 | refine below_set ?_ GE101.out | refine below_set ?_ GE105.out) | exact HB.out))) : w.heap.size ≤ gb114)); have n5_ := Aside0.mk ((by rw [hg]; exact (below_size (by repeat (first | (with_reducible first | exact HB.out | apply below_alloc | apply pw_below_drewN | apply below_drew1 | refine below_set ?_ GE101.out | refine below_set ?_ GE105.out) | exact HB.out))) : w.heap.size ≤ gb114)); have n6_ := Aside0.mk ((by rw [hg]; exact Nat.ne_of_lt (blk_lt (g := gb101) (o := .cells #[.int .i64 a0_0, .int .i64 a0_1, .slice (some ad104) l0_2.length c0_2] 28 (0, 0)) (by (with_reducible repeat (first | refine blk_drewN ?_ _ | refine blk_drew ?_ | refine blk_alloc ?_ _)); exact BK101.out)) : gb101 ≠ gb114)); have n7_ := Aside0.mk ((by rw [hg]; exact Nat.ne_of_gt (blk_lt (g := gb101) (o := .cells #[.int .i64 a0_0, .int .i64 a0_1, .slice (some ad104) l0_2.length c0_2] 28 (0, 0)) (by (with_reducible repeat (first | refine blk_drewN ?_ _ | refine blk_drew ?_ | refine blk_alloc ?_ _)); exact BK101.out)) : gb114 ≠ gb101)); have n8_ := Aside0.mk ((by rw [hg]; exact Nat.ne_of_lt (blk_lt (g := gb105) (o := .cells #[.int .i64 ((rd_T87 l0_2 x28_2).f0), .slice A104_1 ((rd_T87 l0_2 x28_2).f1).length c104_1] 87 (0, 0)) (by (with_reducible repeat (first | refine blk_drewN ?_ _ | refine blk_drew ?_ | refine blk_alloc ?_ _)); exact BK105.out)) : gb105 ≠ gb114)); have n9_ := Aside0.mk ((by rw [hg]; exact Nat.ne_of_gt (blk_lt (g := gb105) (o := .cells #[.int .i64 ((rd_T87 l0_2 x28_2).f0), .slice A104_1 ((rd_T87 l0_2 x28_2).f1).length c104_1] 87 (0, 0)) (by (with_reducible repeat (first | refine blk_drewN ?_ _ | refine blk_drew ?_ | refine blk_alloc ?_ _)); exact BK105.out)) : gb114 ≠ gb105)); clear BK101; clear BK105; clear HB; have BK101 := n0_; have BK105 := n1_; have HB := n2_; have BK114 := n3_; have GW114 := n4_; have GE114 := n5_; have NB101_114 := n6_; have NB114_101 := n7_; have NB105_114 := n8_; have NB114_105 := n9_; clear n0_ n1_ n2_ n3_ n4_ n5_ n6_ n7_ n8_ n9_; clear hb hbox hg; have hnb60 := NB114_101.out; have hnc60 := NB101_114.out; have hnb61 := NB114_105.out; have hnc61 := NB105_114.out; have hcz62_0 : w59.cell? ⟨gb114, 0, none⟩ = some (.int .i64 0) := (blk_cell BK114.out 0).trans rfl; have hcz62_1 : w59.cell? ⟨gb114, 1, none⟩ = some (.slice none 0 0) := (blk_cell BK114.out 1).trans rfl; have hfz62_0 := blk_frozen BK114.out 0; have hfz62_1 := blk_frozen BK114.out 1; have hnb63 := NB105_101.out; have hnc63 := NB101_105.out; have hcz64_0 : w59.cell? ⟨gb105, 0, none⟩ = some (.int .i64 ((rd_T87 l0_2 x28_2).f0)) := (blk_cell BK105.out 0).trans rfl; have hcz64_1 : w59.cell? ⟨gb105, 1, none⟩ = some (.slice A104_1 ((rd_T87 l0_2 x28_2).f1).length c104_1) := (blk_cell BK105.out 1).trans rfl; have hfz64_0 := blk_frozen BK105.out 0; have hfz64_1 := blk_frozen BK105.out 1) | ((with_reducible refine gate_callee (f := 90) rfl ?_); refine goesL_ (some 69) rfl rfl Try.func90 (by kernel_rfl) rfl #[.agg #[.int .i64 ((rd_T87 l0_2 x28_2).f0), .slice A104_1 ((rd_T87 l0_2 x28_2).f1).length c104_1], .agg #[.int .i64 ((rd_T87 y109 x63_5).f0), .slice A113_1 ((rd_T87 y109 x63_5).f1).length c113_1]] rfl (by (try simp only [List.map_toArray, List.map_cons, List.map_nil]); first | done | rfl | (simp only [List.length_drop, List.length_take]; rfl)) ?_; (with_reducible refine (spec_l1SameRule.calls k5 ((rd_T87 l0_2 x28_2).f0) _ _ ((rd_T87 l0_2 x28_2).f1) ((rd_T87 y109 x63_5).f0) _ _ ((rd_T87 y109 x63_5).f1) false _ ?side1 ?side2 ?side3 ?side4 A50.out).mono ?_); (case side1 => exact Kd.C_below HR104_1.out (by repeat (first | (with_reducible first | exact HB.out | apply below_alloc | apply pw_below_drewN | apply below_drew1 | refine below_set ?_ GE101.out | refine below_set ?_ GE105.out | refine below_set ?_ GE114.out) | exact HB.out))); (case side2 => exact HC104_1.out); (case side3 => exact Kd.C_below HR113_1.out (by repeat (first | (with_reducible first | exact HB.out | apply below_alloc | apply pw_below_drewN | apply below_drew1 | refine below_set ?_ GE101.out | refine below_set ?_ GE105.out | refine below_set ?_ GE114.out) | exact HB.out))); (case side4 => exact HC113_1.out); rintro e w65 ⟨rfl, hb⟩; refine ⟨_, rfl, ?_⟩; have n0_ := Aside0.mk (blk_below (g := gb101) (o := .cells #[.int .i64 a0_0, .int .i64 a0_1, .slice (some ad104) l0_2.length c0_2] 28 (0, 0)) (by (with_reducible repeat (first | refine blk_drewN ?_ _ | refine blk_drew ?_ | refine blk_alloc ?_ _)); refine blk_far ?_ NB101_114.out _; (with_reducible repeat (first | refine blk_drewN ?_ _ | refine blk_drew ?_ | refine blk_alloc ?_ _)); refine blk_far ?_ NB101_114.out _; (with_reducible repeat (first | refine blk_drewN ?_ _ | refine blk_drew ?_ | refine blk_alloc ?_ _)); exact BK101.out) hb); have n1_ := Aside0.mk (blk_below (g := gb105) (o := .cells #[.int .i64 ((rd_T87 l0_2 x28_2).f0), .slice A104_1 ((rd_T87 l0_2 x28_2).f1).length c104_1] 87 (0, 0)) (by (with_reducible repeat (first | refine blk_drewN ?_ _ | refine blk_drew ?_ | refine blk_alloc ?_ _)); refine blk_far ?_ NB105_114.out _; (with_reducible repeat (first | refine blk_drewN ?_ _ | refine blk_drew ?_ | refine blk_alloc ?_ _)); refine blk_far ?_ NB105_114.out _; (with_reducible repeat (first | refine blk_drewN ?_ _ | refine blk_drew ?_ | refine blk_alloc ?_ _)); exact BK105.out) hb); have n2_ := Aside0.mk (blk_below (g := gb114) (o := .cells #[.int .i64 ((rd_T87 y109 x63_5).f0), .slice A113_1 ((rd_T87 y109 x63_5).f1).length c113_1] 87 (0, 0)) (by (with_reducible repeat (first | refine blk_drewN ?_ _ | refine blk_drew ?_ | refine blk_alloc ?_ _)); refine blk_put (cs := #[.int .i64 ((rd_T87 y109 x63_5).f0), .slice none 0 0]) ?_ 1 _ rfl; (with_reducible repeat (first | refine blk_drewN ?_ _ | refine blk_drew ?_ | refine blk_alloc ?_ _)); refine blk_put (cs := #[.int .i64 0, .slice none 0 0]) ?_ 0 _ rfl; (with_reducible repeat (first | refine blk_drewN ?_ _ | refine blk_drew ?_ | refine blk_alloc ?_ _)); exact BK114.out) hb); have n3_ := Aside0.mk (below_step (by repeat (first | (with_reducible first | exact HB.out | apply below_alloc | apply pw_below_drewN | apply below_drew1 | refine below_set ?_ GE101.out | refine below_set ?_ GE105.out | refine below_set ?_ GE114.out) | exact HB.out)) hb); clear BK101; clear BK105; clear BK114; clear HB; have BK101 := n0_; have BK105 := n1_; have BK114 := n2_; have HB := n3_; clear n0_ n1_ n2_ n3_; (try clear hb); (try clear hb2); (try clear hk); (try clear hi)))
                                              go_roundg k5
                                              case measure => have := HJ1.out; have := HK2.out; have := HJ15.out; have := HK4.out; have := HK5.out; omega
                                              case rel => exact ⟨(wrap64 (x63_5 + 1)), (by first | rfl | (simp; done) | (simp [*]; done)), H', ⟨by have := HJ1.out; have := HK2.out; have := HJ15.out; have := HK4.out; have := HK5.out; omega⟩, ⟨by (with_reducible repeat (first | refine blk_drewN ?_ _ | refine blk_drew ?_ | refine blk_alloc ?_ _)); exact BK101.out⟩, ⟨by (with_reducible repeat (first | refine blk_drewN ?_ _ | refine blk_drew ?_ | refine blk_alloc ?_ _)); exact BK105.out⟩, ⟨by repeat (first | (with_reducible first | exact HB.out | apply below_alloc | apply pw_below_drewN | apply below_drew1 | refine below_set ?_ GE101.out | refine below_set ?_ GE105.out | refine below_set ?_ GE114.out) | exact HB.out)⟩⟩
                                          · rw [if_neg c49] at H
                                            exact absurd H (by simp)
                                        · rw [if_neg c48] at H
                                          exact absurd H (by simp)
                                      · rw [if_neg c47] at H
                                        have c47b0 : decide (x63_5 < (y109.length : Int)) = false := decide_eq_false c47
                                        clear c47
                                        have H' := Aside0.mk H
                                        clear H
                                        go_wp2
                                        go_roundg k5
                                        case measure => have := HJ1.out; have := HK2.out; have := HJ15.out; have := HK4.out; have := HK5.out; omega
                                        case rel => exact ⟨(wrap64 (x28_2 + 1)), (by first | rfl | (simp; done) | (simp [*]; done)), H', ⟨by have := HJ1.out; have := HK2.out; have := HJ15.out; have := HK4.out; have := HK5.out; omega⟩, ⟨by (with_reducible repeat (first | refine blk_drewN ?_ _ | refine blk_drew ?_ | refine blk_alloc ?_ _)); exact BK101.out⟩, ⟨by repeat (first | (with_reducible first | exact HB.out | apply below_alloc | apply pw_below_drewN | apply below_drew1 | refine below_set ?_ GE101.out | refine below_set ?_ GE105.out) | exact HB.out)⟩⟩
                                · rw [if_neg c43] at H
                                  exact absurd H (by simp)
                              · rw [if_neg c42] at H
                                exact absurd H (by simp)
                · rw [if_neg c15] at H
                  exact absurd H (by simp)
              · rw [if_neg c14] at H
                exact absurd H (by simp)
            · rw [if_neg c13] at H
              have c13b0 : decide (x28_2 < (l0_2.length : Int)) = false := decide_eq_false c13
              clear c13
              obtain rfl := Option.some.inj H
              go_wp2
              go_ret
              exact ⟨by first | rfl | (simp [errW_none, errW_some] <;> rfl) | (simp [*, errW_none, errW_some] <;> rfl), by repeat (first | (with_reducible first | exact HB.out | apply below_alloc | apply pw_below_drewN | apply below_drew1 | refine below_set ?_ GE101.out) | exact HB.out)⟩
end Go.Proofs.Ytekoclhnfhbmeaa.P
namespace Go.Proofs.Ytekoclhnfhbmeaa.P
open Go.RowKit Go.Proofs.YtekoclhnfhbmeaaW.PrintWords
set_option linter.unusedVariables false
set_option linter.unusedSimpArgs false
theorem spec_l1In_eq (a b c : Int) : spec_l1In.f a b c = some (decide (b ≤ a ∧ a ≤ c)) := by
  unfold spec_l1In.f
  by_cases h : a ≥ b
  · rw [if_pos h]; congr 2; simp; omega
  · rw [if_neg h]; simp; omega
theorem spec_l1Symbol_eq (a0 a1 : Int) (l : List S87) (x : Int) : spec_l1Symbol.f a0 a1 l x = some (symB a0 a1 x) := by
  unfold spec_l1Symbol.f symB
  rw [spec_l1In_eq]; rfl
theorem l1Same_loop (a b : List Int) (hl : a.length = b.length) (hb : a.length ≤ 9223372036854775807) (d : Nat) : ∀ (k i : Nat), i ≤ a.length → a.length - i = d → d < k →
    spec_l1Same.l0 k a b a.length i = some (decide (a.drop i = b.drop i)) := by
  induction d with
  | zero =>
    intro k i h1 hd hk
    obtain ⟨k, rfl⟩ : ∃ m, k = m + 1 := ⟨k - 1, by omega⟩
    simp only [spec_l1Same.l0]; rw [if_neg (by omega)]
    rw [List.drop_of_length_le (by omega), List.drop_of_length_le (by omega)]; simp
  | succ d ih =>
    intro k i h1 hd hk
    obtain ⟨k, rfl⟩ : ∃ m, k = m + 1 := ⟨k - 1, by omega⟩
    simp only [spec_l1Same.l0]
    rw [if_pos (by omega), if_pos (by omega), if_pos (by omega), if_pos (by omega)]
    have hw : wrap64 ((i : Int) + 1) = ((i + 1 : Nat) : Int) := by unfold wrap64; omega
    have ea : a.drop i = rd a i :: a.drop (i + 1) := getD_drop a i 0 (by omega)
    have eb : b.drop i = rd b i :: b.drop (i + 1) := getD_drop b i 0 (by omega)
    by_cases he : rd a i = rd b i
    · rw [if_pos he, hw, ih k (i + 1) (by omega) (by omega) (by omega), ea, eb, he]
      congr 1; simp
    · rw [if_neg he, ea, eb]; simp [he]
theorem l1Same_eq (a b : List Int) (hb : a.length ≤ 9223372036854775807) : ∀ k, a.length < k → spec_l1Same.f k a b = some (decide (a = b)) := by
  intro k hk
  unfold spec_l1Same.f
  by_cases hl : a.length = b.length
  · rw [if_pos (by omega)]
    have := l1Same_loop a b hl hb a.length k 0 (by omega) (by omega) hk
    simpa using this
  · rw [if_neg (by omega)]
    have : a ≠ b := fun h => hl (by rw [h])
    simp [this]
theorem l1SameRule_eq (a b : S87) (hb : a.f1.length ≤ 9223372036854775807) : ∀ k, a.f1.length < k → spec_l1SameRule.f k a.f0 a.f1 b.f0 b.f1 = some (sameR a b) := by
  intro k hk
  unfold spec_l1SameRule.f sameR
  by_cases h : a.f0 = b.f0
  · rw [if_pos h, l1Same_eq _ _ hb k hk]; simp [h]
  · rw [if_neg h]; simp [h]
theorem sameR_comm (a b : S87) : sameR a b = sameR b a := by
  unfold sameR
  rw [decide_eq_decide]
  constructor <;> rintro ⟨h, h'⟩ <;> exact ⟨h.symm, h'.symm⟩
theorem good_l2 (l : List S87) (hs : smallI l) (n t : Int) (i : Nat) (hi : i < l.length) (r : Bool) (y : S87) (hy : y.f1.length ≤ 1048576)
    (hnext : Ev (fun k => spec_GoodGrammar.l0 k l l.length (wrap64 (i + 1)) n t l) r) (ys : List S87) (hys : ys.length ≤ 1048576) (d : Nat) :
    ∀ j, j ≤ ys.length → ys.length - j = d → Ev (fun k => spec_GoodGrammar.l2 k l l.length i ys ys.length j n t l y.f0 y.f1) (if (ys.drop j).any (fun o => sameR o y) = true then false else r) := by
  induction d with
  | zero =>
    intro j h1 hd
    obtain ⟨K, hn⟩ := hnext
    try dsimp only at hn
    refine ⟨K + 1, fun k hk => ?_⟩
    try dsimp only
    obtain ⟨k, rfl⟩ : ∃ m, k = m + 1 := ⟨k - 1, by omega⟩
    simp only [spec_GoodGrammar.l2]; rw [if_neg (by omega), List.drop_of_length_le (by omega)]
    simpa using hn k (by omega)
  | succ d ih =>
    intro j h1 hd
    obtain ⟨K, hi⟩ := ih (j + 1) (by omega) (by omega)
    try dsimp only at hi
    refine ⟨K + y.f1.length + 2, fun k hk => ?_⟩
    try dsimp only
    obtain ⟨k, rfl⟩ : ∃ m, k = m + 1 := ⟨k - 1, by omega⟩
    simp only [spec_GoodGrammar.l2]
    rw [if_pos (by omega), if_pos (by omega), if_pos (by omega), l1SameRule_eq y _ (by omega) k (by omega)]
    simp only [Option.bind_some]
    have ea : ys.drop j = rd_T87 ys j :: ys.drop (j + 1) := getD_drop ys j z87 (by omega)
    rw [ea, List.any_cons, sameR_comm]
    cases hq : sameR (rd_T87 ys j) y with
    | true => rfl
    | false =>
      rw [if_neg (by decide), show wrap64 ((j : Int) + 1) = ((j + 1 : Nat) : Int) by unfold wrap64; omega]
      simpa using hi k (by omega)
theorem good_l1 (l : List S87) (hs : smallI l) (n t : Int) (i : Nat) (hi : i < l.length) (r : Bool)
    (hnext : Ev (fun k => spec_GoodGrammar.l0 k l l.length (wrap64 (i + 1)) n t l) r) (d : Nat) :
    ∀ j, j ≤ (rd_T87 l i).f1.length → (rd_T87 l i).f1.length - j = d →
      Ev (fun k => spec_GoodGrammar.l1 k i l l.length i (rd_T87 l i).f1 (rd_T87 l i).f1.length j n t l (rd_T87 l i).f0 (rd_T87 l i).f1)
        (if ((rd_T87 l i).f1.drop j).any (fun x => !symB n t x) = true then false else if (l.take i).any (fun o => sameR o (rd_T87 l i)) = true then false else r) := by
  have hb := hs.2 i hi
  have hb0 := hs.1
  induction d with
  | zero =>
    intro j h1 hd
    obtain ⟨K, hn⟩ := good_l2 l hs n t i hi r (rd_T87 l i) hb hnext (l.take i) (by rw [List.length_take]; omega) (l.take i).length 0 (by omega) (by omega)
    try dsimp only at hn
    refine ⟨K + 1, fun k hk => ?_⟩
    try dsimp only
    obtain ⟨k, rfl⟩ : ∃ m, k = m + 1 := ⟨k - 1, by omega⟩
    simp only [spec_GoodGrammar.l1]; rw [if_neg (by omega), if_pos (by omega), if_pos (by omega), List.drop_of_length_le (by omega)]
    simp only [Option.bind_some, Int.toNat_natCast]
    simpa using hn k (by omega)
  | succ d ih =>
    intro j h1 hd
    obtain ⟨K, hi⟩ := ih (j + 1) (by omega) (by omega)
    try dsimp only at hi
    refine ⟨K + 2, fun k hk => ?_⟩
    try dsimp only
    obtain ⟨k, rfl⟩ : ∃ m, k = m + 1 := ⟨k - 1, by omega⟩
    simp only [spec_GoodGrammar.l1]
    rw [if_pos (by omega), if_pos (by omega), if_pos (by omega), spec_l1Symbol_eq]
    simp only [Option.bind_some]
    have ea : (rd_T87 l i).f1.drop j = rd (rd_T87 l i).f1 j :: (rd_T87 l i).f1.drop (j + 1) := getD_drop _ j 0 (by omega)
    rw [ea, List.any_cons]
    cases hq : symB n t (rd (rd_T87 l i).f1 j) with
    | false => simp
    | true =>
      rw [if_pos rfl, show wrap64 ((j : Int) + 1) = ((j + 1 : Nat) : Int) by unfold wrap64; omega]
      simpa using hi k (by omega)
def goodD (nons toks : Int) (l : List S87) : Nat → Bool
  | 0 => true
  | d + 1 => (okR nons toks (rd_T87 l (l.length - (d + 1) : Nat)) && !((l.take (l.length - (d + 1))).any fun o => sameR o (rd_T87 l (l.length - (d + 1) : Nat)))) && goodD nons toks l d
theorem goodD_rules (n t : Int) (l : List S87) (d : Nat) : ∀ i, i + d = l.length → rulesB n t l l.length = (rulesB n t l i && goodD n t l d) := by
  induction d with
  | zero =>
    intro i h
    rw [show i = l.length by omega]
    simp [goodD]
  | succ d ih =>
    intro i h
    rw [ih (i + 1) (by omega)]
    have e : l.length - (d + 1) = i := by omega
    simp only [goodD, rulesB, e]
    rw [Bool.and_assoc]
theorem good_l0 (l : List S87) (hs : smallI l) (n t : Int) (d : Nat) : ∀ i, i ≤ l.length → l.length - i = d →
    Ev (fun k => spec_GoodGrammar.l0 k l l.length i n t l) (goodD n t l d) := by
  have hb0 := hs.1
  induction d with
  | zero =>
    intro i h1 hd
    refine ⟨1, fun k hk => ?_⟩
    try dsimp only
    obtain ⟨k, rfl⟩ : ∃ m, k = m + 1 := ⟨k - 1, by omega⟩
    obtain rfl : i = l.length := by omega
    simp only [spec_GoodGrammar.l0]; rw [if_neg (by omega)]; rfl
  | succ d ih =>
    intro i h1 hd
    have hb := hs.2 i (by omega)
    have hw : wrap64 ((i : Int) + 1) = ((i + 1 : Nat) : Int) := by unfold wrap64; omega
    have e : l.length - (d + 1) = i := by omega
    have hn := ih (i + 1) (by omega) (by omega)
    obtain ⟨K, h⟩ := good_l1 l hs n t i (by omega) _ (by rw [hw]; exact hn) _ 0 (by omega) rfl
    try dsimp only at h
    refine ⟨K + 2, fun k hk => ?_⟩
    try dsimp only
    obtain ⟨k, rfl⟩ : ∃ m, k = m + 1 + 1 := ⟨k - 2, by omega⟩
    simp only [spec_GoodGrammar.l0, goodD, e]
    rw [if_pos (by omega), if_pos (by omega), if_pos (by omega), spec_l1In_eq]
    simp only [Option.bind_some]
    unfold okR
    by_cases c1 : 0 ≤ (rd_T87 l i).f0 ∧ (rd_T87 l i).f0 ≤ wrap64 (n - 1)
    · rw [decide_eq_true c1, if_pos rfl]
      by_cases c2 : (rd_T87 l i).f1.length ≤ 4
      · rw [decide_eq_false (show ¬ ((rd_T87 l i).f1.length : Int) > 4 by omega), decide_eq_true c2]
        simp only [spec_GoodGrammar.j2]
        rw [if_neg (by decide)]
        have h2 := h k (by omega)
        rw [show ((0 : Nat) : Int) = 0 from rfl, List.drop_zero] at h2
        rw [h2]
        cases (rd_T87 l i).f1.any (fun x => !symB n t x) <;> cases (l.take i).any (fun o => sameR o (rd_T87 l i)) <;> simp
      · rw [decide_eq_true (show ((rd_T87 l i).f1.length : Int) > 4 by omega), decide_eq_false c2]
        simp only [spec_GoodGrammar.j2]
        simp
    · rw [decide_eq_false c1, if_neg (by decide)]
      simp only [spec_GoodGrammar.j2]
      simp
theorem spec_GoodGrammar_ev (n t : Int) (l : List S87) (hs : smallI l) : Ev (fun k => spec_GoodGrammar.f k n t l) (goodG n t l) := by
  obtain ⟨K, h⟩ := good_l0 l hs n t l.length 0 (by omega) (by omega)
  try dsimp only at h
  have hd := goodD_rules n t l l.length 0 (by omega)
  have hb0 := hs.1
  refine ⟨K + 1, fun k hk => ?_⟩
  try dsimp only
  obtain ⟨k, rfl⟩ : ∃ m, k = m + 1 := ⟨k - 1, by omega⟩
  unfold spec_GoodGrammar.f goodG
  rw [spec_l1In_eq]; simp only [Option.bind_some]
  rw [hd]
  by_cases c1 : 1 ≤ n ∧ n ≤ 6
  · rw [decide_eq_true c1, if_pos rfl, spec_l1In_eq]; simp only [Option.bind_some]
    by_cases c2 : 1 ≤ t ∧ t ≤ 4
    · rw [decide_eq_true c2, if_pos rfl]
      by_cases c3 : l.length ≤ 16
      · rw [decide_eq_false (show ¬ (l.length : Int) > 16 by omega), decide_eq_true c3]
        simp only [spec_GoodGrammar.j0]
        rw [if_neg (by decide), show (0 : Int) = ((0 : Nat) : Int) from rfl, h k (by omega)]
        simp [rulesB]
      · rw [decide_eq_true (show (l.length : Int) > 16 by omega), decide_eq_false c3]
        simp only [spec_GoodGrammar.j0]
        simp
    · rw [decide_eq_false c2, if_neg (by decide)]
      simp only [spec_GoodGrammar.j0]
      simp
  · rw [decide_eq_false c1, if_neg (by decide)]
    simp only [spec_GoodGrammar.j0]
    simp
end Go.Proofs.Ytekoclhnfhbmeaa.P
namespace Go.Proofs.Ytekoclhnfhbmeaa.P
open Go.RowKit Go.Proofs.YtekoclhnfhbmeaaW.PrintWords
set_option linter.unusedVariables false
set_option linter.unusedSimpArgs false
theorem take2_of {β : Type} (l : List β) (k : Nat) (a b : β) (ha : l[k]? = some a) (hb : l[k + 1]? = some b) : (l.drop k).take 2 = [a, b] := by
  obtain ⟨h1, h2⟩ := List.getElem?_eq_some_iff.1 ha
  obtain ⟨h3, h4⟩ := List.getElem?_eq_some_iff.1 hb
  rw [List.drop_eq_getElem_cons h1, List.drop_eq_getElem_cons h3, h2, h4]
  rfl
theorem take_ne {β : Type} (l : List β) (q i : Nat) (a b : β) (hne : q ≠ i) : ((((l.set (i * 2) a).set (i * 2 + 1) b).drop (q * 2)).take 2) = ((l.drop (q * 2)).take 2) := by
  apply List.ext_getElem?
  intro r
  rw [List.getElem?_take, List.getElem?_take]
  by_cases hr : r < 2
  · rw [if_pos hr, if_pos hr, List.getElem?_drop, List.getElem?_drop, List.getElem?_set_ne (by omega), List.getElem?_set_ne (by omega)]
  · rw [if_neg hr, if_neg hr]
theorem R_two {α : Type} {d : Kd α} (hd : d.sz = 2) {W : World} {base : Nat} {ok : Nat → Prop} {e g n cap : Nat} {xs : List α} (h : d.R e W base ok (.slice (some ⟨g, 0, none⟩) n cap) xs) (j : Nat) (x : α) (hx : xs[j]? = some x) :
    ∃ a b, W.cell? ⟨g, j * 2, none⟩ = some a ∧ W.cell? ⟨g, j * 2 + 1, none⟩ = some b ∧ d.M W base (fun k => ok k ∧ some k ≠ some g) x [a, b] ∧ W.frozen? ⟨g, j * 2, none⟩ = false ∧ W.frozen? ⟨g, j * 2 + 1, none⟩ = false ∧ g < W.heap.size := by
  obtain ⟨hok, inner, ⟨hlen, hrow⟩, hr1, hr2⟩ := h
  rcases hrow with ⟨hv, _⟩ | ⟨g', cap', cur, hv, hbg, hh, hnc, hcm, hcs, ht⟩
  · cases hv
  injection hv with ha0 hn0 hc0
  injection ha0 with ha0
  injection ha0 with hg0
  subst hg0; subst hc0
  rw [hd] at hlen hcs ht hr1 hr2
  obtain ⟨hj, _⟩ := List.getElem?_eq_some_iff.1 hx
  have h0 : j * 2 + 1 < inner.length := by omega
  have e0 : ∀ q, q < inner.length → cur[q]? = inner[q]? := fun q hq => by
    have := congrArg (fun l => l[q]?) ht
    simp only [List.getElem?_take] at this
    rw [if_pos (by omega), Array.getElem?_toList] at this
    exact this
  refine ⟨inner[j * 2], inner[j * 2 + 1], ?_, ?_, ?_, blk_frozen hh _, blk_frozen hh _, blk_lt hh⟩
  · rw [blk_cell hh, e0 _ (by omega), List.getElem?_eq_getElem]
  · rw [blk_cell hh, e0 _ (by omega), List.getElem?_eq_getElem]
  · have := hr2 j x hx
    rw [take2_of inner (j * 2) _ _ (List.getElem?_eq_getElem (by omega)) (List.getElem?_eq_getElem (by omega))] at this
    exact this
theorem R_copy2 {α : Type} {d : Kd α} (hd : d.sz = 2) {W : World} {base : Nat} {ok : Nat → Prop} {e g n cap : Nat} {xs : List α} (h : d.R e W base ok (.slice (some ⟨g, 0, none⟩) n cap) xs) (i j : Nat) (hi : i < xs.length) (x : α) (hx : xs[j]? = some x)
    {a b : Value} (ha : W.cell? ⟨g, j * 2, none⟩ = some a) (hb : W.cell? ⟨g, j * 2 + 1, none⟩ = some b) :
    d.R e ((W.setCell ⟨g, i * 2, none⟩ a).setCell ⟨g, i * 2 + 1, none⟩ b) base ok (.slice (some ⟨g, 0, none⟩) n cap) (xs.set i x) := by
  obtain ⟨a', b', ha', hb', hM, _, _, _⟩ := R_two hd h j x hx
  obtain rfl : a = a' := Option.some.inj (ha.symm.trans ha')
  obtain rfl : b = b' := Option.some.inj (hb.symm.trans hb')
  clear ha' hb'
  obtain ⟨hok, inner, ⟨hlen, hrow⟩, hr1, hr2⟩ := h
  rcases hrow with ⟨hv, _⟩ | ⟨g', cap', cur, hv, hbg, hh, hnc, hcm, hcs, ht⟩
  · cases hv
  injection hv with ha0 hn0 hc0
  injection ha0 with ha0
  injection ha0 with hg0
  subst hg0; subst hc0
  have hfar : ∀ k, k ≠ g → ((W.setCell ⟨g, i * 2, none⟩ a).setCell ⟨g, i * 2 + 1, none⟩ b).heap[k]? = W.heap[k]? := fun k hk => (Below.heap_setCell _ ⟨g, i * 2 + 1, none⟩ b k hk).trans (Below.heap_setCell W ⟨g, i * 2, none⟩ a k hk)
  have hmv : ∀ y cs, d.M W base (fun k => ok k ∧ some k ≠ some g) y cs → d.M ((W.setCell ⟨g, i * 2, none⟩ a).setCell ⟨g, i * 2 + 1, none⟩ b) base (fun k => ok k ∧ some k ≠ some g) y cs := fun y cs hm => d.M_move (fun k hk => hfar k (fun e => hk.2 (by rw [e]))) hm
  have hb2 := blk_put (blk_put hh (i * 2) a rfl) (i * 2 + 1) b rfl
  refine ⟨hok, (inner.set (i * 2) a).set (i * 2 + 1) b, ⟨by rw [List.length_set, List.length_set, List.length_set]; exact hlen, .inr ⟨g, cap, _, by rw [List.length_set, hn0], hbg, hb2, by rw [List.length_set]; exact hnc, hcm, by simpa using hcs, ?_⟩⟩, by rw [List.length_set, List.length_set, List.length_set]; exact hr1, fun q p hq => ?_⟩
  · rw [List.length_set, Array.toList_setIfInBounds, Array.toList_setIfInBounds, List.take_set, List.take_set, ht]
  · rw [hd] at hr1 hr2 ⊢
    by_cases hqi : q = i
    · subst hqi
      rw [List.getElem?_set_self hi] at hq
      obtain rfl := Option.some.inj hq
      rw [take2_of _ (q * 2) a b (by rw [List.getElem?_set_ne (by omega), List.getElem?_set_self (by omega)]) (by rw [List.getElem?_set_self (by rw [List.length_set]; omega)])]
      exact hmv _ _ hM
    · rw [List.getElem?_set_ne (fun e => hqi e.symm)] at hq
      rw [take_ne _ _ _ _ _ hqi]
      exact hmv _ _ (hr2 q p hq)
theorem R_head {α : Type} {d : Kd α} {W : World} {base : Nat} {ok : Nat → Prop} {e g n cap : Nat} {xs : List α} (h : d.R e W base ok (.slice (some ⟨g, 0, none⟩) n cap) xs) (m : Nat) (hm : m ≤ xs.length) :
    d.R e W base ok (.slice (some ⟨g, 0, none⟩) m cap) (xs.take m) := by
  obtain ⟨hok, inner, ⟨hlen, hrow⟩, hr1, hr2⟩ := h
  rcases hrow with ⟨hv, _⟩ | ⟨g', cap', cur, hv, hbg, hh, hnc, hcm, hcs, ht⟩
  · cases hv
  injection hv with ha0 hn0 hc0
  injection ha0 with ha0
  injection ha0 with hg0
  subst hg0; subst hc0
  have hl : (xs.take m).length = m := by rw [List.length_take]; omega
  have hms : m * d.sz ≤ xs.length * d.sz := Nat.mul_le_mul_right _ hm
  refine ⟨hok, inner.take (m * d.sz), ⟨by rw [List.length_take, hl, hlen]; exact Nat.min_eq_left hms, .inr ⟨g, cap, cur, by rw [hl], hbg, hh, by rw [hl]; omega, hcm, hcs, by rw [hl, ← ht, List.take_take, Nat.min_eq_left hms]⟩⟩, by rw [List.length_take, hl, hr1]; exact Nat.min_eq_left hms, fun q p hq => ?_⟩
  obtain ⟨hq1, _⟩ := List.getElem?_eq_some_iff.1 hq
  rw [hl] at hq1
  rw [List.getElem?_take, if_pos hq1] at hq
  have hx := hr2 q p hq
  have hqs : q * d.sz + d.sz ≤ m * d.sz := by rw [← Nat.succ_mul]; exact Nat.mul_le_mul_right _ hq1
  rw [List.drop_take, List.take_take, Nat.min_eq_left (by omega)]
  exact hx
theorem R_tail {α : Type} {d : Kd α} {W : World} {base : Nat} {ok : Nat → Prop} {e g n cap : Nat} {xs : List α} (h : d.R e W base ok (.slice (some ⟨g, 0, none⟩) n cap) xs) (o : Nat) (ho : xs.length * d.sz ≤ o) (vs : List Value) (hvs : o + vs.length ≤ cap * d.sz) :
    d.R e (W.setCells g o vs) base ok (.slice (some ⟨g, 0, none⟩) n cap) xs := by
  obtain ⟨hok, inner, ⟨hlen, hrow⟩, hr1, hr2⟩ := h
  rcases hrow with ⟨hv, _⟩ | ⟨g', cap', cur, hv, hbg, hh, hnc, hcm, hcs, ht⟩
  · cases hv
  injection hv with ha0 hn0 hc0
  injection ha0 with ha0
  injection ha0 with hg0
  subst hg0; subst hc0
  obtain ⟨cur', h3, h4, h5⟩ := setCells_row vs o W cur hh (by omega)
  refine ⟨hok, inner, ⟨hlen, .inr ⟨g, cap, cur', by rw [← hn0], hbg, h3, hnc, hcm, by rw [h4, hcs], ?_⟩⟩, hr1, fun q p hq => d.M_move (fun k hk => setCells_far vs o k (fun e => hk.2 (by rw [e]; rfl))) (hr2 q p hq)⟩
  have hcl : cur.toList.length = cap * d.sz := by rw [← hcs]; rfl
  have h6 : (cur.toList.take o).length = o := by rw [List.length_take, hcl]; omega
  rw [h5, List.take_append_of_le_length (by rw [List.length_append, h6]; omega), List.take_append_of_le_length (by rw [h6]; exact ho), List.take_take, Nat.min_eq_left ho, ht]
theorem S_part {α : Type} {d : Kd α} {f : Nat → Nat} {W : World} {base : Nat} {ok : Nat → Prop} {e : Nat} {v : Value} {zs : List (α × Nat)} (h : (Kd.tag f d).R e W base ok v zs) (hd : (zs.map Prod.snd).Nodup) : Kd.S d e W base ok v (zs.map Prod.fst) := by
  obtain ⟨hok, inner, ho, hr1, hr2⟩ := h
  refine ⟨fun b => (zs.map Prod.snd).idxOf (f b), hok, inner, by rw [List.length_zipIdx, List.length_map]; exact ho, by rw [List.length_zipIdx, List.length_map]; exact hr1, fun q p hq => ?_⟩
  rw [List.getElem?_zipIdx, Nat.zero_add] at hq
  obtain ⟨x, hx, rfl⟩ := Option.map_eq_some_iff.1 hq
  rw [List.getElem?_map] at hx
  obtain ⟨z, hz, rfl⟩ := Option.map_eq_some_iff.1 hx
  refine d.M_mono (fun b hb => ⟨hb.1, ?_⟩) (hr2 q z hz)
  have h2 : f b = z.2 := hb.2
  show (zs.map Prod.snd).idxOf (f b) = q
  obtain ⟨hq1, hq2⟩ := List.getElem?_eq_some_iff.1 hz
  have h3 : (zs.map Prod.snd)[q]'(by simpa using hq1) = z.2 := by rw [List.getElem_map, hq2]
  rw [h2, ← h3]
  exact List.Nodup.idxOf_getElem hd q (by simpa using hq1)
def zc (n : Nat) : List Value := (Builtin.zeroCells #[.int .i64 0, .slice none 0 0] n).toList
theorem zc_len (n : Nat) : (zc n).length = n * 2 := by simp [zc, Builtin.zeroCells]
theorem clear_two {P : Program} (w : World) (t e : TypeId) (b o n c : Nat) (ht : P.underlying t = some (.slice e)) (hv : ∀ w, (zeroValue e).run P w = .ok (.agg #[.int .i64 0, .slice none 0 0]) w) (hn : 0 < n)
    (hc : ∀ j, j < n * 2 → (w.cell? ⟨b, o + j, none⟩).isSome = true) (hf : ∀ j, j < n * 2 → w.frozen? ⟨b, o + j, none⟩ = false) :
    ∀ ty, (Builtin.clear_ #[t] ty #[.slice (some ⟨b, o, none⟩) n c]).run P w = .ok (.tuple #[]) (w.setCells b o (zc n)) := by
  intro ty
  have hone : ∀ v ∈ zc n, v.oneCell' = true := fun v hv' => by
    simp only [zc, Builtin.zeroCells, Array.toList_map, List.mem_map] at hv'
    obtain ⟨i, _, rfl⟩ := hv'
    have h2 : (#[(.int .i64 0 : Value), .slice none 0 0]).size = 2 := rfl
    rw [h2]
    have : i % 2 = 0 ∨ i % 2 = 1 := by omega
    rcases this with h | h <;> rw [h] <;> rfl
  have hst := run_storeCells_cells (P := P) b o (zc n) 0 w (by rw [zc_len]; simpa using hc) (by rw [zc_len]; simpa using hf) hone
  simp only [Nat.add_zero] at hst
  obtain ⟨m, rfl⟩ : ∃ m, n = m + 1 := ⟨n - 1, by omega⟩
  have hcl : (Value.agg #[.int .i64 0, .slice none 0 0]).cells = #[.int .i64 0, .slice none 0 0] := by simp [Value.cells]
  simp only [zc] at hst
  simp [Builtin.clear_, run_underlying ht, hv, hcl, hst, zc]
end Go.Proofs.Ytekoclhnfhbmeaa.P
namespace Go.Proofs.Ytekoclhnfhbmeaa.P
open Go.RowKit Go.Proofs.YtekoclhnfhbmeaaW.PrintWords Go.Proofs.YtekoclhnfhbmeaaW.PrintLast Go.Proofs.YtekoclhnfhbmeaaW.PrintMore
set_option linter.unusedVariables false
set_option linter.unusedSimpArgs false
def PredRD (g : Nat) (lb : Array Value) (D : S87 → Prop) (p : S87 → Bool) (w : World) : Prop :=
  ∀ (W : World) (x : S87) (A : Option Addr) (c : Nat), Below w.heap.size w W → x.f1.length ≤ c → Kd.C (Kd.int .i64) W A x.f1.length x.f1 → D x →
    Calls Try.prog g (#[.agg #[.int .i64 x.f0, .slice A x.f1.length c]] ++ lb) W fun e w' => e = .returned (.bool (p x)) ∧ Below W.heap.size W w'
def PredRG (g : Nat) (lb : Array Value) (D : S87 → Prop) (p : S87 → Bool) (row : Option Nat) (w : World) : Prop :=
  ∀ (W : World) (x : S87) (A : Option Addr) (c : Nat), w.grownBy W row → x.f1.length ≤ c → Kd.C (Kd.int .i64) W A x.f1.length x.f1 → D x →
    Calls Try.prog g (#[.agg #[.int .i64 x.f0, .slice A x.f1.length c]] ++ lb) W fun e w' => e = .returned (.bool (p x)) ∧ Below W.heap.size W w'
theorem wsucc (k : Nat) (h : k < 9223372036854775807) : wrap64 ((k : Int) + 1) = ((k + 1 : Nat) : Int) := by unfold wrap64; omega
theorem grown_of_below {w W : World} (h : Below w.heap.size w W) (row : Option Nat) : w.grownBy W row := ⟨h.os, h.tape, h.output, h.size, fun k hk _ => h.block k hk⟩
theorem grown_step {w W V : World} {row : Option Nat} (h : w.grownBy W row) (k : Below W.heap.size W V) : w.grownBy V row := ⟨k.os.trans h.os, k.tape.trans h.tape, k.output.trans h.output, Nat.le_trans h.size k.size, fun i hi hn => (k.block i (Nat.lt_of_lt_of_le hi h.size)).trans (h.block i hi hn)⟩
theorem grown_set {w W : World} {g : Nat} (h : w.grownBy W (some g)) (j : Nat) (u : Value) : w.grownBy (W.setCell ⟨g, j, none⟩ u) (some g) :=
  ⟨h.os, h.tape, h.output, by simpa [World.setCell] using h.size, fun k hk hn => (Below.heap_setCell W ⟨g, j, none⟩ u k (fun e => hn (by rw [e]))).trans (h.block k hk hn)⟩
theorem grown_cells {w W : World} {g : Nat} (h : w.grownBy W (some g)) (o : Nat) (vs : List Value) : w.grownBy (W.setCells g o vs) (some g) := by
  obtain ⟨s1, s2, s3, s4⟩ := setCells_same g vs o W
  exact ⟨s1.trans h.os, s2.trans h.tape, s3.trans h.output, by rw [s4]; exact h.size, fun k hk hn => (setCells_far vs o k (fun e => hn (by rw [e]))).trans (h.block k hk hn)⟩
def DelI (p : S87 → Bool) (xs : List S87) (zs : List (S87 × Nat)) (i j : Nat) : Prop :=
  zs.length = xs.length ∧ i ≤ j ∧ j ≤ xs.length ∧ zs.take i = (xs.zipIdx.take j).filter (fun z => !p z.1) ∧ zs.drop j = xs.zipIdx.drop j
theorem delI_start {p : S87 → Bool} {xs : List S87} {k : Nat} (hk : k < xs.length) (h0 : ∀ j, j < k → p (xs.getD j z87) = false) (h1 : p (xs.getD k z87) = true) : DelI p xs xs.zipIdx k (k + 1) := by
  have hl : xs.zipIdx.length = xs.length := List.length_zipIdx
  refine ⟨hl, Nat.le_succ _, hk, ?_, rfl⟩
  have hg : ∀ j, (hj : j < xs.length) → xs.getD j z87 = xs[j] := fun j hj => by rw [List.getD_eq_getElem?_getD, List.getElem?_eq_getElem hj]; rfl
  rw [List.take_add_one, List.getElem?_eq_getElem (by omega), List.filter_append]
  have e1 : (Option.toList (some xs.zipIdx[k])).filter (fun z => !p z.1) = [] := by
    rw [hg k hk] at h1
    simp [h1]
  rw [e1, List.append_nil, List.filter_eq_self.2]
  intro z hz
  obtain ⟨j, hj, rfl⟩ := List.getElem_of_mem hz
  rw [List.length_take] at hj
  have := h0 j (by omega)
  rw [hg j (by omega)] at this
  simp [this]
theorem delI_skip {p : S87 → Bool} {xs : List S87} {zs : List (S87 × Nat)} {i j : Nat} (h : DelI p xs zs i j) (hj : j < xs.length) (hp : p (rd_T87 xs j) = true) : DelI p xs zs i (j + 1) := by
  obtain ⟨h1, h2, h3, h4, h5⟩ := h
  have hl : xs.zipIdx.length = xs.length := List.length_zipIdx
  have hg : rd_T87 xs j = xs[j] := by unfold rd_T87; rw [Int.toNat_natCast, List.getD_eq_getElem?_getD, List.getElem?_eq_getElem hj]; rfl
  refine ⟨h1, by omega, hj, ?_, by rw [← List.drop_drop, h5, List.drop_drop]⟩
  rw [List.take_add_one, List.getElem?_eq_getElem (by omega), List.filter_append, h4]
  rw [hg] at hp
  simp [hp]
theorem delI_at {p : S87 → Bool} {xs : List S87} {zs : List (S87 × Nat)} {i j : Nat} (h : DelI p xs zs i j) (hj : j < xs.length) : zs[j]? = some (rd_T87 xs j, j) := by
  obtain ⟨h1, h2, h3, h4, h5⟩ := h
  have hg : rd_T87 xs j = xs[j] := by unfold rd_T87; rw [Int.toNat_natCast, List.getD_eq_getElem?_getD, List.getElem?_eq_getElem hj]; rfl
  have := congrArg (fun l => l[0]?) h5
  simp only [List.getElem?_drop, Nat.add_zero] at this
  rw [this, List.getElem?_zipIdx, List.getElem?_eq_getElem hj, hg, Nat.zero_add]; rfl
theorem delI_keep {p : S87 → Bool} {xs : List S87} {zs : List (S87 × Nat)} {i j : Nat} (h : DelI p xs zs i j) (hj : j < xs.length) (hp : p (rd_T87 xs j) = false) : DelI p xs (zs.set i (rd_T87 xs j, j)) (i + 1) (j + 1) := by
  obtain ⟨h1, h2, h3, h4, h5⟩ := h
  have hl : xs.zipIdx.length = xs.length := List.length_zipIdx
  have hg : rd_T87 xs j = xs[j] := by unfold rd_T87; rw [Int.toNat_natCast, List.getD_eq_getElem?_getD, List.getElem?_eq_getElem hj]; rfl
  refine ⟨by rw [List.length_set]; exact h1, by omega, hj, ?_, ?_⟩
  · rw [List.take_add_one, List.take_set, List.set_eq_of_length_le (by rw [List.length_take]; omega), List.getElem?_set_self (by omega), List.take_add_one, List.getElem?_eq_getElem (by omega), List.filter_append, h4]
    rw [hg] at hp ⊢
    simp [hp]
  · rw [List.drop_set_of_lt (by omega), ← List.drop_drop, h5, List.drop_drop]
theorem delI_end {p : S87 → Bool} {xs : List S87} {zs : List (S87 × Nat)} {i j : Nat} (h : DelI p xs zs i j) (hj : ¬ j < xs.length) : (zs.take i).map Prod.fst = xs.filter (fun x => !p x) ∧ ((zs.take i).map Prod.snd).Nodup := by
  obtain ⟨h1, h2, h3, h4, h5⟩ := h
  rw [h4, List.take_of_length_le (by rw [List.length_zipIdx]; omega)]
  refine ⟨?_, ?_⟩
  · rw [show (fun z : S87 × Nat => !p z.1) = ((fun x => !p x) ∘ Prod.fst) from rfl, ← List.filter_map, List.zipIdx_map_fst]
  · refine List.Nodup.sublist (List.Sublist.map _ (List.filter_sublist)) ?_
    rw [List.zipIdx_map_snd]
    exact List.nodup_range'
set_option maxHeartbeats 2000000 in
set_option maxRecDepth 100000 in
theorem indexFunc_ruleD (g : Nat) (lb : Array Value) (eg : ∀ args w, (callFunc g args).run Try.prog w = .ok (.enter g args) w) (p : S87 → Bool) (A : Option Addr) (c : Nat) (l : List S87) (w : World)
    (hr : Kd.C k87 w A l.length l) (hc : l.length ≤ c) (D : S87 → Prop) (hD : ∀ j : Nat, j < l.length → D (rd_T87 l j)) (hp : PredRD g lb D p w) :
    Calls Try.prog 122 #[.slice A l.length c, .func (.func g) #[] lb] w fun e w' => e = .returned (.int .i64 (idxF p l)) ∧ Below w.heap.size w w' := by
  have hmax : l.length ≤ 9223372036854775807 := hr.2.1
  go_enter Try.func122, Try.ntmps122
  go_wp2
  go_loopg [5, 8] l.length (fun gg _ s8 wr => ∃ kk : Nat, kk ≤ l.length ∧ l.length - kk ≤ gg ∧ s8 = .int .i64 kk ∧ Aside0 (Below w.heap.size w wr) ∧ Aside0 (∀ j, j < kk → p (l.getD j z87) = false))
  case atStart => exact ⟨0, Nat.zero_le _, by omega, rfl, ⟨Below.refl _ w⟩, ⟨fun j hj => absurd hj (Nat.not_lt_zero _)⟩⟩
  case round =>
    obtain ⟨kk, hkk, hg, rfl, BW, A0⟩ := hrel
    by_cases hlt : kk < l.length
    · obtain ⟨ad, A1, c1, e, hx0, hx1, hl1, hi1⟩ := at_T87 (Kd.C_below hr BW.out) (kk : Int) (by omega) (by omega)
      subst e
      have hx2 : wr.cell? (ad.add (kk * 2)) = some (.int .i64 (rd_T87 l kk).f0) := by simpa using hx0
      have hx3 : wr.cell? ⟨(ad.add (kk * 2)).block, (ad.add (kk * 2)).off + 1, none⟩ = some (.slice A1 (rd_T87 l kk).f1.length c1) := by simpa using hx1
      have hcall := hp wr (rd_T87 l kk) A1 c1 BW.out hl1 hi1 (hD kk hlt)
      have hB := Aside0.mk (show l.getD kk z87 = rd_T87 l kk from rfl)
      have L := Aside0.mk hlt
      have hd : decide (kk < l.length) = true := decide_eq_true hlt
      clear hx0 hx1 hp hr hl1 hi1 hD
      generalize rd_T87 l kk = y at hcall hB hx2 hx3
      cases hq : p y with
      | true =>
        rw [hq] at hcall
        have Q := Aside0.mk hq
        clear hq
        go_wp2_with fail
        refine hcall.mono ?_
        rintro e w' ⟨rfl, hb'⟩
        clear hcall hd eg hlt
        go_wp2
        go_ret
        refine ⟨?_, below_step BW.out hb'⟩
        rw [idxF_hit p l z87 kk L.out (by rw [hB.out]; exact Q.out) A0.out]; rfl
      | false =>
        rw [hq] at hcall
        have Q := Aside0.mk hq
        clear hq
        go_wp2_with fail
        refine hcall.mono ?_
        rintro e w' ⟨rfl, hb'⟩
        clear hcall hd eg
        go_wp2
        go_roundg (l.length - (kk + 1))
        case measure => have := L.out; omega
        case rel =>
          refine ⟨kk + 1, by have := L.out; omega, by omega, by go_num, ⟨below_step BW.out hb'⟩, ⟨fun j hj => ?_⟩⟩
          by_cases ej : j = kk
          · subst ej
            rw [hB.out]; exact Q.out
          · exact A0.out j (by omega)
    · have hd : decide (kk < l.length) = false := decide_eq_false hlt
      have L := Aside0.mk (show kk = l.length by omega)
      clear hp hr hlt hD
      go_wp2
      go_ret
      refine ⟨?_, BW.out⟩
      rw [idxF_miss p l z87 (by have := A0.out; rw [L.out] at this; exact this)]; rfl
set_option maxHeartbeats 4000000 in
set_option maxRecDepth 100000 in
theorem delete_calls (g : Nat) (lb : Array Value) (eg : ∀ args w, (callFunc g args).run Try.prog w = .ok (.enter g args) w) (p : S87 → Bool) (A : Option Addr) (c n : Nat) (l : List S87) (w : World) (base : Nat) (ok : Nat → Prop)
    (hS : Kd.S k87 87 w base ok (.slice A n c) l) (D : S87 → Prop) (hD : ∀ j : Nat, j < l.length → D (rd_T87 l j)) (hp : PredRG g lb D p (Value.slice A n c).ownBlock w) :
    Calls Try.prog 99 #[.slice A n c, .func (.func g) #[] lb] w fun e w' => (∃ v, e = .returned v ∧ Kd.S k87 87 w' base ok v (l.filter fun x => !p x)) ∧ w.grownBy w' (Value.slice A n c).ownBlock := by
  obtain ⟨hn, hcap, hC⟩ := Kd.S_reads' hS
  subst hn
  have hml : l.length ≤ 9223372036854775807 := hC.2.1
  have IX := indexFunc_ruleD g lb eg p A c l w hC hcap D hD (fun W x A2 c2 hW h1 h2 h3 => hp W x A2 c2 (grown_of_below hW _) h1 h2 h3)
  by_cases hany : l.any p = true
  · have hk : l.findIdx p < l.length := List.findIdx_lt_length_of_exists (by simpa using hany)
    have e1 : idxF p l = ((l.findIdx p : Nat) : Int) := by unfold idxF; rw [if_pos hany]
    have hg : ∀ j, (hj : j < l.length) → l.getD j z87 = l[j] := fun j hj => by rw [List.getD_eq_getElem?_getD, List.getElem?_eq_getElem hj]; rfl
    have DI := Aside0.mk (delI_start (p := p) (xs := l) hk (fun j hj => by rw [hg j (by omega)]; exact List.not_of_lt_findIdx hj) (by rw [hg _ hk]; exact List.findIdx_getElem))
    rw [e1] at IX
    generalize l.findIdx p = k0 at IX DI hk
    obtain ⟨ga, cap, hv, hbg, hga, _⟩ := Kd.S_form hS (by omega)
    injection hv with hA _ hc0
    subst hc0
    subst hA
    obtain ⟨ad, had⟩ : ∃ ad : Addr, ad = ⟨ga, 0, none⟩ := ⟨_, rfl⟩
    have AD := Aside0.mk had
    have hrow : (Value.slice (some (⟨ga, 0, none⟩ : Addr)) l.length c).ownBlock = some ga := rfl
    rw [hrow] at hp ⊢
    have HP := Aside0.mk hp
    obtain ⟨f, hR⟩ := hS
    have HR := Aside0.mk hR
    have HD := Aside0.mk hD
    have HCAP := Aside0.mk hcap
    rw [← had] at IX ⊢
    have hd0 : decide ((k0 : Int) = -1) = false := decide_eq_false (by omega)
    have hd1 : ((k0 : Int) == -1) = false := by simp
    have HK := Aside0.mk hk
    clear hR hD hcap had hp hrow hg e1 hany hk hga hbg hC
    go_enter Try.func99, Try.ntmps99
    go_wp2_with (go_at_call 122; (with_reducible refine IX.mono ?_); rintro e w1 ⟨rfl, hb_⟩; have HG := Aside0.mk (grown_of_below hb_ (some ga)); have HR1 := Aside0.mk (Kd.R_below HR.out hb_); clear HR IX hb_)
    clear hd0 hd1
    go_loopg [5, 6] l.length (fun gg s5 s6 wr => ∃ (ii kk : Nat) (zs : List (S87 × Nat)), kk ≤ l.length ∧ l.length - kk ≤ gg ∧ s5 = .int .i64 ii ∧ s6 = .int .i64 kk ∧ Aside0 (DelI p l zs ii kk) ∧ Aside0 (w.grownBy wr (some ga)) ∧ Aside0 ((Kd.tag f k87).R 87 wr base ok (.slice (some ⟨ga, 0, none⟩) l.length c) zs))
    case atStart => exact ⟨k0, k0 + 1, _, HK.out, by omega, rfl, congrArg (Value.int .i64) (wsucc k0 (by have := HK.out; omega)), DI, HG, HR1⟩
    case round =>
      clear HG HR1 DI
      obtain ⟨ii, kk, zs, hkk, hg, rfl, rfl, DI, HG, HR⟩ := hrel
      have hii : ii ≤ kk := DI.out.2.1
      by_cases hlt : kk < l.length
      · have hd : decide (kk < l.length) = true := decide_eq_true hlt
        have hzl : zs.length = l.length := DI.out.1
        have hz := delI_at DI.out hlt
        obtain ⟨a0, a1, hx0, hx1, hM, _, _, _⟩ := R_two rfl HR.out kk _ hz
        obtain ⟨v1, hcs, hRr⟩ := k87_openM hM
        injection hcs with ea0 hcs
        injection hcs with ea1 _
        obtain ⟨A1, c1, e1, hl1, hi1⟩ := Kd.R_reads hRr
        rw [ea0] at hx0
        rw [ea1, e1] at hx1
        clear hM hRr ea0 ea1 e1
        have hx2 : wr.cell? (ad.add (kk * 2)) = some (.int .i64 (rd_T87 l kk).f0) := by rw [AD.out, add_at, Nat.zero_add]; exact hx0
        have hx3 : wr.cell? ⟨(ad.add (kk * 2)).block, (ad.add (kk * 2)).off + 1, none⟩ = some (.slice A1 (rd_T87 l kk).f1.length c1) := by rw [AD.out, add_at, Nat.zero_add]; exact hx1
        have HX0 := Aside0.mk hx0
        have HX1 := Aside0.mk hx1
        have hcall := fun (V : World) (hV : Below wr.heap.size wr V) => HP.out V (rd_T87 l kk) A1 c1 (grown_step HG.out hV) hl1 (Kd.C_below hi1 hV) (HD.out kk hlt)
        have HZ := Aside0.mk hz
        have SK := fun h => Aside0.mk (delI_skip DI.out hlt h)
        have KP := fun h => Aside0.mk (delI_keep DI.out hlt h)
        have L := Aside0.mk hlt
        have HB := Aside0.mk (Below.refl wr.heap.size wr)
        clear hx0 hx1 hl1 hi1 hz DI
        generalize rd_T87 l kk = y at hcall hx2 hx3 HX0 HX1 HZ SK KP
        go_upto_region 8 with (first | ((with_reducible refine gate_dst (N := 7) rfl ?_); refine box_event ?hg (N := 7) ?hd (cs := #[.int .i64 0, .slice none 0 0]) (t := 87) ?hr ?_; (case hd => rfl); (case hg => rfl); (case hr => first | (go_simp; done) | (go_simp; rfl)); intro gc hg_ w5 hbox_ hb_; have GE_gc := Aside0.mk (show wr.heap.size ≤ gc by rw [hg_]; exact below_size (by repeat (first | (with_reducible first | exact HB.out | apply below_alloc | apply pw_below_drewN | apply below_drew1) | exact HB.out))); have n0_ := Aside0.mk (below_step (by repeat (first | (with_reducible first | exact HB.out | apply below_alloc | apply pw_below_drewN | apply below_drew1) | exact HB.out)) hb_); clear HB; have HB := n0_; clear n0_; have B_gc := Aside0.mk hbox_; clear hb_ hbox_ hg_; have x_gc_0 : w5.cell? ⟨gc, 0, none⟩ = some (.int .i64 0) := (blk_cell B_gc.out 0).trans rfl; have f_gc_0 := blk_frozen B_gc.out 0; have x_gc_1 : w5.cell? ⟨gc, 1, none⟩ = some (.slice none 0 0) := (blk_cell B_gc.out 1).trans rfl; have f_gc_1 := blk_frozen B_gc.out 1))
        obtain ⟨w6, hw_⟩ : ∃ w_ : World, w_ = ((w5.setCell ⟨gc, 0, none⟩ (.int .i64 y.f0)).setCell ⟨gc, 1, none⟩ (.slice A1 y.f1.length c1)) := ⟨_, rfl⟩
        rw [← hw_]
        clear x_gc_0 f_gc_0 x_gc_1 f_gc_1
        have m0_ := Aside0.mk (show Below wr.heap.size wr w6 by rw [hw_]; exact (below_set (below_set HB.out GE_gc.out) GE_gc.out))
        have m_gc := Aside0.mk (show w6.heap[gc]? = some (.cells #[.int .i64 y.f0, .slice A1 y.f1.length c1] 87 (0, 0)) by rw [hw_]; exact (blk_put (cs := #[.int .i64 y.f0, .slice none 0 0]) (blk_put (cs := #[.int .i64 0, .slice none 0 0]) B_gc.out 0 _ rfl) 1 _ rfl))
        clear HB hw_ B_gc
        have HB := m0_
        have B_gc := m_gc
        clear m0_ m_gc
        have x_gc_0 : w6.cell? ⟨gc, 0, none⟩ = some (.int .i64 y.f0) := (blk_cell B_gc.out 0).trans rfl
        have x_gc_1 : w6.cell? ⟨gc, 1, none⟩ = some (.slice A1 y.f1.length c1) := (blk_cell B_gc.out 1).trans rfl
        clear hx2 hx3
        replace hcall := hcall w6 HB.out
        cases hq : p y with
        | true =>
          have DI := SK hq
          rw [hq] at hcall
          clear hq SK KP
          go_wp2_with fail
          refine hcall.mono ?_
          rintro e w7 ⟨rfl, hb_⟩
          clear x_gc_0 x_gc_1
          have n0_ := Aside0.mk (below_step (by repeat (first | (with_reducible first | exact HB.out | apply below_alloc | apply pw_below_drewN | apply below_drew1) | exact HB.out)) hb_)
          have n_gc := Aside0.mk (blk_below (by (with_reducible repeat (first | refine blk_drewN ?_ _ | refine blk_drew ?_ | refine blk_alloc ?_ _)); exact B_gc.out) hb_)
          clear HB B_gc
          have HB := n0_
          have B_gc := n_gc
          clear n0_ n_gc
          clear hb_ hcall hd
          go_wp2
          go_roundg (l.length - (kk + 1))
          case measure => have := L.out; omega
          case rel => exact ⟨ii, kk + 1, zs, by have := L.out; omega, by omega, rfl, by go_num, DI, ⟨grown_step HG.out HB.out⟩, ⟨Kd.R_below HR.out HB.out⟩⟩
        | false =>
          have DI := KP hq
          rw [hq] at hcall
          clear hq SK KP
          go_wp2_with fail
          refine hcall.mono ?_
          rintro e w7 ⟨rfl, hb_⟩
          clear x_gc_0 x_gc_1
          have n0_ := Aside0.mk (below_step (by repeat (first | (with_reducible first | exact HB.out | apply below_alloc | apply pw_below_drewN | apply below_drew1) | exact HB.out)) hb_)
          have n_gc := Aside0.mk (blk_below (by (with_reducible repeat (first | refine blk_drewN ?_ _ | refine blk_drew ?_ | refine blk_alloc ?_ _)); exact B_gc.out) hb_)
          clear HB B_gc
          have HB := n0_
          have B_gc := n_gc
          clear n0_ n_gc
          clear hb_ hcall hd
          have x_gc_0 : w7.cell? ⟨gc, 0, none⟩ = some (.int .i64 y.f0) := (blk_cell B_gc.out 0).trans rfl
          have x_gc_1 : w7.cell? ⟨gc, 1, none⟩ = some (.slice A1 y.f1.length c1) := (blk_cell B_gc.out 1).trans rfl
          have hiz : ii < l.length := by omega
          have HR7 := Aside0.mk (Kd.R_below HR.out HB.out)
          have HG7 := Aside0.mk (grown_step HG.out HB.out)
          obtain ⟨q0, q1, hq0, hq1, _, hf0, hf1, _⟩ := R_two rfl HR7.out ii _ (List.getElem?_eq_getElem (show ii < zs.length by omega))
          have hy0 : w7.cell? (ad.add (ii * 2)) = some q0 := by rw [AD.out, add_at, Nat.zero_add]; exact hq0
          have hy1 : w7.cell? ⟨(ad.add (ii * 2)).block, (ad.add (ii * 2)).off + 1, none⟩ = some q1 := by rw [AD.out, add_at, Nat.zero_add]; exact hq1
          have hz0 : w7.frozen? (ad.add (ii * 2)) = false := by rw [AD.out, add_at, Nat.zero_add]; exact hf0
          have hz1 : w7.frozen? ⟨(ad.add (ii * 2)).block, (ad.add (ii * 2)).off + 1, none⟩ = false := by rw [AD.out, add_at, Nat.zero_add]; exact hf1
          have hy2 : (w7.setCell (ad.add (ii * 2)) (.int .i64 y.f0)).cell? ⟨(ad.add (ii * 2)).block, (ad.add (ii * 2)).off + 1, none⟩ = some q1 := (World.cell?_setCell_other w7 _ _ _ (fun e => by have := congrArg Addr.off e; simp at this)).trans hy1
          have HI := Aside0.mk (show ii < zs.length by omega)
          have HC := Aside0.mk (R_copy2 rfl HR7.out ii kk HI.out _ HZ.out ((HB.out.cell (World.block_lt_of_cell? wr _ HX0.out)).trans HX0.out) ((HB.out.cell (World.block_lt_of_cell? wr _ HX1.out)).trans HX1.out))
          have HGC := Aside0.mk (grown_set (grown_set HG7.out (ii * 2) (.int .i64 y.f0)) (ii * 2 + 1) (.slice A1 y.f1.length c1))
          have EQ := Aside0.mk (show (w7.setCell (ad.add (ii * 2)) (.int .i64 y.f0)).setCell ⟨(ad.add (ii * 2)).block, (ad.add (ii * 2)).off + 1, none⟩ (.slice A1 y.f1.length c1) = (w7.setCell ⟨ga, ii * 2, none⟩ (.int .i64 y.f0)).setCell ⟨ga, ii * 2 + 1, none⟩ (.slice A1 y.f1.length c1) by rw [AD.out, add_at, Nat.zero_add])
          clear hq0 hq1 hf0 hf1 HR7 HG7
          go_wp2
          rw [EQ.out]
          go_roundg (l.length - (kk + 1))
          case measure => have := L.out; omega
          case rel => exact ⟨ii + 1, kk + 1, _, by have := L.out; omega, by omega, by go_num, by go_num, DI, HGC, HC⟩
      · have hd : decide (kk < l.length) = false := decide_eq_false hlt
        obtain ⟨E1, E2⟩ := delI_end DI.out hlt
        have hin : ii ≤ l.length := by omega
        have hzl : zs.length = l.length := DI.out.1
        have hcap := HCAP.out
        have HH := R_head HR.out ii (by omega)
        obtain ⟨i0, hi0, hz0, hsz0, _⟩ := info_parts info87
        have hcut0 := cut_from (P := Try.prog) 26 87 .i64 Try.underlying26 hi0 2 hsz0 (some ad) l.length c ii (by omega) (by omega)
        have hcut1 := cut_to (P := Try.prog) 26 87 .i64 Try.underlying26 hi0 (some ad) l.length c ii (by omega) (by omega) hcap
        rw [Int.toNat_natCast] at hcut0 hcut1
        obtain ⟨A9, hA9⟩ : ∃ A9 : Option Addr, A9 = (if c = ii then some ad else (some ad).map (·.add (ii * 2))) := ⟨_, rfl⟩
        have hcut : ∀ W : World, (Instr.slice 26 (.slice (some ad) l.length c) (some (.int .i64 ii)) none none).run Try.prog W = .ok (.slice A9 (l.length - ii) (c - ii)) W := fun W => by rw [hcut0 W, hA9]
        have hclr : ∃ V : World, (∀ ty, (Builtin.clear_ #[26] ty #[.slice A9 (l.length - ii) (c - ii)]).run Try.prog wr = .ok (.tuple #[]) V) ∧ w.grownBy V (some ga) ∧ (Kd.tag f k87).R 87 V base ok (.slice (some ⟨ga, 0, none⟩) ii c) (zs.take ii) := by
          by_cases h0 : l.length - ii = 0
          · exact ⟨wr, fun ty => by rw [h0]; cases A9 <;> simp [Builtin.clear_], HG.out, HH⟩
          · have hA9' : A9 = some ⟨ga, ii * 2, none⟩ := by rw [hA9, if_neg (by omega), AD.out, Option.map_some, add_at, Nat.zero_add]
            subst hA9'
            obtain ⟨hok, inner, ⟨hlen, hrow⟩, hr1, hr2⟩ := HR.out
            rcases hrow with ⟨hv, _⟩ | ⟨g', cap', cur, hv, hbg, hh, hnc, hcm, hcs, ht⟩
            · cases hv
            injection hv with ha0 hn0 hc0
            injection ha0 with ha0
            injection ha0 with hg0
            subst hg0; subst hc0
            have hsz2 : (Kd.tag f k87).sz = 2 := rfl
            have hzc : ∀ W : World, (zeroValue 87).run Try.prog W = .ok (.agg #[.int .i64 0, .slice none 0 0]) W := fun W => by simp [zeroValue, typeInfo, hi0, hz0]
            have hst := clear_two (P := Try.prog) wr 26 87 ga (ii * 2) (l.length - ii) (c - ii) Try.underlying26 hzc (by omega) (fun j hj => by rw [blk_cell hh]; simp; rw [hcs, hsz2]; omega) (fun j hj => blk_frozen hh _)
            exact ⟨_, hst, grown_cells HG.out _ _, R_tail HH (ii * 2) (by rw [List.length_take, hsz2]; omega) _ (by rw [zc_len, hsz2]; omega)⟩
        obtain ⟨V, hclr, hGV, hRV⟩ := hclr
        have FIN := Aside0.mk (show Kd.S k87 87 V base ok (.slice (some ad) ii c) (l.filter fun x => !p x) by rw [AD.out, ← E1]; exact S_part hRV E2)
        have HV := Aside0.mk hGV
        clear hRV hGV E1 E2 hcut0 hA9 HH HR HG DI hlt hin hzl hcap hi0 hz0 hsz0
        go_wp2
        go_ret
        exact ⟨⟨_, rfl, FIN.out⟩, HV.out⟩
  · have e1 : idxF p l = -1 := by unfold idxF; rw [if_neg hany]
    have e2 : l.filter (fun x => !p x) = l := List.filter_eq_self.2 (fun x hx => by have : p x = false := eq_false_of_ne_true (fun h => hany (List.any_eq_true.2 ⟨x, hx, h⟩)); rw [this]; rfl)
    rw [e1] at IX
    rw [e2]
    have HS := Aside0.mk hS
    clear hS hp hD hany e1 e2 hcap hC
    go_enter Try.func99, Try.ntmps99
    go_wp2_with (go_at_call 122; (with_reducible refine IX.mono ?_); rintro e w1 ⟨rfl, hb_⟩; have HB := Aside0.mk hb_; clear IX hb_)
    go_ret
    exact ⟨⟨_, rfl, Kd.S_below HS.out HB.out⟩, grown_of_below HB.out _⟩
end Go.Proofs.Ytekoclhnfhbmeaa.P
namespace Go.Proofs.Ytekoclhnfhbmeaa.P
open Go.RowKit Go.Proofs.YtekoclhnfhbmeaaW.PrintWords Go.Proofs.YtekoclhnfhbmeaaW.PrintLast Go.Proofs.YtekoclhnfhbmeaaW.PrintMore
set_option linter.unusedVariables false
set_option linter.unusedSimpArgs false
structure Later (w : World) where
  v : World
  below : Below w.heap.size w v
instance (w : World) : Inhabited (Later w) := ⟨⟨w, Below.refl _ w⟩⟩
end Go.Proofs.Ytekoclhnfhbmeaa.P
namespace Go.Proofs.Ytekoclhnfhbmeaa.P
open Go.RowKit Go.Proofs.YtekoclhnfhbmeaaW.PrintWords Go.Proofs.YtekoclhnfhbmeaaW.PrintLast Go.Proofs.YtekoclhnfhbmeaaW.PrintMore
set_option linter.unusedVariables false
set_option linter.unusedSimpArgs false
def stepC (mk : S87 → List Bool → Bool) (x : S87) (q : List Bool × Bool) : List Bool × Bool := if (!q.1.getD x.f0.toNat false && mk x q.1) = true then (q.1.set x.f0.toNat true, true) else q
def passC (mk : S87 → List Bool → Bool) (l : List S87) (q : List Bool × Bool) : List Bool × Bool := l.foldl (fun q x => stepC mk x q) q
def closeN (mk : S87 → List Bool → Bool) (l : List S87) : Nat → List Bool → List Bool
  | 0, s => s
  | n + 1, s => if (passC mk l (s, false)).2 = true then closeN mk l n (passC mk l (s, false)).1 else (passC mk l (s, false)).1
def closedF (mk : S87 → List Bool → Bool) (l : List S87) : List Bool := closeN mk l 7 [false, false, false, false, false, false]
def okR6 (x : S87) : Prop := (0 ≤ x.f0 ∧ x.f0 < 6) ∧ ∀ j : Nat, j < x.f1.length → rd x.f1 j < 6
def PredC (g : Nat) (lb : Array Value) (mk : S87 → List Bool → Bool) (w : World) : Prop :=
  ∀ (W : World) (x : S87) (A : Option Addr) (c : Nat) (b0 b1 b2 b3 b4 b5 : Bool), Below w.heap.size w W → x.f1.length ≤ c → Kd.C (Kd.int .i64) W A x.f1.length x.f1 → okR6 x →
    Calls Try.prog g (#[.agg #[.int .i64 x.f0, .slice A x.f1.length c], .agg #[.bool b0, .bool b1, .bool b2, .bool b3, .bool b4, .bool b5]] ++ lb) W fun e w' => e = .returned (.bool (mk x [b0, b1, b2, b3, b4, b5])) ∧ Below W.heap.size W w'
theorem set6_len (s : List Bool) (i : Nat) (h : s.length = 6) : (s.set i true).length = 6 := by rw [List.length_set]; exact h
theorem six (s : List Bool) (h : s.length = 6) : ∃ b0 b1 b2 b3 b4 b5, s = [b0, b1, b2, b3, b4, b5] := by
  match s, h with
  | [b0, b1, b2, b3, b4, b5], _ => exact ⟨b0, b1, b2, b3, b4, b5, rfl⟩
def cntF (s : List Bool) : Nat := s.count false
theorem cntF_set (s : List Bool) (i : Nat) (hi : i < s.length) (h : s.getD i false = false) : cntF (s.set i true) + 1 = cntF s := by
  unfold cntF
  induction s generalizing i with
  | nil => simp at hi
  | cons b s ih =>
    cases i with
    | zero =>
      have hb : b = false := by simpa using h
      subst hb
      simp [List.count_cons]
    | succ i =>
      have := ih i (by simpa using hi) (by simpa using h)
      simp only [List.set_cons_succ, List.count_cons]
      omega
theorem stepC_len (mk) (x) (q : List Bool × Bool) (h : q.1.length = 6) : (stepC mk x q).1.length = 6 := by
  unfold stepC
  split
  · exact set6_len _ _ h
  · exact h
theorem bools_set (b0 b1 b2 b3 b4 b5 : Bool) (i : Nat) (c0 c1 c2 c3 c4 c5 : Bool) (h : [b0, b1, b2, b3, b4, b5].set i true = [c0, c1, c2, c3, c4, c5]) :
    (#[.bool b0, .bool b1, .bool b2, .bool b3, .bool b4, .bool b5] : Array Value).setIfInBounds i (.bool true) = #[.bool c0, .bool c1, .bool c2, .bool c3, .bool c4, .bool c5] := by
  have e : ∀ l : List Bool, ((l.map Value.bool).toArray).setIfInBounds i (.bool true) = ((l.set i true).map Value.bool).toArray := fun l => by
    rw [List.setIfInBounds_toArray, List.map_set]
  have := e [b0, b1, b2, b3, b4, b5]
  rw [h] at this
  exact this
theorem bools_get (b0 b1 b2 b3 b4 b5 : Bool) (i : Nat) (hi : i < 6) : (#[.bool b0, .bool b1, .bool b2, .bool b3, .bool b4, .bool b5] : Array Value)[i]? = some (.bool ([b0, b1, b2, b3, b4, b5].getD i false)) := by
  match i, hi with
  | 0, _ => rfl
  | 1, _ => rfl
  | 2, _ => rfl
  | 3, _ => rfl
  | 4, _ => rfl
  | 5, _ => rfl
set_option maxHeartbeats 4000000 in
set_option maxRecDepth 100000 in
theorem closed_calls (g : Nat) (lb : Array Value) (eg : ∀ args w, (callFunc g args).run Try.prog w = .ok (.enter g args) w) (mk : S87 → List Bool → Bool) (a0 a1 : Int) (A : Option Addr) (c : Nat) (l : List S87) (w : World)
    (hr : Kd.C k87 w A l.length l) (hc : l.length ≤ c) (hok : ∀ j : Nat, j < l.length → okR6 (rd_T87 l j)) (hp : PredC g lb mk w) :
    Calls Try.prog 124 #[.agg #[.int .i64 a0, .int .i64 a1, .slice A l.length c], .func (.func g) #[] lb] w fun e w' => (∃ b0 b1 b2 b3 b4 b5, e = .returned (.agg #[.bool b0, .bool b1, .bool b2, .bool b3, .bool b4, .bool b5]) ∧ closedF mk l = [b0, b1, b2, b3, b4, b5]) ∧ Below w.heap.size w w' := by
  have hu := Try.underlying28
  have hml : l.length ≤ 9223372036854775807 := hr.2.1
  have HR := Aside0.mk hr
  have HOK := Aside0.mk hok
  have HP := Aside0.mk hp
  have HB := Aside0.mk (Below.refl w.heap.size w)
  clear hr hok hp
  go_enter Try.func124, Try.ntmps124
  go_wp2_with (first | ((with_reducible refine gate_dst (N := 2) rfl ?_); refine box_event ?hg (N := 2) ?hd (cs := #[.int .i64 a0, .int .i64 a1, .slice A l.length c]) (t := 28) ?hr ?_; (case hd => rfl); (case hg => rfl); (case hr => first | (go_simp; done) | (go_simp; rfl)); intro gb hg_ w1 hbox_ hb_; have GE_gb := Aside0.mk (show w.heap.size ≤ gb by rw [hg_]; exact below_size (by repeat (first | (with_reducible first | exact HB.out | apply below_alloc | apply pw_below_drewN | apply below_drew1) | exact HB.out))); have n0_ := Aside0.mk (below_step (by repeat (first | (with_reducible first | exact HB.out | apply below_alloc | apply pw_below_drewN | apply below_drew1) | exact HB.out)) hb_); clear HB; have HB := n0_; clear n0_; have B_gb := Aside0.mk hbox_; clear hb_ hbox_ hg_) | ((with_reducible refine gate_dst (N := 4) rfl ?_); refine box_event ?hg (N := 4) ?hd (cs := #[.bool false, .bool false, .bool false, .bool false, .bool false, .bool false]) (t := 106) ?hr ?_; (case hd => rfl); (case hg => rfl); (case hr => first | (go_simp; done) | (go_simp; rfl)); intro gr hg_ w2 hbox_ hb_; have GE_gr := Aside0.mk (show w.heap.size ≤ gr by rw [hg_]; exact below_size (by repeat (first | (with_reducible first | exact HB.out | apply below_alloc | apply pw_below_drewN | apply below_drew1) | exact HB.out))); have NE_gb_gr := Aside0.mk (show gb ≠ gr by rw [hg_]; exact Nat.ne_of_lt (blk_lt (by (with_reducible repeat (first | refine blk_drewN ?_ _ | refine blk_drew ?_ | refine blk_alloc ?_ _)); exact B_gb.out))); have n0_ := Aside0.mk (below_step (by repeat (first | (with_reducible first | exact HB.out | apply below_alloc | apply pw_below_drewN | apply below_drew1) | exact HB.out)) hb_); have n_gb := Aside0.mk (blk_below (by (with_reducible repeat (first | refine blk_drewN ?_ _ | refine blk_drew ?_ | refine blk_alloc ?_ _)); exact B_gb.out) hb_); clear HB B_gb; have HB := n0_; have B_gb := n_gb; clear n0_ n_gb; have B_gr := Aside0.mk hbox_; clear hb_ hbox_ hg_) | ((with_reducible refine gate_dst (N := 5) rfl ?_); refine box_event ?hg (N := 5) ?hd (cs := #[.bool false, .bool false, .bool false, .bool false, .bool false, .bool false]) (t := 106) ?hr ?_; (case hd => rfl); (case hg => rfl); (case hr => first | (go_simp; done) | (go_simp; rfl)); intro gs hg_ w3 hbox_ hb_; have GE_gs := Aside0.mk (show w.heap.size ≤ gs by rw [hg_]; exact below_size (by repeat (first | (with_reducible first | exact HB.out | apply below_alloc | apply pw_below_drewN | apply below_drew1) | exact HB.out))); have NE_gb_gs := Aside0.mk (show gb ≠ gs by rw [hg_]; exact Nat.ne_of_lt (blk_lt (by (with_reducible repeat (first | refine blk_drewN ?_ _ | refine blk_drew ?_ | refine blk_alloc ?_ _)); exact B_gb.out))); have NE_gr_gs := Aside0.mk (show gr ≠ gs by rw [hg_]; exact Nat.ne_of_lt (blk_lt (by (with_reducible repeat (first | refine blk_drewN ?_ _ | refine blk_drew ?_ | refine blk_alloc ?_ _)); exact B_gr.out))); have n0_ := Aside0.mk (below_step (by repeat (first | (with_reducible first | exact HB.out | apply below_alloc | apply pw_below_drewN | apply below_drew1) | exact HB.out)) hb_); have n_gb := Aside0.mk (blk_below (by (with_reducible repeat (first | refine blk_drewN ?_ _ | refine blk_drew ?_ | refine blk_alloc ?_ _)); exact B_gb.out) hb_); have n_gr := Aside0.mk (blk_below (by (with_reducible repeat (first | refine blk_drewN ?_ _ | refine blk_drew ?_ | refine blk_alloc ?_ _)); exact B_gr.out) hb_); clear HB B_gb B_gr; have HB := n0_; have B_gb := n_gb; have B_gr := n_gr; clear n0_ n_gb n_gr; have B_gs := Aside0.mk hbox_; clear hb_ hbox_ hg_; have x_gs_0 : w3.cell? ⟨gs, 0, none⟩ = some (.bool false) := (blk_cell B_gs.out 0).trans rfl; have f_gs_0 := blk_frozen B_gs.out 0; have x_gs_1 : w3.cell? ⟨gs, 1, none⟩ = some (.bool false) := (blk_cell B_gs.out 1).trans rfl; have f_gs_1 := blk_frozen B_gs.out 1; have x_gs_2 : w3.cell? ⟨gs, 2, none⟩ = some (.bool false) := (blk_cell B_gs.out 2).trans rfl; have f_gs_2 := blk_frozen B_gs.out 2; have x_gs_3 : w3.cell? ⟨gs, 3, none⟩ = some (.bool false) := (blk_cell B_gs.out 3).trans rfl; have f_gs_3 := blk_frozen B_gs.out 3; have x_gs_4 : w3.cell? ⟨gs, 4, none⟩ = some (.bool false) := (blk_cell B_gs.out 4).trans rfl; have f_gs_4 := blk_frozen B_gs.out 4; have x_gs_5 : w3.cell? ⟨gs, 5, none⟩ = some (.bool false) := (blk_cell B_gs.out 5).trans rfl; have f_gs_5 := blk_frozen B_gs.out 5))
  obtain ⟨w4, hw_⟩ : ∃ w_ : World, w_ = ((((((w3.setCell ⟨gs, 0, none⟩ (.bool false)).setCell ⟨gs, 1, none⟩ (.bool false)).setCell ⟨gs, 2, none⟩ (.bool false)).setCell ⟨gs, 3, none⟩ (.bool false)).setCell ⟨gs, 4, none⟩ (.bool false)).setCell ⟨gs, 5, none⟩ (.bool false)) := ⟨_, rfl⟩
  rw [← hw_]
  clear x_gs_0 f_gs_0 x_gs_1 f_gs_1 x_gs_2 f_gs_2 x_gs_3 f_gs_3 x_gs_4 f_gs_4 x_gs_5 f_gs_5
  have m0_ := Aside0.mk (show Below w.heap.size w w4 by rw [hw_]; exact (below_set (below_set (below_set (below_set (below_set (below_set HB.out GE_gs.out) GE_gs.out) GE_gs.out) GE_gs.out) GE_gs.out) GE_gs.out))
  have m_gb := Aside0.mk (show w4.heap[gb]? = some (.cells #[.int .i64 a0, .int .i64 a1, .slice A l.length c] 28 (0, 0)) by rw [hw_]; exact (blk_far (blk_far (blk_far (blk_far (blk_far (blk_far B_gb.out NE_gb_gs.out _) NE_gb_gs.out _) NE_gb_gs.out _) NE_gb_gs.out _) NE_gb_gs.out _) NE_gb_gs.out _))
  have m_gr := Aside0.mk (show w4.heap[gr]? = some (.cells #[.bool false, .bool false, .bool false, .bool false, .bool false, .bool false] 106 (0, 0)) by rw [hw_]; exact (blk_far (blk_far (blk_far (blk_far (blk_far (blk_far B_gr.out NE_gr_gs.out _) NE_gr_gs.out _) NE_gr_gs.out _) NE_gr_gs.out _) NE_gr_gs.out _) NE_gr_gs.out _))
  have m_gs := Aside0.mk (show w4.heap[gs]? = some (.cells #[.bool false, .bool false, .bool false, .bool false, .bool false, .bool false] 106 (0, 0)) by rw [hw_]; exact (blk_put (cs := #[.bool false, .bool false, .bool false, .bool false, .bool false, .bool false]) (blk_put (cs := #[.bool false, .bool false, .bool false, .bool false, .bool false, .bool false]) (blk_put (cs := #[.bool false, .bool false, .bool false, .bool false, .bool false, .bool false]) (blk_put (cs := #[.bool false, .bool false, .bool false, .bool false, .bool false, .bool false]) (blk_put (cs := #[.bool false, .bool false, .bool false, .bool false, .bool false, .bool false]) (blk_put (cs := #[.bool false, .bool false, .bool false, .bool false, .bool false, .bool false]) B_gs.out 0 _ rfl) 1 _ rfl) 2 _ rfl) 3 _ rfl) 4 _ rfl) 5 _ rfl))
  clear HB hw_ B_gb B_gr B_gs
  have HB := m0_
  have B_gb := m_gb
  have B_gr := m_gr
  have B_gs := m_gs
  clear m0_ m_gb m_gr m_gs
  go_loopg [6] 7 (fun gg s6 wr => ∃ (n : Nat) (b0 b1 b2 b3 b4 b5 ag : Bool), s6 = .bool ag ∧ n ≤ gg ∧ Aside0 (ag = true → cntF [b0, b1, b2, b3, b4, b5] < n ∧ closeN mk l n [b0, b1, b2, b3, b4, b5] = closedF mk l) ∧ Aside0 (ag = false → [b0, b1, b2, b3, b4, b5] = closedF mk l) ∧ Aside0 (wr.heap[gb]? = some (.cells #[.int .i64 a0, .int .i64 a1, .slice A l.length c] 28 (0, 0))) ∧ Aside0 (wr.heap[gr]? = some (.cells #[.bool false, .bool false, .bool false, .bool false, .bool false, .bool false] 106 (0, 0))) ∧ Aside0 (wr.heap[gs]? = some (.cells #[.bool b0, .bool b1, .bool b2, .bool b3, .bool b4, .bool b5] 106 (0, 0))) ∧ Aside0 (Below w.heap.size w wr))
  case atStart => exact ⟨7, _, _, _, _, _, _, true, rfl, Nat.le_refl _, ⟨fun _ => ⟨by decide, rfl⟩⟩, ⟨fun h => by cases h⟩, B_gb, B_gr, B_gs, HB⟩
  case round =>
    clear B_gb B_gr B_gs HB
    obtain ⟨n, b0, b1, b2, b3, b4, b5, ag, rfl, hn, CT, CF, B_gb, B_gr, B_gs, HB⟩ := hrel
    cases ag with
    | false =>
      have x_gb_0 : wr.cell? ⟨gb, 0, none⟩ = some (.int .i64 a0) := (blk_cell B_gb.out 0).trans rfl
      have x_gb_1 : wr.cell? ⟨gb, 1, none⟩ = some (.int .i64 a1) := (blk_cell B_gb.out 1).trans rfl
      have x_gb_2 : wr.cell? ⟨gb, 2, none⟩ = some (.slice A l.length c) := (blk_cell B_gb.out 2).trans rfl
      have x_gr_0 : wr.cell? ⟨gr, 0, none⟩ = some (.bool false) := (blk_cell B_gr.out 0).trans rfl
      have f_gr_0 := blk_frozen B_gr.out 0
      have x_gr_1 : wr.cell? ⟨gr, 1, none⟩ = some (.bool false) := (blk_cell B_gr.out 1).trans rfl
      have f_gr_1 := blk_frozen B_gr.out 1
      have x_gr_2 : wr.cell? ⟨gr, 2, none⟩ = some (.bool false) := (blk_cell B_gr.out 2).trans rfl
      have f_gr_2 := blk_frozen B_gr.out 2
      have x_gr_3 : wr.cell? ⟨gr, 3, none⟩ = some (.bool false) := (blk_cell B_gr.out 3).trans rfl
      have f_gr_3 := blk_frozen B_gr.out 3
      have x_gr_4 : wr.cell? ⟨gr, 4, none⟩ = some (.bool false) := (blk_cell B_gr.out 4).trans rfl
      have f_gr_4 := blk_frozen B_gr.out 4
      have x_gr_5 : wr.cell? ⟨gr, 5, none⟩ = some (.bool false) := (blk_cell B_gr.out 5).trans rfl
      have f_gr_5 := blk_frozen B_gr.out 5
      have x_gs_0 : wr.cell? ⟨gs, 0, none⟩ = some (.bool b0) := (blk_cell B_gs.out 0).trans rfl
      have x_gs_1 : wr.cell? ⟨gs, 1, none⟩ = some (.bool b1) := (blk_cell B_gs.out 1).trans rfl
      have x_gs_2 : wr.cell? ⟨gs, 2, none⟩ = some (.bool b2) := (blk_cell B_gs.out 2).trans rfl
      have x_gs_3 : wr.cell? ⟨gs, 3, none⟩ = some (.bool b3) := (blk_cell B_gs.out 3).trans rfl
      have x_gs_4 : wr.cell? ⟨gs, 4, none⟩ = some (.bool b4) := (blk_cell B_gs.out 4).trans rfl
      have x_gs_5 : wr.cell? ⟨gs, 5, none⟩ = some (.bool b5) := (blk_cell B_gs.out 5).trans rfl
      have FIN := Aside0.mk (CF.out rfl)
      clear CT CF
      go_wp2
      obtain ⟨w9, hw_⟩ : ∃ w_ : World, w_ = ((((((wr.setCell ⟨gr, 0, none⟩ (.bool b0)).setCell ⟨gr, 1, none⟩ (.bool b1)).setCell ⟨gr, 2, none⟩ (.bool b2)).setCell ⟨gr, 3, none⟩ (.bool b3)).setCell ⟨gr, 4, none⟩ (.bool b4)).setCell ⟨gr, 5, none⟩ (.bool b5)) := ⟨_, rfl⟩
      rw [← hw_]
      clear x_gb_0 x_gb_1 x_gb_2 x_gr_0 f_gr_0 x_gr_1 f_gr_1 x_gr_2 f_gr_2 x_gr_3 f_gr_3 x_gr_4 f_gr_4 x_gr_5 f_gr_5 x_gs_0 x_gs_1 x_gs_2 x_gs_3 x_gs_4 x_gs_5
      have m0_ := Aside0.mk (show Below w.heap.size w w9 by rw [hw_]; exact (below_set (below_set (below_set (below_set (below_set (below_set HB.out GE_gr.out) GE_gr.out) GE_gr.out) GE_gr.out) GE_gr.out) GE_gr.out))
      have m_gb := Aside0.mk (show w9.heap[gb]? = some (.cells #[.int .i64 a0, .int .i64 a1, .slice A l.length c] 28 (0, 0)) by rw [hw_]; exact (blk_far (blk_far (blk_far (blk_far (blk_far (blk_far B_gb.out NE_gb_gr.out _) NE_gb_gr.out _) NE_gb_gr.out _) NE_gb_gr.out _) NE_gb_gr.out _) NE_gb_gr.out _))
      have m_gr := Aside0.mk (show w9.heap[gr]? = some (.cells #[.bool b0, .bool b1, .bool b2, .bool b3, .bool b4, .bool b5] 106 (0, 0)) by rw [hw_]; exact (blk_put (cs := #[.bool b0, .bool b1, .bool b2, .bool b3, .bool b4, .bool false]) (blk_put (cs := #[.bool b0, .bool b1, .bool b2, .bool b3, .bool false, .bool false]) (blk_put (cs := #[.bool b0, .bool b1, .bool b2, .bool false, .bool false, .bool false]) (blk_put (cs := #[.bool b0, .bool b1, .bool false, .bool false, .bool false, .bool false]) (blk_put (cs := #[.bool b0, .bool false, .bool false, .bool false, .bool false, .bool false]) (blk_put (cs := #[.bool false, .bool false, .bool false, .bool false, .bool false, .bool false]) B_gr.out 0 _ rfl) 1 _ rfl) 2 _ rfl) 3 _ rfl) 4 _ rfl) 5 _ rfl))
      have m_gs := Aside0.mk (show w9.heap[gs]? = some (.cells #[.bool b0, .bool b1, .bool b2, .bool b3, .bool b4, .bool b5] 106 (0, 0)) by rw [hw_]; exact (blk_far (blk_far (blk_far (blk_far (blk_far (blk_far B_gs.out (Ne.symm NE_gr_gs.out) _) (Ne.symm NE_gr_gs.out) _) (Ne.symm NE_gr_gs.out) _) (Ne.symm NE_gr_gs.out) _) (Ne.symm NE_gr_gs.out) _) (Ne.symm NE_gr_gs.out) _))
      clear HB hw_ B_gb B_gr B_gs
      have HB := m0_
      have B_gb := m_gb
      have B_gr := m_gr
      have B_gs := m_gs
      clear m0_ m_gb m_gr m_gs
      have x_gr_0 : w9.cell? ⟨gr, 0, none⟩ = some (.bool b0) := (blk_cell B_gr.out 0).trans rfl
      have x_gr_1 : w9.cell? ⟨gr, 1, none⟩ = some (.bool b1) := (blk_cell B_gr.out 1).trans rfl
      have x_gr_2 : w9.cell? ⟨gr, 2, none⟩ = some (.bool b2) := (blk_cell B_gr.out 2).trans rfl
      have x_gr_3 : w9.cell? ⟨gr, 3, none⟩ = some (.bool b3) := (blk_cell B_gr.out 3).trans rfl
      have x_gr_4 : w9.cell? ⟨gr, 4, none⟩ = some (.bool b4) := (blk_cell B_gr.out 4).trans rfl
      have x_gr_5 : w9.cell? ⟨gr, 5, none⟩ = some (.bool b5) := (blk_cell B_gr.out 5).trans rfl
      refine bodyPost_ret (v := .agg #[.bool b0, .bool b1, .bool b2, .bool b3, .bool b4, .bool b5]) (by simp [results, Try.results124, go_sem, x_gr_0, x_gr_1, x_gr_2, x_gr_3, x_gr_4, x_gr_5]) rfl ⟨⟨b0, b1, b2, b3, b4, b5, rfl, FIN.out.symm⟩, HB.out⟩
    | true =>
      have x_gb_0 : wr.cell? ⟨gb, 0, none⟩ = some (.int .i64 a0) := (blk_cell B_gb.out 0).trans rfl
      have x_gb_1 : wr.cell? ⟨gb, 1, none⟩ = some (.int .i64 a1) := (blk_cell B_gb.out 1).trans rfl
      have x_gb_2 : wr.cell? ⟨gb, 2, none⟩ = some (.slice A l.length c) := (blk_cell B_gb.out 2).trans rfl
      obtain ⟨hcn, hcl⟩ := CT.out rfl
      have CN := Aside0.mk hcn
      have CL := Aside0.mk hcl
      clear CT CF hcn hcl
      obtain ⟨s0, hs0⟩ : ∃ s0 : List Bool, s0 = [b0, b1, b2, b3, b4, b5] := ⟨_, rfl⟩
      have L0 := Aside0.mk (show s0.length = 6 by rw [hs0]; rfl)
      have S0 := Aside0.mk hs0
      rw [← hs0] at CN CL
      have PQ := Aside0.mk (show passC mk l (s0, false) = passC mk (l.drop 0) ([b0, b1, b2, b3, b4, b5], false) by rw [hs0]; rfl)
      clear hs0
      go_wp2
      go_loopg [6, 14] l.length (fun gg s6 s14 wr => ∃ (kk : Nat) (b0 b1 b2 b3 b4 b5 ag : Bool), kk ≤ l.length ∧ l.length - kk ≤ gg ∧ s14 = .int .i64 kk ∧ s6 = .bool ag ∧ Aside0 (passC mk l (s0, false) = passC mk (l.drop kk) ([b0, b1, b2, b3, b4, b5], ag)) ∧ Aside0 (cntF [b0, b1, b2, b3, b4, b5] ≤ cntF s0 ∧ (ag = true → cntF [b0, b1, b2, b3, b4, b5] < cntF s0)) ∧ Aside0 (wr.heap[gb]? = some (.cells #[.int .i64 a0, .int .i64 a1, .slice A l.length c] 28 (0, 0))) ∧ Aside0 (wr.heap[gr]? = some (.cells #[.bool false, .bool false, .bool false, .bool false, .bool false, .bool false] 106 (0, 0))) ∧ Aside0 (wr.heap[gs]? = some (.cells #[.bool b0, .bool b1, .bool b2, .bool b3, .bool b4, .bool b5] 106 (0, 0))) ∧ Aside0 (Below w.heap.size w wr))
      case atStart => exact ⟨0, _, _, _, _, _, _, false, Nat.zero_le _, by omega, rfl, rfl, PQ, ⟨by rw [S0.out]; exact Nat.le_refl _, fun h => by cases h⟩, B_gb, B_gr, B_gs, HB⟩
      case round =>
        clear B_gb B_gr B_gs HB PQ
        obtain ⟨kk, b0, b1, b2, b3, b4, b5, ag, hkk, hg, rfl, rfl, PQ, CB, B_gb, B_gr, B_gs, HB⟩ := hrel
        by_cases hlt : kk < l.length
        · have hd : decide (kk < l.length) = true := decide_eq_true hlt
          obtain ⟨ad, A1, c1, e, hx0, hx1, hl1, hi1⟩ := at_T87 HR.out (kk : Int) (by omega) (by omega)
          subst e
          replace hx0 := (HB.out.cell (World.block_lt_of_cell? w _ hx0)).trans hx0
          replace hx1 := (HB.out.cell (World.block_lt_of_cell? w _ hx1)).trans hx1
          have hx2 : wr.cell? (ad.add (kk * 2)) = some (.int .i64 (rd_T87 l kk).f0) := by simpa using hx0
          have hx3 : wr.cell? ⟨(ad.add (kk * 2)).block, (ad.add (kk * 2)).off + 1, none⟩ = some (.slice A1 (rd_T87 l kk).f1.length c1) := by simpa using hx1
          clear hx0 hx1
          have HI := Aside0.mk hi1
          have HL := Aside0.mk hl1
          have L := Aside0.mk hlt
          have OK := Aside0.mk (HOK.out kk hlt)
          have PD := Aside0.mk (show passC mk (l.drop kk) ([b0, b1, b2, b3, b4, b5], ag) = passC mk (l.drop (kk + 1)) (stepC mk (rd_T87 l kk) ([b0, b1, b2, b3, b4, b5], ag)) by rw [getD_drop l kk z87 hlt]; rfl)
          clear hi1 hl1
          generalize rd_T87 l kk = y at hx2 hx3 HI HL OK PD
          go_upto_region 8 with (first | ((with_reducible refine gate_dst (N := 8) rfl ?_); refine box_event ?hg (N := 8) ?hd (cs := #[.int .i64 0, .slice none 0 0]) (t := 87) ?hr ?_; (case hd => rfl); (case hg => rfl); (case hr => first | (go_simp; done) | (go_simp; rfl)); intro gc hg_ w5 hbox_ hb_; have GE_gc := Aside0.mk (show w.heap.size ≤ gc by rw [hg_]; exact below_size (by repeat (first | (with_reducible first | exact HB.out | apply below_alloc | apply pw_below_drewN | apply below_drew1) | exact HB.out))); have NE_gb_gc := Aside0.mk (show gb ≠ gc by rw [hg_]; exact Nat.ne_of_lt (blk_lt (by (with_reducible repeat (first | refine blk_drewN ?_ _ | refine blk_drew ?_ | refine blk_alloc ?_ _)); exact B_gb.out))); have NE_gr_gc := Aside0.mk (show gr ≠ gc by rw [hg_]; exact Nat.ne_of_lt (blk_lt (by (with_reducible repeat (first | refine blk_drewN ?_ _ | refine blk_drew ?_ | refine blk_alloc ?_ _)); exact B_gr.out))); have NE_gs_gc := Aside0.mk (show gs ≠ gc by rw [hg_]; exact Nat.ne_of_lt (blk_lt (by (with_reducible repeat (first | refine blk_drewN ?_ _ | refine blk_drew ?_ | refine blk_alloc ?_ _)); exact B_gs.out))); have n0_ := Aside0.mk (below_step (by repeat (first | (with_reducible first | exact HB.out | apply below_alloc | apply pw_below_drewN | apply below_drew1) | exact HB.out)) hb_); have n_gb := Aside0.mk (blk_below (by (with_reducible repeat (first | refine blk_drewN ?_ _ | refine blk_drew ?_ | refine blk_alloc ?_ _)); exact B_gb.out) hb_); have n_gr := Aside0.mk (blk_below (by (with_reducible repeat (first | refine blk_drewN ?_ _ | refine blk_drew ?_ | refine blk_alloc ?_ _)); exact B_gr.out) hb_); have n_gs := Aside0.mk (blk_below (by (with_reducible repeat (first | refine blk_drewN ?_ _ | refine blk_drew ?_ | refine blk_alloc ?_ _)); exact B_gs.out) hb_); clear HB B_gb B_gr B_gs; have HB := n0_; have B_gb := n_gb; have B_gr := n_gr; have B_gs := n_gs; clear n0_ n_gb n_gr n_gs; have B_gc := Aside0.mk hbox_; clear hb_ hbox_ hg_; have x_gc_0 : w5.cell? ⟨gc, 0, none⟩ = some (.int .i64 0) := (blk_cell B_gc.out 0).trans rfl; have f_gc_0 := blk_frozen B_gc.out 0; have x_gc_1 : w5.cell? ⟨gc, 1, none⟩ = some (.slice none 0 0) := (blk_cell B_gc.out 1).trans rfl; have f_gc_1 := blk_frozen B_gc.out 1))
          obtain ⟨w6, hw_⟩ : ∃ w_ : World, w_ = ((w5.setCell ⟨gc, 0, none⟩ (.int .i64 y.f0)).setCell ⟨gc, 1, none⟩ (.slice A1 y.f1.length c1)) := ⟨_, rfl⟩
          rw [← hw_]
          clear x_gc_0 f_gc_0 x_gc_1 f_gc_1
          have m0_ := Aside0.mk (show Below w.heap.size w w6 by rw [hw_]; exact (below_set (below_set HB.out GE_gc.out) GE_gc.out))
          have m_gb := Aside0.mk (show w6.heap[gb]? = some (.cells #[.int .i64 a0, .int .i64 a1, .slice (some ad) l.length c] 28 (0, 0)) by rw [hw_]; exact (blk_far (blk_far B_gb.out NE_gb_gc.out _) NE_gb_gc.out _))
          have m_gr := Aside0.mk (show w6.heap[gr]? = some (.cells #[.bool false, .bool false, .bool false, .bool false, .bool false, .bool false] 106 (0, 0)) by rw [hw_]; exact (blk_far (blk_far B_gr.out NE_gr_gc.out _) NE_gr_gc.out _))
          have m_gs := Aside0.mk (show w6.heap[gs]? = some (.cells #[.bool b0, .bool b1, .bool b2, .bool b3, .bool b4, .bool b5] 106 (0, 0)) by rw [hw_]; exact (blk_far (blk_far B_gs.out NE_gs_gc.out _) NE_gs_gc.out _))
          have m_gc := Aside0.mk (show w6.heap[gc]? = some (.cells #[.int .i64 y.f0, .slice A1 y.f1.length c1] 87 (0, 0)) by rw [hw_]; exact (blk_put (cs := #[.int .i64 y.f0, .slice none 0 0]) (blk_put (cs := #[.int .i64 0, .slice none 0 0]) B_gc.out 0 _ rfl) 1 _ rfl))
          clear HB hw_ B_gb B_gr B_gs B_gc
          have HB := m0_
          have B_gb := m_gb
          have B_gr := m_gr
          have B_gs := m_gs
          have B_gc := m_gc
          clear m0_ m_gb m_gr m_gs m_gc
          clear hx2 hx3
          have x_gs_0 : w6.cell? ⟨gs, 0, none⟩ = some (.bool b0) := (blk_cell B_gs.out 0).trans rfl
          have x_gs_1 : w6.cell? ⟨gs, 1, none⟩ = some (.bool b1) := (blk_cell B_gs.out 1).trans rfl
          have x_gs_2 : w6.cell? ⟨gs, 2, none⟩ = some (.bool b2) := (blk_cell B_gs.out 2).trans rfl
          have x_gs_3 : w6.cell? ⟨gs, 3, none⟩ = some (.bool b3) := (blk_cell B_gs.out 3).trans rfl
          have x_gs_4 : w6.cell? ⟨gs, 4, none⟩ = some (.bool b4) := (blk_cell B_gs.out 4).trans rfl
          have x_gs_5 : w6.cell? ⟨gs, 5, none⟩ = some (.bool b5) := (blk_cell B_gs.out 5).trans rfl
          have x_gc_0 : w6.cell? ⟨gc, 0, none⟩ = some (.int .i64 y.f0) := (blk_cell B_gc.out 0).trans rfl
          have x_gc_1 : w6.cell? ⟨gc, 1, none⟩ = some (.slice A1 y.f1.length c1) := (blk_cell B_gc.out 1).trans rfl
          have hy0 : 0 ≤ y.f0 := OK.out.1.1
          have hy1 : y.f0 < 6 := OK.out.1.2
          have hyn : y.f0.toNat < 6 := by omega
          have hcx : w6.cell? ⟨gs, y.f0.toNat, none⟩ = some (.bool ([b0, b1, b2, b3, b4, b5].getD y.f0.toNat false)) := (blk_cell B_gs.out y.f0.toNat).trans (bools_get b0 b1 b2 b3 b4 b5 y.f0.toNat hyn)
          have SD := Aside0.mk (show stepC mk y ([b0, b1, b2, b3, b4, b5], ag) = if (![b0, b1, b2, b3, b4, b5].getD y.f0.toNat false && mk y [b0, b1, b2, b3, b4, b5]) = true then ([b0, b1, b2, b3, b4, b5].set y.f0.toNat true, true) else ([b0, b1, b2, b3, b4, b5], ag) from rfl)
          have GD := Aside0.mk (show ∀ v, [b0, b1, b2, b3, b4, b5].getD y.f0.toNat false = v → [b0, b1, b2, b3, b4, b5].getD y.f0.toNat false = v from fun _ h => h)
          cases hv : [b0, b1, b2, b3, b4, b5].getD y.f0.toNat false with
          | true =>
            rw [hv] at hcx SD
            have PN := Aside0.mk (show passC mk l (s0, false) = passC mk (l.drop (kk + 1)) ([b0, b1, b2, b3, b4, b5], ag) by rw [PQ.out, PD.out, SD.out]; rfl)
            clear hv
            go_wp2
            go_roundg (l.length - (kk + 1))
            case measure => have := L.out; omega
            case rel => exact ⟨kk + 1, _, _, _, _, _, _, ag, by have := L.out; omega, by omega, by go_num, rfl, PN, CB, B_gb, B_gr, B_gs, HB⟩
          | false =>
            rw [hv] at hcx SD
            have VF := Aside0.mk hv
            have hcall := HP.out w6 y A1 c1 b0 b1 b2 b3 b4 b5 HB.out HL.out (Kd.C_below HI.out HB.out) OK.out
            clear hv
            cases hm : mk y [b0, b1, b2, b3, b4, b5] with
            | false =>
              rw [hm] at hcall SD
              have PN := Aside0.mk (show passC mk l (s0, false) = passC mk (l.drop (kk + 1)) ([b0, b1, b2, b3, b4, b5], ag) by rw [PQ.out, PD.out, SD.out]; rfl)
              clear hm
              go_wp2_with fail
              refine hcall.mono ?_
              rintro e w7 ⟨rfl, hb_⟩
              clear hcall hcx
              clear x_gs_0 x_gs_1 x_gs_2 x_gs_3 x_gs_4 x_gs_5 x_gc_0 x_gc_1
              have n0_ := Aside0.mk (below_step (by repeat (first | (with_reducible first | exact HB.out | apply below_alloc | apply pw_below_drewN | apply below_drew1) | exact HB.out)) hb_)
              have n_gb := Aside0.mk (blk_below (by (with_reducible repeat (first | refine blk_drewN ?_ _ | refine blk_drew ?_ | refine blk_alloc ?_ _)); exact B_gb.out) hb_)
              have n_gr := Aside0.mk (blk_below (by (with_reducible repeat (first | refine blk_drewN ?_ _ | refine blk_drew ?_ | refine blk_alloc ?_ _)); exact B_gr.out) hb_)
              have n_gs := Aside0.mk (blk_below (by (with_reducible repeat (first | refine blk_drewN ?_ _ | refine blk_drew ?_ | refine blk_alloc ?_ _)); exact B_gs.out) hb_)
              have n_gc := Aside0.mk (blk_below (by (with_reducible repeat (first | refine blk_drewN ?_ _ | refine blk_drew ?_ | refine blk_alloc ?_ _)); exact B_gc.out) hb_)
              clear HB B_gb B_gr B_gs B_gc
              have HB := n0_
              have B_gb := n_gb
              have B_gr := n_gr
              have B_gs := n_gs
              have B_gc := n_gc
              clear n0_ n_gb n_gr n_gs n_gc
              clear hb_
              go_wp2
              go_roundg (l.length - (kk + 1))
              case measure => have := L.out; omega
              case rel => exact ⟨kk + 1, _, _, _, _, _, _, ag, by have := L.out; omega, by omega, by go_num, rfl, PN, CB, B_gb, B_gr, B_gs, HB⟩
            | true =>
              rw [hm] at hcall SD
              obtain ⟨d0, d1, d2, d3, d4, d5, hset⟩ := six ([b0, b1, b2, b3, b4, b5].set y.f0.toNat true) (by rw [List.length_set]; rfl)
              have ST := Aside0.mk hset
              have PN := Aside0.mk (show passC mk l (s0, false) = passC mk (l.drop (kk + 1)) ([d0, d1, d2, d3, d4, d5], true) by rw [PQ.out, PD.out, SD.out, ← hset]; rfl)
              have CB2 := Aside0.mk (show cntF [d0, d1, d2, d3, d4, d5] ≤ cntF s0 ∧ (true = true → cntF [d0, d1, d2, d3, d4, d5] < cntF s0) by have h1 := cntF_set [b0, b1, b2, b3, b4, b5] y.f0.toNat hyn VF.out; rw [hset] at h1; have h2 := CB.out.1; exact ⟨by omega, fun _ => by omega⟩)
              clear hm hset
              go_wp2_with fail
              refine hcall.mono ?_
              rintro e w7 ⟨rfl, hb_⟩
              clear hcall hcx
              clear x_gs_0 x_gs_1 x_gs_2 x_gs_3 x_gs_4 x_gs_5 x_gc_0 x_gc_1
              have n0_ := Aside0.mk (below_step (by repeat (first | (with_reducible first | exact HB.out | apply below_alloc | apply pw_below_drewN | apply below_drew1) | exact HB.out)) hb_)
              have n_gb := Aside0.mk (blk_below (by (with_reducible repeat (first | refine blk_drewN ?_ _ | refine blk_drew ?_ | refine blk_alloc ?_ _)); exact B_gb.out) hb_)
              have n_gr := Aside0.mk (blk_below (by (with_reducible repeat (first | refine blk_drewN ?_ _ | refine blk_drew ?_ | refine blk_alloc ?_ _)); exact B_gr.out) hb_)
              have n_gs := Aside0.mk (blk_below (by (with_reducible repeat (first | refine blk_drewN ?_ _ | refine blk_drew ?_ | refine blk_alloc ?_ _)); exact B_gs.out) hb_)
              have n_gc := Aside0.mk (blk_below (by (with_reducible repeat (first | refine blk_drewN ?_ _ | refine blk_drew ?_ | refine blk_alloc ?_ _)); exact B_gc.out) hb_)
              clear HB B_gb B_gr B_gs B_gc
              have HB := n0_
              have B_gb := n_gb
              have B_gr := n_gr
              have B_gs := n_gs
              have B_gc := n_gc
              clear n0_ n_gb n_gr n_gs n_gc
              clear hb_
              have x_gc_0 : w7.cell? ⟨gc, 0, none⟩ = some (.int .i64 y.f0) := (blk_cell B_gc.out 0).trans rfl
              have x_gc_1 : w7.cell? ⟨gc, 1, none⟩ = some (.slice A1 y.f1.length c1) := (blk_cell B_gc.out 1).trans rfl
              have hcy : w7.cell? ⟨gs, y.f0.toNat, none⟩ = some (.bool ([b0, b1, b2, b3, b4, b5].getD y.f0.toNat false)) := (blk_cell B_gs.out y.f0.toNat).trans (bools_get b0 b1 b2 b3 b4 b5 y.f0.toNat hyn)
              rw [VF.out] at hcy
              have hfy := blk_frozen B_gs.out y.f0.toNat
              go_wp2
              obtain ⟨w8, hw_⟩ : ∃ w_ : World, w_ = (w7.setCell ⟨gs, y.f0.toNat, none⟩ (.bool true)) := ⟨_, rfl⟩
              rw [← hw_]
              clear x_gc_0 x_gc_1
              have m0_ := Aside0.mk (show Below w.heap.size w w8 by rw [hw_]; exact (below_set HB.out GE_gs.out))
              have m_gb := Aside0.mk (show w8.heap[gb]? = some (.cells #[.int .i64 a0, .int .i64 a1, .slice (some ad) l.length c] 28 (0, 0)) by rw [hw_]; exact (blk_far B_gb.out NE_gb_gs.out _))
              have m_gr := Aside0.mk (show w8.heap[gr]? = some (.cells #[.bool false, .bool false, .bool false, .bool false, .bool false, .bool false] 106 (0, 0)) by rw [hw_]; exact (blk_far B_gr.out NE_gr_gs.out _))
              have m_gs := Aside0.mk (show w8.heap[gs]? = some (.cells #[.bool d0, .bool d1, .bool d2, .bool d3, .bool d4, .bool d5] 106 (0, 0)) by rw [hw_]; exact blk_put (cs := #[.bool b0, .bool b1, .bool b2, .bool b3, .bool b4, .bool b5]) B_gs.out y.f0.toNat _ (bools_set b0 b1 b2 b3 b4 b5 y.f0.toNat d0 d1 d2 d3 d4 d5 ST.out))
              have m_gc := Aside0.mk (show w8.heap[gc]? = some (.cells #[.int .i64 y.f0, .slice A1 y.f1.length c1] 87 (0, 0)) by rw [hw_]; exact (blk_far B_gc.out (Ne.symm NE_gs_gc.out) _))
              clear HB hw_ B_gb B_gr B_gs B_gc
              have HB := m0_
              have B_gb := m_gb
              have B_gr := m_gr
              have B_gs := m_gs
              have B_gc := m_gc
              clear m0_ m_gb m_gr m_gs m_gc
              go_roundg (l.length - (kk + 1))
              case measure => have := L.out; omega
              case rel => exact ⟨kk + 1, _, _, _, _, _, _, true, by have := L.out; omega, by omega, by go_num, rfl, PN, ⟨CB2.out.1, fun _ => CB2.out.2 trivial⟩, B_gb, B_gr, B_gs, HB⟩
        · have hd : decide (kk < l.length) = false := decide_eq_false hlt
          have PE := Aside0.mk (show passC mk l (s0, false) = ([b0, b1, b2, b3, b4, b5], ag) by rw [PQ.out, List.drop_of_length_le (by omega)]; rfl)
          clear hlt
          cases n with
          | zero => exact absurd CN.out (Nat.not_lt_zero _)
          | succ n =>
            have FN := Aside0.mk (show closedF mk l = if ag = true then closeN mk l n [b0, b1, b2, b3, b4, b5] else [b0, b1, b2, b3, b4, b5] by rw [← CL.out]; show (if (passC mk l (s0, false)).2 = true then closeN mk l n (passC mk l (s0, false)).1 else (passC mk l (s0, false)).1) = _; rw [PE.out])
            go_wp2
            go_roundg n
            case measure => omega
            case rel => exact ⟨n, _, _, _, _, _, _, ag, rfl, Nat.le_refl _, ⟨fun h => ⟨by have h1 := CB.out.2 h; have h2 := CN.out; omega, by rw [FN.out, if_pos h]⟩⟩, ⟨fun h => by rw [FN.out, if_neg (by rw [h]; exact Bool.false_ne_true)]⟩, B_gb, B_gr, B_gs, HB⟩
end Go.Proofs.Ytekoclhnfhbmeaa.P
namespace Go.Proofs.Ytekoclhnfhbmeaa.P
open Go.RowKit Go.Proofs.YtekoclhnfhbmeaaW.PrintWords Go.Proofs.YtekoclhnfhbmeaaW.PrintLast Go.Proofs.YtekoclhnfhbmeaaW.PrintMore
set_option linter.unusedVariables false
set_option linter.unusedSimpArgs false
theorem goodG_ok {nons toks : Int} {l : List S87} (h : goodG nons toks l = true) (j : Nat) (hj : j < l.length) : okR nons toks (rd_T87 l j) = true := by
  have hr : rulesB nons toks l l.length = true := by
    unfold goodG at h
    simp only [Bool.and_eq_true] at h
    exact h.2.2.2
  cases hq : okR nons toks (rd_T87 l j) with
  | true => rfl
  | false => rw [rulesB_no nons toks l j l.length hj (.inl hq)] at hr; cases hr
theorem goodG_nons {nons toks : Int} {l : List S87} (h : goodG nons toks l = true) : (1 ≤ nons ∧ nons ≤ 6) ∧ (1 ≤ toks ∧ toks ≤ 4) ∧ l.length ≤ 16 := by
  unfold goodG at h
  simp only [Bool.and_eq_true, decide_eq_true_eq] at h
  exact ⟨h.1, h.2.1, h.2.2.1⟩
theorem okR_parts {nons toks : Int} {x : S87} (h1 : 1 ≤ nons) (h6 : nons ≤ 6) (h : okR nons toks x = true) : (0 ≤ x.f0 ∧ x.f0 < nons) ∧ x.f1.length ≤ 4 ∧ ∀ j : Nat, j < x.f1.length → wrap64 (-toks) ≤ rd x.f1 j ∧ rd x.f1 j < nons := by
  have hw : wrap64 (nons - 1) = nons - 1 := w64 (by omega) (by omega)
  unfold okR at h
  simp only [Bool.and_eq_true, decide_eq_true_eq, Bool.not_eq_true', List.any_eq_false] at h
  obtain ⟨⟨h2, h3⟩, h4⟩ := h
  rw [hw] at h2
  refine ⟨⟨h2.1, by omega⟩, h3, fun j hj => ?_⟩
  have := h4 (rd x.f1 j) (by unfold rd; rw [List.getD_eq_getElem?_getD, Int.toNat_natCast, List.getElem?_eq_getElem hj]; exact List.getElem_mem hj)
  unfold symB at this
  rw [hw] at this
  simp at this
  exact ⟨this.1, by omega⟩
theorem goodG_okR6 {nons toks : Int} {l : List S87} (h : goodG nons toks l = true) (j : Nat) (hj : j < l.length) : okR6 (rd_T87 l j) := by
  have hn := (goodG_nons h).1
  obtain ⟨h1, _, h2⟩ := okR_parts hn.1 hn.2 (goodG_ok h j hj)
  exact ⟨⟨h1.1, by omega⟩, fun i hi => by have := (h2 i hi).2; omega⟩
def nulP (s : List Bool) (x : Int) : Bool := decide (x < 0) || !s.getD x.toNat false
def proP (s : List Bool) (x : Int) : Bool := decide (0 ≤ x) && !s.getD x.toNat false
def groP (s : List Bool) (x : Int) : Bool := decide (x < 0) || s.getD x.toNat false
def mkNul (r : S87) (s : List Bool) : Bool := !(r.f1.any (nulP s))
def mkPro (r : S87) (s : List Bool) : Bool := !(r.f1.any (proP s))
def mkGro (pr : List Bool) (r : S87) (s : List Bool) : Bool := !(r.f1.any (proP pr)) && r.f1.any (groP s)
def placesF : Nat → List Bool → List Int
  | _, [] => []
  | i, b :: s => if b = true then (i : Int) :: placesF (i + 1) s else placesF (i + 1) s
end Go.Proofs.Ytekoclhnfhbmeaa.P
