/- A part of the proof of the law FnExactIsUseful (words of the print and texts of this session, without what this law does not use). -/
import Derived.Below
import Derived.Deep.Draws
import Derived.Deep.AppendLies
import Derived.Maps.AppendAt
import Derived.OwnWalk
import Derived.Laws.BytesArg
import Derived.Laws.MakeOwn
import Derived.Laws.OwnMore
import Derived.Deep.OwnRows
import Derived.Tactics
import Derived.Lib.ConvBytes
import Derived.Laws.Slices
import Derived.WalkKit
import Derived.KernelRfl
import Derived.RowKit3
import Derived.Deep.LoopGhost
import Derived.Deep.QuietTactic
import Derived.BigQuiet
import Derived.WideLaws
import Derived.Deep.DeepCutAuto
import Derived.Deep.CutBlock
import Derived.Deep.RegionHeld3
import Derived.Laws.Rows
import Derived.Lib.AppendStr
import Derived.ArgAppend
import Derived.Laws.IdiomCopy
import Derived.RowKit
import Derived.OrdersHeld
import Derived.Laws.BitsLemmas
import Derived.Laws.StructEq
import Derived.Test.YtohbdjdjjbieeaaProg
import Derived.DataReads
import Derived.Deep.Slices
import Derived.OpenShut
import Derived.Shelf.Abstract
import Derived.Lib.SliceRun
import Derived.Orders
import Derived.Test.YtohbdjdjjbieeaaRows
import Derived.ProofKit
import Derived.ShutString
import Derived.ChangeOld
import Derived.SizedLaws
import Derived.Test.YtohbdjdjjbieeaaTFnExactIsUsefulp3
namespace Go.Proofs.Ytohbdjdjjbieeaa.P
open Go.RowKit Go.Proofs.YtohbdjdjjbieeaaW.PrintWords Go.Proofs.YtohbdjdjjbieeaaW.PrintLast Go.Proofs.YtohbdjdjjbieeaaW.PrintMore
set_option linter.unusedVariables false
set_option linter.unusedSimpArgs false
def stepX (f : Int) (x : Int) (q : List Bool × Bool) : List Bool × Bool := if (q.1.getD f.toNat false && (decide (0 ≤ x) && !q.1.getD x.toNat false)) = true then (q.1.set x.toNat true, true) else q
def ruleX (f : Int) (l : List Int) (q : List Bool × Bool) : List Bool × Bool := l.foldl (fun q x => stepX f x q) q
def passX (l : List S47) (q : List Bool × Bool) : List Bool × Bool := l.foldl (fun q y => ruleX y.f0 y.f1 q) q
def reachN (l : List S47) : Nat → List Bool → List Bool
  | 0, s => s
  | n + 1, s => if (passX l (s, false)).2 = true then reachN l n (passX l (s, false)).1 else (passX l (s, false)).1
def reachF (l : List S47) : List Bool := reachN l 7 [true, false, false, false, false, false]
set_option maxHeartbeats 4000000 in
set_option maxRecDepth 100000 in
theorem reached_calls (a0 a1 : Int) (A : Option Addr) (c : Nat) (l : List S47) (w : World)
    (hr : Kd.C k47 w A l.length l) (hc : l.length ≤ c) (hok : ∀ j : Nat, j < l.length → okR6 (rd_T47 l j)) :
    Calls Try.prog 43 #[.agg #[.int .i64 a0, .int .i64 a1, .slice A l.length c]] w fun e w' => (∃ b0 b1 b2 b3 b4 b5, e = .returned (.agg #[.bool b0, .bool b1, .bool b2, .bool b3, .bool b4, .bool b5]) ∧ reachF l = [b0, b1, b2, b3, b4, b5]) ∧ Below w.heap.size w w' := by
  have hu := Try.underlying30
  have hml : l.length ≤ 9223372036854775807 := hr.2.1
  have HR := Aside0.mk hr
  have HOK := Aside0.mk hok
  have HB := Aside0.mk (Below.refl w.heap.size w)
  clear hr hok
  go_enter Try.func43, Try.ntmps43
  go_wp2_with (first | ((with_reducible refine gate_dst (N := 1) rfl ?_); refine box_event ?hg (N := 1) ?hd (cs := #[.int .i64 a0, .int .i64 a1, .slice A l.length c]) (t := 30) ?hr ?_; (case hd => rfl); (case hg => rfl); (case hr => first | (go_simp; done) | (go_simp; rfl)); intro gb hg_ w1 hbox_ hb_; have GE_gb := Aside0.mk (show w.heap.size ≤ gb by rw [hg_]; exact below_size (by repeat (first | (with_reducible first | exact HB.out | apply below_alloc | apply pw_below_drewN | apply below_drew1) | exact HB.out))); have n0_ := Aside0.mk (below_step (by repeat (first | (with_reducible first | exact HB.out | apply below_alloc | apply pw_below_drewN | apply below_drew1) | exact HB.out)) hb_); clear HB; have HB := n0_; clear n0_; have B_gb := Aside0.mk hbox_; clear hb_ hbox_ hg_) | ((with_reducible refine gate_dst (N := 2) rfl ?_); refine box_event ?hg (N := 2) ?hd (cs := #[.bool false, .bool false, .bool false, .bool false, .bool false, .bool false]) (t := 54) ?hr ?_; (case hd => rfl); (case hg => rfl); (case hr => first | (go_simp; done) | (go_simp; rfl)); intro gr hg_ w2 hbox_ hb_; have GE_gr := Aside0.mk (show w.heap.size ≤ gr by rw [hg_]; exact below_size (by repeat (first | (with_reducible first | exact HB.out | apply below_alloc | apply pw_below_drewN | apply below_drew1) | exact HB.out))); have NE_gb_gr := Aside0.mk (show gb ≠ gr by rw [hg_]; exact Nat.ne_of_lt (blk_lt (by (with_reducible repeat (first | refine blk_drewN ?_ _ | refine blk_drew ?_ | refine blk_alloc ?_ _)); exact B_gb.out))); have n0_ := Aside0.mk (below_step (by repeat (first | (with_reducible first | exact HB.out | apply below_alloc | apply pw_below_drewN | apply below_drew1) | exact HB.out)) hb_); have n_gb := Aside0.mk (blk_below (by (with_reducible repeat (first | refine blk_drewN ?_ _ | refine blk_drew ?_ | refine blk_alloc ?_ _)); exact B_gb.out) hb_); clear HB B_gb; have HB := n0_; have B_gb := n_gb; clear n0_ n_gb; have B_gr := Aside0.mk hbox_; clear hb_ hbox_ hg_) | ((with_reducible refine gate_dst (N := 3) rfl ?_); refine box_event ?hg (N := 3) ?hd (cs := #[.bool false, .bool false, .bool false, .bool false, .bool false, .bool false]) (t := 54) ?hr ?_; (case hd => rfl); (case hg => rfl); (case hr => first | (go_simp; done) | (go_simp; rfl)); intro gs hg_ w3 hbox_ hb_; have GE_gs := Aside0.mk (show w.heap.size ≤ gs by rw [hg_]; exact below_size (by repeat (first | (with_reducible first | exact HB.out | apply below_alloc | apply pw_below_drewN | apply below_drew1) | exact HB.out))); have NE_gb_gs := Aside0.mk (show gb ≠ gs by rw [hg_]; exact Nat.ne_of_lt (blk_lt (by (with_reducible repeat (first | refine blk_drewN ?_ _ | refine blk_drew ?_ | refine blk_alloc ?_ _)); exact B_gb.out))); have NE_gr_gs := Aside0.mk (show gr ≠ gs by rw [hg_]; exact Nat.ne_of_lt (blk_lt (by (with_reducible repeat (first | refine blk_drewN ?_ _ | refine blk_drew ?_ | refine blk_alloc ?_ _)); exact B_gr.out))); have n0_ := Aside0.mk (below_step (by repeat (first | (with_reducible first | exact HB.out | apply below_alloc | apply pw_below_drewN | apply below_drew1) | exact HB.out)) hb_); have n_gb := Aside0.mk (blk_below (by (with_reducible repeat (first | refine blk_drewN ?_ _ | refine blk_drew ?_ | refine blk_alloc ?_ _)); exact B_gb.out) hb_); have n_gr := Aside0.mk (blk_below (by (with_reducible repeat (first | refine blk_drewN ?_ _ | refine blk_drew ?_ | refine blk_alloc ?_ _)); exact B_gr.out) hb_); clear HB B_gb B_gr; have HB := n0_; have B_gb := n_gb; have B_gr := n_gr; clear n0_ n_gb n_gr; have B_gs := Aside0.mk hbox_; clear hb_ hbox_ hg_; have x_gs_0 : w3.cell? ⟨gs, 0, none⟩ = some (.bool false) := (blk_cell B_gs.out 0).trans rfl; have f_gs_0 := blk_frozen B_gs.out 0; have x_gs_1 : w3.cell? ⟨gs, 1, none⟩ = some (.bool false) := (blk_cell B_gs.out 1).trans rfl; have f_gs_1 := blk_frozen B_gs.out 1; have x_gs_2 : w3.cell? ⟨gs, 2, none⟩ = some (.bool false) := (blk_cell B_gs.out 2).trans rfl; have f_gs_2 := blk_frozen B_gs.out 2; have x_gs_3 : w3.cell? ⟨gs, 3, none⟩ = some (.bool false) := (blk_cell B_gs.out 3).trans rfl; have f_gs_3 := blk_frozen B_gs.out 3; have x_gs_4 : w3.cell? ⟨gs, 4, none⟩ = some (.bool false) := (blk_cell B_gs.out 4).trans rfl; have f_gs_4 := blk_frozen B_gs.out 4; have x_gs_5 : w3.cell? ⟨gs, 5, none⟩ = some (.bool false) := (blk_cell B_gs.out 5).trans rfl; have f_gs_5 := blk_frozen B_gs.out 5))
  obtain ⟨w4, hw_⟩ : ∃ w_ : World, w_ = ((((((w3.setCell ⟨gs, 0, none⟩ (.bool true)).setCell ⟨gs, 1, none⟩ (.bool false)).setCell ⟨gs, 2, none⟩ (.bool false)).setCell ⟨gs, 3, none⟩ (.bool false)).setCell ⟨gs, 4, none⟩ (.bool false)).setCell ⟨gs, 5, none⟩ (.bool false)) := ⟨_, rfl⟩
  rw [← hw_]
  clear x_gs_0 f_gs_0 x_gs_1 f_gs_1 x_gs_2 f_gs_2 x_gs_3 f_gs_3 x_gs_4 f_gs_4 x_gs_5 f_gs_5
  have m0_ := Aside0.mk (show Below w.heap.size w w4 by rw [hw_]; exact (below_set (below_set (below_set (below_set (below_set (below_set HB.out GE_gs.out) GE_gs.out) GE_gs.out) GE_gs.out) GE_gs.out) GE_gs.out))
  have m_gb := Aside0.mk (show w4.heap[gb]? = some (.cells #[.int .i64 a0, .int .i64 a1, .slice A l.length c] 30 (0, 0)) by rw [hw_]; exact (blk_far (blk_far (blk_far (blk_far (blk_far (blk_far B_gb.out NE_gb_gs.out _) NE_gb_gs.out _) NE_gb_gs.out _) NE_gb_gs.out _) NE_gb_gs.out _) NE_gb_gs.out _))
  have m_gr := Aside0.mk (show w4.heap[gr]? = some (.cells #[.bool false, .bool false, .bool false, .bool false, .bool false, .bool false] 54 (0, 0)) by rw [hw_]; exact (blk_far (blk_far (blk_far (blk_far (blk_far (blk_far B_gr.out NE_gr_gs.out _) NE_gr_gs.out _) NE_gr_gs.out _) NE_gr_gs.out _) NE_gr_gs.out _) NE_gr_gs.out _))
  have m_gs := Aside0.mk (show w4.heap[gs]? = some (.cells #[.bool true, .bool false, .bool false, .bool false, .bool false, .bool false] 54 (0, 0)) by rw [hw_]; exact (blk_put (cs := #[.bool true, .bool false, .bool false, .bool false, .bool false, .bool false]) (blk_put (cs := #[.bool true, .bool false, .bool false, .bool false, .bool false, .bool false]) (blk_put (cs := #[.bool true, .bool false, .bool false, .bool false, .bool false, .bool false]) (blk_put (cs := #[.bool true, .bool false, .bool false, .bool false, .bool false, .bool false]) (blk_put (cs := #[.bool true, .bool false, .bool false, .bool false, .bool false, .bool false]) (blk_put (cs := #[.bool false, .bool false, .bool false, .bool false, .bool false, .bool false]) B_gs.out 0 _ rfl) 1 _ rfl) 2 _ rfl) 3 _ rfl) 4 _ rfl) 5 _ rfl))
  clear HB hw_ B_gb B_gr B_gs
  have HB := m0_
  have B_gb := m_gb
  have B_gr := m_gr
  have B_gs := m_gs
  clear m0_ m_gb m_gr m_gs
  go_loopg [4] 7 (fun gg s4 wr => ∃ (n : Nat) (b0 b1 b2 b3 b4 b5 ag : Bool), s4 = .bool ag ∧ n ≤ gg ∧ Aside0 (ag = true → cntF [b0, b1, b2, b3, b4, b5] < n ∧ reachN l n [b0, b1, b2, b3, b4, b5] = reachF l) ∧ Aside0 (ag = false → [b0, b1, b2, b3, b4, b5] = reachF l) ∧ Aside0 (wr.heap[gb]? = some (.cells #[.int .i64 a0, .int .i64 a1, .slice A l.length c] 30 (0, 0))) ∧ Aside0 (wr.heap[gr]? = some (.cells #[.bool false, .bool false, .bool false, .bool false, .bool false, .bool false] 54 (0, 0))) ∧ Aside0 (wr.heap[gs]? = some (.cells #[.bool b0, .bool b1, .bool b2, .bool b3, .bool b4, .bool b5] 54 (0, 0))) ∧ Aside0 (Below w.heap.size w wr))
  case atStart => exact ⟨7, _, _, _, _, _, _, true, rfl, Nat.le_refl _, ⟨fun _ => ⟨by decide, rfl⟩⟩, ⟨fun h => by cases h⟩, B_gb, B_gr, B_gs, HB⟩
  case round =>
    clear B_gb B_gr B_gs HB
    obtain ⟨n, b0, b1, b2, b3, b4, b5, ag, rfl, hn, CT, CF, B_gb, B_gr, B_gs, HB⟩ := hrel
    cases ag with
    | false =>
      have x_gb_0 : wr.cell? ⟨gb, 0, none⟩ = some (.int .i64 a0) := (blk_cell B_gb.out 0).trans rfl
      have x_gb_1 : wr.cell? ⟨gb, 1, none⟩ = some (.int .i64 a1) := (blk_cell B_gb.out 1).trans rfl
      have x_gb_2 : wr.cell? ⟨gb, 2, none⟩ = some (.slice A l.length c) := (blk_cell B_gb.out 2).trans rfl
      have x_gr_0 : wr.cell? ⟨gr, 0, none⟩ = some (.bool false) := (blk_cell B_gr.out 0).trans rfl
      have f_gr_0 := blk_frozen B_gr.out 0
      have x_gr_1 : wr.cell? ⟨gr, 1, none⟩ = some (.bool false) := (blk_cell B_gr.out 1).trans rfl
      have f_gr_1 := blk_frozen B_gr.out 1
      have x_gr_2 : wr.cell? ⟨gr, 2, none⟩ = some (.bool false) := (blk_cell B_gr.out 2).trans rfl
      have f_gr_2 := blk_frozen B_gr.out 2
      have x_gr_3 : wr.cell? ⟨gr, 3, none⟩ = some (.bool false) := (blk_cell B_gr.out 3).trans rfl
      have f_gr_3 := blk_frozen B_gr.out 3
      have x_gr_4 : wr.cell? ⟨gr, 4, none⟩ = some (.bool false) := (blk_cell B_gr.out 4).trans rfl
      have f_gr_4 := blk_frozen B_gr.out 4
      have x_gr_5 : wr.cell? ⟨gr, 5, none⟩ = some (.bool false) := (blk_cell B_gr.out 5).trans rfl
      have f_gr_5 := blk_frozen B_gr.out 5
      have x_gs_0 : wr.cell? ⟨gs, 0, none⟩ = some (.bool b0) := (blk_cell B_gs.out 0).trans rfl
      have x_gs_1 : wr.cell? ⟨gs, 1, none⟩ = some (.bool b1) := (blk_cell B_gs.out 1).trans rfl
      have x_gs_2 : wr.cell? ⟨gs, 2, none⟩ = some (.bool b2) := (blk_cell B_gs.out 2).trans rfl
      have x_gs_3 : wr.cell? ⟨gs, 3, none⟩ = some (.bool b3) := (blk_cell B_gs.out 3).trans rfl
      have x_gs_4 : wr.cell? ⟨gs, 4, none⟩ = some (.bool b4) := (blk_cell B_gs.out 4).trans rfl
      have x_gs_5 : wr.cell? ⟨gs, 5, none⟩ = some (.bool b5) := (blk_cell B_gs.out 5).trans rfl
      have FIN := Aside0.mk (CF.out rfl)
      clear CT CF
      go_wp2
      obtain ⟨w9, hw_⟩ : ∃ w_ : World, w_ = ((((((wr.setCell ⟨gr, 0, none⟩ (.bool b0)).setCell ⟨gr, 1, none⟩ (.bool b1)).setCell ⟨gr, 2, none⟩ (.bool b2)).setCell ⟨gr, 3, none⟩ (.bool b3)).setCell ⟨gr, 4, none⟩ (.bool b4)).setCell ⟨gr, 5, none⟩ (.bool b5)) := ⟨_, rfl⟩
      rw [← hw_]
      clear x_gb_0 x_gb_1 x_gb_2 x_gr_0 f_gr_0 x_gr_1 f_gr_1 x_gr_2 f_gr_2 x_gr_3 f_gr_3 x_gr_4 f_gr_4 x_gr_5 f_gr_5 x_gs_0 x_gs_1 x_gs_2 x_gs_3 x_gs_4 x_gs_5
      have m0_ := Aside0.mk (show Below w.heap.size w w9 by rw [hw_]; exact (below_set (below_set (below_set (below_set (below_set (below_set HB.out GE_gr.out) GE_gr.out) GE_gr.out) GE_gr.out) GE_gr.out) GE_gr.out))
      have m_gb := Aside0.mk (show w9.heap[gb]? = some (.cells #[.int .i64 a0, .int .i64 a1, .slice A l.length c] 30 (0, 0)) by rw [hw_]; exact (blk_far (blk_far (blk_far (blk_far (blk_far (blk_far B_gb.out NE_gb_gr.out _) NE_gb_gr.out _) NE_gb_gr.out _) NE_gb_gr.out _) NE_gb_gr.out _) NE_gb_gr.out _))
      have m_gr := Aside0.mk (show w9.heap[gr]? = some (.cells #[.bool b0, .bool b1, .bool b2, .bool b3, .bool b4, .bool b5] 54 (0, 0)) by rw [hw_]; exact (blk_put (cs := #[.bool b0, .bool b1, .bool b2, .bool b3, .bool b4, .bool false]) (blk_put (cs := #[.bool b0, .bool b1, .bool b2, .bool b3, .bool false, .bool false]) (blk_put (cs := #[.bool b0, .bool b1, .bool b2, .bool false, .bool false, .bool false]) (blk_put (cs := #[.bool b0, .bool b1, .bool false, .bool false, .bool false, .bool false]) (blk_put (cs := #[.bool b0, .bool false, .bool false, .bool false, .bool false, .bool false]) (blk_put (cs := #[.bool false, .bool false, .bool false, .bool false, .bool false, .bool false]) B_gr.out 0 _ rfl) 1 _ rfl) 2 _ rfl) 3 _ rfl) 4 _ rfl) 5 _ rfl))
      have m_gs := Aside0.mk (show w9.heap[gs]? = some (.cells #[.bool b0, .bool b1, .bool b2, .bool b3, .bool b4, .bool b5] 54 (0, 0)) by rw [hw_]; exact (blk_far (blk_far (blk_far (blk_far (blk_far (blk_far B_gs.out (Ne.symm NE_gr_gs.out) _) (Ne.symm NE_gr_gs.out) _) (Ne.symm NE_gr_gs.out) _) (Ne.symm NE_gr_gs.out) _) (Ne.symm NE_gr_gs.out) _) (Ne.symm NE_gr_gs.out) _))
      clear HB hw_ B_gb B_gr B_gs
      have HB := m0_
      have B_gb := m_gb
      have B_gr := m_gr
      have B_gs := m_gs
      clear m0_ m_gb m_gr m_gs
      have x_gr_0 : w9.cell? ⟨gr, 0, none⟩ = some (.bool b0) := (blk_cell B_gr.out 0).trans rfl
      have x_gr_1 : w9.cell? ⟨gr, 1, none⟩ = some (.bool b1) := (blk_cell B_gr.out 1).trans rfl
      have x_gr_2 : w9.cell? ⟨gr, 2, none⟩ = some (.bool b2) := (blk_cell B_gr.out 2).trans rfl
      have x_gr_3 : w9.cell? ⟨gr, 3, none⟩ = some (.bool b3) := (blk_cell B_gr.out 3).trans rfl
      have x_gr_4 : w9.cell? ⟨gr, 4, none⟩ = some (.bool b4) := (blk_cell B_gr.out 4).trans rfl
      have x_gr_5 : w9.cell? ⟨gr, 5, none⟩ = some (.bool b5) := (blk_cell B_gr.out 5).trans rfl
      refine bodyPost_ret (v := .agg #[.bool b0, .bool b1, .bool b2, .bool b3, .bool b4, .bool b5]) (by simp [results, Try.results43, go_sem, x_gr_0, x_gr_1, x_gr_2, x_gr_3, x_gr_4, x_gr_5]) rfl ⟨⟨b0, b1, b2, b3, b4, b5, rfl, FIN.out.symm⟩, HB.out⟩
    | true =>
      have x_gb_0 : wr.cell? ⟨gb, 0, none⟩ = some (.int .i64 a0) := (blk_cell B_gb.out 0).trans rfl
      have x_gb_1 : wr.cell? ⟨gb, 1, none⟩ = some (.int .i64 a1) := (blk_cell B_gb.out 1).trans rfl
      have x_gb_2 : wr.cell? ⟨gb, 2, none⟩ = some (.slice A l.length c) := (blk_cell B_gb.out 2).trans rfl
      obtain ⟨hcn, hcl⟩ := CT.out rfl
      have CN := Aside0.mk hcn
      have CL := Aside0.mk hcl
      clear CT CF hcn hcl
      obtain ⟨s0, hs0⟩ : ∃ s0 : List Bool, s0 = [b0, b1, b2, b3, b4, b5] := ⟨_, rfl⟩
      have S0 := Aside0.mk hs0
      rw [← hs0] at CN CL
      have PQ := Aside0.mk (show passX l (s0, false) = passX (l.drop 0) ([b0, b1, b2, b3, b4, b5], false) by rw [hs0]; rfl)
      clear hs0
      go_wp2
      go_loopg [4, 14] l.length (fun gg s4 s14 wr => ∃ (kk : Nat) (b0 b1 b2 b3 b4 b5 ag : Bool), kk ≤ l.length ∧ l.length - kk ≤ gg ∧ s14 = .int .i64 kk ∧ s4 = .bool ag ∧ Aside0 (passX l (s0, false) = passX (l.drop kk) ([b0, b1, b2, b3, b4, b5], ag)) ∧ Aside0 (cntF [b0, b1, b2, b3, b4, b5] ≤ cntF s0 ∧ (ag = true → cntF [b0, b1, b2, b3, b4, b5] < cntF s0)) ∧ Aside0 (wr.heap[gb]? = some (.cells #[.int .i64 a0, .int .i64 a1, .slice A l.length c] 30 (0, 0))) ∧ Aside0 (wr.heap[gr]? = some (.cells #[.bool false, .bool false, .bool false, .bool false, .bool false, .bool false] 54 (0, 0))) ∧ Aside0 (wr.heap[gs]? = some (.cells #[.bool b0, .bool b1, .bool b2, .bool b3, .bool b4, .bool b5] 54 (0, 0))) ∧ Aside0 (Below w.heap.size w wr))
      case atStart => exact ⟨0, _, _, _, _, _, _, false, Nat.zero_le _, by omega, rfl, rfl, PQ, ⟨by rw [S0.out]; exact Nat.le_refl _, fun h => by cases h⟩, B_gb, B_gr, B_gs, HB⟩
      case round =>
        clear B_gb B_gr B_gs HB PQ
        obtain ⟨kk, b0, b1, b2, b3, b4, b5, ag, hkk, hg, rfl, rfl, PQ, CB, B_gb, B_gr, B_gs, HB⟩ := hrel
        by_cases hlt : kk < l.length
        · have hd : decide (kk < l.length) = true := decide_eq_true hlt
          obtain ⟨ad, A1, c1, e, hx0, hx1, hl1, hi1⟩ := at_T47 HR.out (kk : Int) (by omega) (by omega)
          subst e
          replace hx0 := (HB.out.cell (World.block_lt_of_cell? w _ hx0)).trans hx0
          replace hx1 := (HB.out.cell (World.block_lt_of_cell? w _ hx1)).trans hx1
          have hx2 : wr.cell? (ad.add (kk * 2)) = some (.int .i64 (rd_T47 l kk).f0) := by simpa using hx0
          have hx3 : wr.cell? ⟨(ad.add (kk * 2)).block, (ad.add (kk * 2)).off + 1, none⟩ = some (.slice A1 (rd_T47 l kk).f1.length c1) := by simpa using hx1
          clear hx0 hx1
          have HI := Aside0.mk hi1
          have HL := Aside0.mk hl1
          have hmy := hi1.2.1
          have L := Aside0.mk hlt
          have OK := Aside0.mk (HOK.out kk hlt)
          have PD := Aside0.mk (show passX (l.drop kk) ([b0, b1, b2, b3, b4, b5], ag) = passX (l.drop (kk + 1)) (ruleX (rd_T47 l kk).f0 (rd_T47 l kk).f1 ([b0, b1, b2, b3, b4, b5], ag)) by rw [getD_drop l kk z47 hlt]; rfl)
          clear hi1 hl1
          generalize rd_T47 l kk = y at hx2 hx3 HI HL OK PD hmy
          go_upto_region 8 with (first | ((with_reducible refine gate_dst (N := 6) rfl ?_); refine box_event ?hg (N := 6) ?hd (cs := #[.int .i64 0, .slice none 0 0]) (t := 47) ?hr ?_; (case hd => rfl); (case hg => rfl); (case hr => first | (go_simp; done) | (go_simp; rfl)); intro gc hg_ w5 hbox_ hb_; have GE_gc := Aside0.mk (show w.heap.size ≤ gc by rw [hg_]; exact below_size (by repeat (first | (with_reducible first | exact HB.out | apply below_alloc | apply pw_below_drewN | apply below_drew1) | exact HB.out))); have NE_gb_gc := Aside0.mk (show gb ≠ gc by rw [hg_]; exact Nat.ne_of_lt (blk_lt (by (with_reducible repeat (first | refine blk_drewN ?_ _ | refine blk_drew ?_ | refine blk_alloc ?_ _)); exact B_gb.out))); have NE_gr_gc := Aside0.mk (show gr ≠ gc by rw [hg_]; exact Nat.ne_of_lt (blk_lt (by (with_reducible repeat (first | refine blk_drewN ?_ _ | refine blk_drew ?_ | refine blk_alloc ?_ _)); exact B_gr.out))); have NE_gs_gc := Aside0.mk (show gs ≠ gc by rw [hg_]; exact Nat.ne_of_lt (blk_lt (by (with_reducible repeat (first | refine blk_drewN ?_ _ | refine blk_drew ?_ | refine blk_alloc ?_ _)); exact B_gs.out))); have n0_ := Aside0.mk (below_step (by repeat (first | (with_reducible first | exact HB.out | apply below_alloc | apply pw_below_drewN | apply below_drew1) | exact HB.out)) hb_); have n_gb := Aside0.mk (blk_below (by (with_reducible repeat (first | refine blk_drewN ?_ _ | refine blk_drew ?_ | refine blk_alloc ?_ _)); exact B_gb.out) hb_); have n_gr := Aside0.mk (blk_below (by (with_reducible repeat (first | refine blk_drewN ?_ _ | refine blk_drew ?_ | refine blk_alloc ?_ _)); exact B_gr.out) hb_); have n_gs := Aside0.mk (blk_below (by (with_reducible repeat (first | refine blk_drewN ?_ _ | refine blk_drew ?_ | refine blk_alloc ?_ _)); exact B_gs.out) hb_); clear HB B_gb B_gr B_gs; have HB := n0_; have B_gb := n_gb; have B_gr := n_gr; have B_gs := n_gs; clear n0_ n_gb n_gr n_gs; have B_gc := Aside0.mk hbox_; clear hb_ hbox_ hg_; have x_gc_0 : w5.cell? ⟨gc, 0, none⟩ = some (.int .i64 0) := (blk_cell B_gc.out 0).trans rfl; have f_gc_0 := blk_frozen B_gc.out 0; have x_gc_1 : w5.cell? ⟨gc, 1, none⟩ = some (.slice none 0 0) := (blk_cell B_gc.out 1).trans rfl; have f_gc_1 := blk_frozen B_gc.out 1))
          obtain ⟨w6, hw_⟩ : ∃ w_ : World, w_ = ((w5.setCell ⟨gc, 0, none⟩ (.int .i64 y.f0)).setCell ⟨gc, 1, none⟩ (.slice A1 y.f1.length c1)) := ⟨_, rfl⟩
          rw [← hw_]
          clear x_gc_0 f_gc_0 x_gc_1 f_gc_1
          have m0_ := Aside0.mk (show Below w.heap.size w w6 by rw [hw_]; exact (below_set (below_set HB.out GE_gc.out) GE_gc.out))
          have m_gb := Aside0.mk (show w6.heap[gb]? = some (.cells #[.int .i64 a0, .int .i64 a1, .slice (some ad) l.length c] 30 (0, 0)) by rw [hw_]; exact (blk_far (blk_far B_gb.out NE_gb_gc.out _) NE_gb_gc.out _))
          have m_gr := Aside0.mk (show w6.heap[gr]? = some (.cells #[.bool false, .bool false, .bool false, .bool false, .bool false, .bool false] 54 (0, 0)) by rw [hw_]; exact (blk_far (blk_far B_gr.out NE_gr_gc.out _) NE_gr_gc.out _))
          have m_gs := Aside0.mk (show w6.heap[gs]? = some (.cells #[.bool b0, .bool b1, .bool b2, .bool b3, .bool b4, .bool b5] 54 (0, 0)) by rw [hw_]; exact (blk_far (blk_far B_gs.out NE_gs_gc.out _) NE_gs_gc.out _))
          have m_gc := Aside0.mk (show w6.heap[gc]? = some (.cells #[.int .i64 y.f0, .slice A1 y.f1.length c1] 47 (0, 0)) by rw [hw_]; exact (blk_put (cs := #[.int .i64 y.f0, .slice none 0 0]) (blk_put (cs := #[.int .i64 0, .slice none 0 0]) B_gc.out 0 _ rfl) 1 _ rfl))
          clear HB hw_ B_gb B_gr B_gs B_gc
          have HB := m0_
          have B_gb := m_gb
          have B_gr := m_gr
          have B_gs := m_gs
          have B_gc := m_gc
          clear m0_ m_gb m_gr m_gs m_gc
          have x_gc_0 : w6.cell? ⟨gc, 0, none⟩ = some (.int .i64 y.f0) := (blk_cell B_gc.out 0).trans rfl
          have x_gc_1 : w6.cell? ⟨gc, 1, none⟩ = some (.slice A1 y.f1.length c1) := (blk_cell B_gc.out 1).trans rfl
          clear hx2 hx3
          have hy0 : 0 ≤ y.f0 := OK.out.1.1
          have hy1 : y.f0 < 6 := OK.out.1.2
          have hyn : y.f0.toNat < 6 := by omega
          have RQ := Aside0.mk (show passX l (s0, false) = passX (l.drop (kk + 1)) (ruleX y.f0 (y.f1.drop 0) ([b0, b1, b2, b3, b4, b5], ag)) by rw [PQ.out, PD.out]; rfl)
          clear PQ PD hd
          go_wp2
          go_loopg [4, 21] y.f1.length (fun gg s4 s21 wr => ∃ (jj : Nat) (b0 b1 b2 b3 b4 b5 ag : Bool), jj ≤ y.f1.length ∧ y.f1.length - jj ≤ gg ∧ s21 = .int .i64 jj ∧ s4 = .bool ag ∧ Aside0 (passX l (s0, false) = passX (l.drop (kk + 1)) (ruleX y.f0 (y.f1.drop jj) ([b0, b1, b2, b3, b4, b5], ag))) ∧ Aside0 (cntF [b0, b1, b2, b3, b4, b5] ≤ cntF s0 ∧ (ag = true → cntF [b0, b1, b2, b3, b4, b5] < cntF s0)) ∧ Aside0 (wr.heap[gb]? = some (.cells #[.int .i64 a0, .int .i64 a1, .slice (some ad) l.length c] 30 (0, 0))) ∧ Aside0 (wr.heap[gr]? = some (.cells #[.bool false, .bool false, .bool false, .bool false, .bool false, .bool false] 54 (0, 0))) ∧ Aside0 (wr.heap[gs]? = some (.cells #[.bool b0, .bool b1, .bool b2, .bool b3, .bool b4, .bool b5] 54 (0, 0))) ∧ Aside0 (wr.heap[gc]? = some (.cells #[.int .i64 y.f0, .slice A1 y.f1.length c1] 47 (0, 0))) ∧ Aside0 (Below w.heap.size w wr))
          case atStart => exact ⟨0, _, _, _, _, _, _, _, Nat.zero_le _, by omega, rfl, rfl, RQ, CB, B_gb, B_gr, B_gs, B_gc, HB⟩
          case round =>
            clear B_gb B_gr B_gs B_gc HB RQ CB x_gc_0 x_gc_1
            obtain ⟨jj, b0, b1, b2, b3, b4, b5, ag, hjj, hg2, rfl, rfl, RQ, CB, B_gb, B_gr, B_gs, B_gc, HB⟩ := hrel
            by_cases hlt2 : jj < y.f1.length
            · have hd2 : decide (jj < y.f1.length) = true := decide_eq_true hlt2
              obtain ⟨ay, e, hy9⟩ := Kd.at_int HI.out (jj : Int) (by omega) (by omega)
              subst e
              have hy8 : wr.cell? (ay.add jj) = some (.int .i64 (rd y.f1 jj)) := (HB.out.cell (World.block_lt_of_cell? w _ (by simpa using hy9))).trans (by simpa using hy9)
              have L2 := Aside0.mk hlt2
              have hx6 := OK.out.2 jj hlt2
              clear hy9
              have SD := Aside0.mk (show ruleX y.f0 (y.f1.drop jj) ([b0, b1, b2, b3, b4, b5], ag) = ruleX y.f0 (y.f1.drop (jj + 1)) (stepX y.f0 (rd y.f1 jj) ([b0, b1, b2, b3, b4, b5], ag)) by rw [getD_drop y.f1 jj 0 hlt2]; rfl)
              generalize rd y.f1 jj = x at hy8 hx6 SD
              have x_gc_0 : wr.cell? ⟨gc, 0, none⟩ = some (.int .i64 y.f0) := (blk_cell B_gc.out 0).trans rfl
              have x_gc_1 : wr.cell? ⟨gc, 1, none⟩ = some (.slice (some ay) y.f1.length c1) := (blk_cell B_gc.out 1).trans rfl
              have hcf : wr.cell? ⟨gs, y.f0.toNat, none⟩ = some (.bool ([b0, b1, b2, b3, b4, b5].getD y.f0.toNat false)) := (blk_cell B_gs.out y.f0.toNat).trans (bools_get b0 b1 b2 b3 b4 b5 y.f0.toNat hyn)
              have SE := Aside0.mk (show stepX y.f0 x ([b0, b1, b2, b3, b4, b5], ag) = if ([b0, b1, b2, b3, b4, b5].getD y.f0.toNat false && (decide (0 ≤ x) && ![b0, b1, b2, b3, b4, b5].getD x.toNat false)) = true then ([b0, b1, b2, b3, b4, b5].set x.toNat true, true) else ([b0, b1, b2, b3, b4, b5], ag) from rfl)
              cases hv : [b0, b1, b2, b3, b4, b5].getD y.f0.toNat false with
              | false =>
                rw [hv] at hcf SE
                have RQN := Aside0.mk (show passX l (s0, false) = passX (l.drop (kk + 1)) (ruleX y.f0 (y.f1.drop (jj + 1)) ([b0, b1, b2, b3, b4, b5], ag)) by rw [RQ.out, SD.out, SE.out, if_neg (by rw [Bool.false_and]; exact Bool.false_ne_true)])
                clear hv hx6
                go_wp2
                go_roundg (y.f1.length - (jj + 1))
                case measure => have := L2.out; omega
                case rel => exact ⟨jj + 1, _, _, _, _, _, _, ag, by have := L2.out; omega, by omega, by go_num, rfl, RQN, CB, B_gb, B_gr, B_gs, B_gc, HB⟩
              | true =>
                rw [hv] at hcf SE
                clear hv
                by_cases h0 : 0 ≤ x
                · have d0 : decide (0 ≤ x) = true := decide_eq_true h0
                  have hxn : x.toNat < 6 := by omega
                  rw [d0] at SE
                  have hcx : wr.cell? ⟨gs, x.toNat, none⟩ = some (.bool ([b0, b1, b2, b3, b4, b5].getD x.toNat false)) := (blk_cell B_gs.out x.toNat).trans (bools_get b0 b1 b2 b3 b4 b5 x.toNat hxn)
                  have hfx := blk_frozen B_gs.out x.toNat
                  cases hu2 : [b0, b1, b2, b3, b4, b5].getD x.toNat false with
                  | true =>
                    rw [hu2] at hcx SE
                    have RQN := Aside0.mk (show passX l (s0, false) = passX (l.drop (kk + 1)) (ruleX y.f0 (y.f1.drop (jj + 1)) ([b0, b1, b2, b3, b4, b5], ag)) by rw [RQ.out, SD.out, SE.out, if_neg (by decide)])
                    clear hu2
                    go_wp2
                    go_roundg (y.f1.length - (jj + 1))
                    case measure => have := L2.out; omega
                    case rel => exact ⟨jj + 1, _, _, _, _, _, _, ag, by have := L2.out; omega, by omega, by go_num, rfl, RQN, CB, B_gb, B_gr, B_gs, B_gc, HB⟩
                  | false =>
                    rw [hu2] at hcx SE
                    obtain ⟨d0_, d1, d2, d3, d4, d5, hset⟩ := six ([b0, b1, b2, b3, b4, b5].set x.toNat true) (by rw [List.length_set]; rfl)
                    have ST := Aside0.mk hset
                    have RQN := Aside0.mk (show passX l (s0, false) = passX (l.drop (kk + 1)) (ruleX y.f0 (y.f1.drop (jj + 1)) ([d0_, d1, d2, d3, d4, d5], true)) by rw [RQ.out, SD.out, SE.out, if_pos (show (true && (true && !false)) = true from rfl), hset])
                    have CB2 := Aside0.mk (show cntF [d0_, d1, d2, d3, d4, d5] ≤ cntF s0 ∧ (true = true → cntF [d0_, d1, d2, d3, d4, d5] < cntF s0) by have h1 := cntF_set [b0, b1, b2, b3, b4, b5] x.toNat hxn hu2; rw [hset] at h1; have h2 := CB.out.1; exact ⟨by omega, fun _ => by omega⟩)
                    clear hset hu2
                    go_wp2
                    obtain ⟨w8, hw_⟩ : ∃ w_ : World, w_ = (wr.setCell ⟨gs, x.toNat, none⟩ (.bool true)) := ⟨_, rfl⟩
                    rw [← hw_]
                    clear x_gc_0 x_gc_1
                    have m0_ := Aside0.mk (show Below w.heap.size w w8 by rw [hw_]; exact (below_set HB.out GE_gs.out))
                    have m_gb := Aside0.mk (show w8.heap[gb]? = some (.cells #[.int .i64 a0, .int .i64 a1, .slice (some ad) l.length c] 30 (0, 0)) by rw [hw_]; exact (blk_far B_gb.out NE_gb_gs.out _))
                    have m_gr := Aside0.mk (show w8.heap[gr]? = some (.cells #[.bool false, .bool false, .bool false, .bool false, .bool false, .bool false] 54 (0, 0)) by rw [hw_]; exact (blk_far B_gr.out NE_gr_gs.out _))
                    have m_gs := Aside0.mk (show w8.heap[gs]? = some (.cells #[.bool d0_, .bool d1, .bool d2, .bool d3, .bool d4, .bool d5] 54 (0, 0)) by rw [hw_]; exact blk_put (cs := #[.bool b0, .bool b1, .bool b2, .bool b3, .bool b4, .bool b5]) B_gs.out x.toNat _ (bools_set b0 b1 b2 b3 b4 b5 x.toNat d0_ d1 d2 d3 d4 d5 ST.out))
                    have m_gc := Aside0.mk (show w8.heap[gc]? = some (.cells #[.int .i64 y.f0, .slice (some ay) y.f1.length c1] 47 (0, 0)) by rw [hw_]; exact (blk_far B_gc.out (Ne.symm NE_gs_gc.out) _))
                    clear HB hw_ B_gb B_gr B_gs B_gc
                    have HB := m0_
                    have B_gb := m_gb
                    have B_gr := m_gr
                    have B_gs := m_gs
                    have B_gc := m_gc
                    clear m0_ m_gb m_gr m_gs m_gc
                    go_roundg (y.f1.length - (jj + 1))
                    case measure => have := L2.out; omega
                    case rel => exact ⟨jj + 1, _, _, _, _, _, _, true, by have := L2.out; omega, by omega, by go_num, rfl, RQN, ⟨CB2.out.1, fun _ => CB2.out.2 trivial⟩, B_gb, B_gr, B_gs, B_gc, HB⟩
                · have d0 : decide (0 ≤ x) = false := decide_eq_false h0
                  rw [d0] at SE
                  have RQN := Aside0.mk (show passX l (s0, false) = passX (l.drop (kk + 1)) (ruleX y.f0 (y.f1.drop (jj + 1)) ([b0, b1, b2, b3, b4, b5], ag)) by rw [RQ.out, SD.out, SE.out, if_neg (by simp)])
                  clear h0 hx6
                  go_wp2
                  go_roundg (y.f1.length - (jj + 1))
                  case measure => have := L2.out; omega
                  case rel => exact ⟨jj + 1, _, _, _, _, _, _, ag, by have := L2.out; omega, by omega, by go_num, rfl, RQN, CB, B_gb, B_gr, B_gs, B_gc, HB⟩
            · have hd2 : decide (jj < y.f1.length) = false := decide_eq_false hlt2
              have PN := Aside0.mk (show passX l (s0, false) = passX (l.drop (kk + 1)) ([b0, b1, b2, b3, b4, b5], ag) by rw [RQ.out, List.drop_of_length_le (show y.f1.length ≤ jj by omega)]; rfl)
              clear hlt2
              go_wp2
              go_roundg (l.length - (kk + 1))
              case measure => have := L.out; omega
              case rel => exact ⟨kk + 1, _, _, _, _, _, _, ag, by have := L.out; omega, by omega, by go_num, rfl, PN, CB, B_gb, B_gr, B_gs, HB⟩
        · have hd : decide (kk < l.length) = false := decide_eq_false hlt
          have PE := Aside0.mk (show passX l (s0, false) = ([b0, b1, b2, b3, b4, b5], ag) by rw [PQ.out, List.drop_of_length_le (by omega)]; rfl)
          clear hlt
          cases n with
          | zero => exact absurd CN.out (Nat.not_lt_zero _)
          | succ n =>
            have FN := Aside0.mk (show reachF l = if ag = true then reachN l n [b0, b1, b2, b3, b4, b5] else [b0, b1, b2, b3, b4, b5] by rw [← CL.out]; show (if (passX l (s0, false)).2 = true then reachN l n (passX l (s0, false)).1 else (passX l (s0, false)).1) = _; rw [PE.out])
            go_wp2
            go_roundg n
            case measure => omega
            case rel => exact ⟨n, _, _, _, _, _, _, ag, rfl, Nat.le_refl _, ⟨fun h => ⟨by have h1 := CB.out.2 h; have h2 := CN.out; omega, by rw [FN.out, if_pos h]⟩⟩, ⟨fun h => by rw [FN.out, if_neg (by rw [h]; exact Bool.false_ne_true)]⟩, B_gb, B_gr, B_gs, HB⟩
def impl_ReachedOf.f (a0_0 a0_1 : Int) (l0_2 : List S47) : Option (List Int × Bool) := some (if goodG a0_0 a0_1 l0_2 = true then (placesF 0 (reachF l0_2), true) else ([], false))
end Go.Proofs.Ytohbdjdjjbieeaa.P
namespace Go.Proofs.Ytohbdjdjjbieeaa.P
open Go.RowKit Go.Proofs.YtohbdjdjjbieeaaW.PrintWords Go.Proofs.YtohbdjdjjbieeaaW.PrintLast Go.Proofs.YtohbdjdjjbieeaaW.PrintMore
attribute [local go_sem] max2_int min2_int max_two min_two max_three min_three max_four min_four
set_option linter.unusedVariables false
set_option linter.unusedSimpArgs false
mutual
def spec_l3Reached.l0 : Nat → List Int → Bool → Int → Int → List (S47) → Option (List Int)
  | 0, _, _, _, _, _ => none
  | k + 1, x3, x4, x102000, x102001, x102002 => if x4 = true then (spec_l3Reached.l1 k x3 false x102002 (x102002.length : Int) 0 x102000 x102001 x102002) else (some x3)
def spec_l3Reached.l1 : Nat → List Int → Bool → List (S47) → Int → Int → Int → Int → List (S47) → Option (List Int)
  | 0, _, _, _, _, _, _, _, _ => none
  | k + 1, x3, x4, x12, x13, x14, x102000, x102001, x102002 => if x14 < x13 then (if 0 ≤ x14 then (if x14 < (x12.length : Int) then (spec_l3Reached.l2 k x3 x4 x12 x13 x14 ((rd_T47 x12 x14).f1) (((rd_T47 x12 x14).f1).length : Int) 0 x102000 x102001 x102002 ((rd_T47 x12 x14).f0) ((rd_T47 x12 x14).f1)) else (none)) else (none)) else (spec_l3Reached.l0 k x3 x4 x102000 x102001 x102002)
def spec_l3Reached.l2 : Nat → List Int → Bool → List (S47) → Int → Int → List Int → Int → Int → Int → Int → List (S47) → Int → List Int → Option (List Int)
  | 0, _, _, _, _, _, _, _, _, _, _, _, _, _ => none
  | k + 1, x3, x4, x12, x13, x14, x19, x20, x21, x102000, x102001, x102002, x107000, x107001 => if x21 < x20 then (if 0 ≤ x21 then (if x21 < (x19.length : Int) then (if (rd x19 x21) ≥ 0 then ((spec_l1Has.f k x3 x107000).bind fun t108 => (if t108 = true then ((spec_l1Has.f k x3 (rd x19 x21)).bind fun t109 => (if t109 = true then (spec_l3Reached.l2 k x3 x4 x12 x13 x14 x19 x20 (wrap64 (x21 + 1)) x102000 x102001 x102002 x107000 x107001) else ((spec_l1Put.f k x3 (rd x19 x21)).bind fun t110 => (spec_l3Reached.l2 k t110 true x12 x13 x14 x19 x20 (wrap64 (x21 + 1)) x102000 x102001 x102002 x107000 x107001)))) else (spec_l3Reached.l2 k x3 x4 x12 x13 x14 x19 x20 (wrap64 (x21 + 1)) x102000 x102001 x102002 x107000 x107001))) else (spec_l3Reached.l2 k x3 x4 x12 x13 x14 x19 x20 (wrap64 (x21 + 1)) x102000 x102001 x102002 x107000 x107001)) else (none)) else (none)) else (spec_l3Reached.l1 k x3 x4 x12 x13 (wrap64 (x14 + 1)) x102000 x102001 x102002)
end
def spec_l3Reached.f (k : Nat) (a0_0 : Int) (a0_1 : Int) (l0_2 : List (S47)) : Option (List Int) := spec_l3Reached.l0 k (([0] : List Int)) true a0_0 a0_1 l0_2
set_option maxHeartbeats 8000000 in
set_option maxRecDepth 100000 in
theorem spec_l3Reached.calls (k : Nat) (a0_0 : Int) (a0_1 : Int) (A0_2 : Option Addr) (c0_2 : Nat) (l0_2 : List (S47)) (r : List Int) (w : World) (hr0_2 : Kd.C k47 w A0_2 l0_2.length l0_2) (hc0_2 : l0_2.length ≤ c0_2) (h : spec_l3Reached.f k a0_0 a0_1 l0_2 = some r) :
    Calls Try.prog 41 #[.agg #[.int .i64 a0_0, .int .i64 a0_1, .slice A0_2 l0_2.length c0_2]] w fun e w' => ∃ v0_ : Value, e = .returned (v0_) ∧ Kd.R (Kd.int .i64) 3 w' w.heap.size (fun _ => True) v0_ r ∧ Below w.heap.size w w' := by
  have hu30 := Try.underlying30
  have hu47 := Try.underlying47
  have HR0_2 := Aside0.mk hr0_2
  have HC0_2 := Aside0.mk hc0_2
  clear hr0_2 hc0_2
  have HB := Aside0.mk (Below.refl w.heap.size w)
  have H : (spec_l3Reached.l0 k (([0] : List Int)) true a0_0 a0_1 l0_2) = some r := h
  clear h
  obtain ⟨y102, hy102⟩ : ∃ y_ : List Int, y_ = (([0] : List Int)) := ⟨_, rfl⟩
  replace H : (spec_l3Reached.l0 k y102 true a0_0 a0_1 l0_2) = some r := by first | (rw [hy102]; with_reducible exact H) | (have H2_ := (Option.bind_some _ _).symm.trans H; rw [hy102]; with_reducible exact H2_) | (have H2_ := (Option.bind_some _ _).symm.trans H; with_reducible exact H2_) | with_reducible exact H | (rw [hy102]; exact H) | exact H
  have Ny102 := Aside0.mk hy102
  clear hy102
  have H' := Aside0.mk H
  clear H
  go_enter Try.func41, Try.ntmps41
  go_wp2_with (first | ((with_reducible refine gate_dst (N := 1) rfl ?_); refine box_event ?hg (N := 1) ?hd (cs := #[.int .i64 a0_0, .int .i64 a0_1, .slice A0_2 l0_2.length c0_2]) (t := 30) ?hr ?_; (case hd => rfl); (case hg => rfl); (case hr => first | (go_simp; done) | (go_simp; rfl)); intro gb101 hg w2 hbox hb; have n0_ := Aside0.mk (below_step (by repeat (first | (with_reducible first | exact HB.out | apply below_alloc | apply pw_below_drewN | apply below_drew1) | exact HB.out)) hb); have n1_ := Aside0.mk (hbox); have n2_ := Aside0.mk ((by rw [hg]; exact (below_size (by repeat (first | (with_reducible first | exact HB.out | apply below_alloc | apply pw_below_drewN | apply below_drew1) | exact HB.out))) : w.heap.size ≤ gb101)); have n3_ := Aside0.mk ((by rw [hg]; exact (below_size (by repeat (first | (with_reducible first | exact HB.out | apply below_alloc | apply pw_below_drewN | apply below_drew1) | exact HB.out))) : w.heap.size ≤ gb101)); clear HB; have HB := n0_; have BK101 := n1_; have GW101 := n2_; have GE101 := n3_; clear n0_ n1_ n2_ n3_; clear hb hbox hg) | ((with_reducible refine gate_dst (N := 9) rfl ?_); refine Kd.R_lit (Kd.int .i64) _ 3 ?hg (N := 9) ?hd (xs := ([0] : List Int)) (inner := [.int .i64 0]) (ok := fun _ => True) (okp := fun _ => True) ?hr ?hp (fun _ hk => hk) trivial (Below.refl _ _) (Nat.le_refl _) (by simp) ?_; (case hd => rfl); (case hg => rfl); (case hr => first | (go_simp; done) | (go_simp; rfl)); (case hp => exact (Reps.one (show Kd.M (Kd.int .i64) _ _ _ 0 [.int .i64 0] from rfl) (Reps.none _ _))); intro v103 w3 ho4 hb hg_ hnew_; clear hg_ hnew_; (first | rw [← Ny102.out] at ho4 | (simp only [Int.reduceToNat] at ho4; rw [← Ny102.out] at ho4)); have n0_ := Aside0.mk (Kd.R_lower ho4 (below_size (by repeat (first | (with_reducible first | exact HB.out | apply below_alloc | apply pw_below_drewN | apply below_drew1 | refine below_set ?_ GE101.out) | exact HB.out)))); have n1_ := Aside0.mk (blk_below (g := gb101) (o := .cells #[.int .i64 a0_0, .int .i64 a0_1, .slice A0_2 l0_2.length c0_2] 30 (0, 0)) (by (with_reducible repeat (first | refine blk_drewN ?_ _ | refine blk_drew ?_ | refine blk_alloc ?_ _)); exact BK101.out) hb); have n2_ := Aside0.mk (below_step (by repeat (first | (with_reducible first | exact HB.out | apply below_alloc | apply pw_below_drewN | apply below_drew1 | refine below_set ?_ GE101.out) | exact HB.out)) hb); clear BK101; clear HB; have HO104 := n0_; have BK101 := n1_; have HB := n2_; clear n0_ n1_ n2_; clear hb ho4))
  go_loopg [3, 4] k (fun kq v3 v4 w' => ∃ (x3_1 : List Int) (x4_1 : Bool), v4 = .bool x4_1 ∧ Aside0 (spec_l3Reached.l0 kq x3_1 x4_1 a0_0 a0_1 l0_2 = some r) ∧ Aside0 (kq ≤ k) ∧ Aside0 (Kd.R (Kd.int .i64) 3 w' w.heap.size (fun _ => True) v3 x3_1) ∧ Aside0 (w'.heap[gb101]? = some (.cells #[.int .i64 a0_0, .int .i64 a0_1, (.slice A0_2 l0_2.length c0_2)] 30 (0, 0))) ∧ Aside0 (Below w.heap.size w w'))
  case atStart => exact ⟨(y102), (true), (by first | rfl | (simp; done) | (simp [*]; done)), H', ⟨Nat.le_refl _⟩, ⟨by (with_reducible repeat (first | apply Kd.R_alloc | apply Kd.R_drewN | apply Kd.R_drew)); exact HO104.out⟩, ⟨by (with_reducible repeat (first | refine blk_drewN ?_ _ | refine blk_drew ?_ | refine blk_alloc ?_ _)); exact BK101.out⟩, ⟨by repeat (first | (with_reducible first | exact HB.out | apply below_alloc | apply pw_below_drewN | apply below_drew1 | refine below_set ?_ GE101.out) | exact HB.out)⟩⟩
  case round =>
    clear H'
    try clear p2
    try clear c4
    obtain ⟨x3_1, x4_1, rfl, HA, HK1, HO_3, BK101, HB⟩ := hrel
    cases gk with
    | zero => exact absurd HA.out (by simp [spec_l3Reached.l0])
    | succ k1 =>
      have H := HA.out
      clear HA
      simp only [spec_l3Reached.l0] at H
      by_cases c5 : x4_1 = true
      · subst c5
        have H1 : (spec_l3Reached.l1 k1 x3_1 false l0_2 (l0_2.length : Int) 0 a0_0 a0_1 l0_2) = some r := by rw [if_pos rfl] at H; exact H
        clear H
        have H := H1
        clear H1
        have H' := Aside0.mk H
        clear H
        have hcz6_0 : wr.cell? ⟨gb101, 0, none⟩ = some (.int .i64 a0_0) := (blk_cell BK101.out 0).trans rfl
        have hcz6_1 : wr.cell? ⟨gb101, 1, none⟩ = some (.int .i64 a0_1) := (blk_cell BK101.out 1).trans rfl
        have hcz6_2 : wr.cell? ⟨gb101, 2, none⟩ = some (.slice A0_2 l0_2.length c0_2) := (blk_cell BK101.out 2).trans rfl
        have hfz6_0 := blk_frozen BK101.out 0
        have hfz6_1 := blk_frozen BK101.out 1
        have hfz6_2 := blk_frozen BK101.out 2
        go_wp2
        go_loopg [3, 4, 14] k1 (fun kq v3 v4 v14 w' => ∃ (x3_2 : List Int) (x4_2 : Bool) (x14_2 : Int), v4 = .bool x4_2 ∧ v14 = .int .i64 x14_2 ∧ Aside0 (spec_l3Reached.l1 kq x3_2 x4_2 l0_2 (l0_2.length : Int) x14_2 a0_0 a0_1 l0_2 = some r) ∧ Aside0 (kq ≤ k1) ∧ Aside0 (Kd.R (Kd.int .i64) 3 w' w.heap.size (fun _ => True) v3 x3_2) ∧ Aside0 (w'.heap[gb101]? = some (.cells #[.int .i64 a0_0, .int .i64 a0_1, (.slice A0_2 l0_2.length c0_2)] 30 (0, 0))) ∧ Aside0 (Below w.heap.size w w'))
        case atStart => exact ⟨(x3_1), (false), (0), (by first | rfl | (simp; done) | (simp [*]; done)), (by first | rfl | (simp; done) | (simp [*]; done)), H', ⟨Nat.le_refl _⟩, ⟨by (with_reducible repeat (first | apply Kd.R_alloc | apply Kd.R_drewN | apply Kd.R_drew)); exact HO_3.out⟩, ⟨by (with_reducible repeat (first | refine blk_drewN ?_ _ | refine blk_drew ?_ | refine blk_alloc ?_ _)); exact BK101.out⟩, ⟨by repeat (first | (with_reducible first | exact HB.out | apply below_alloc | apply pw_below_drewN | apply below_drew1 | refine below_set ?_ GE101.out) | exact HB.out)⟩⟩
        case round =>
          clear H'
          try clear p2
          try clear c4
          try clear c5
          try clear hcz6_0
          try clear hcz6_1
          try clear hcz6_2
          try clear hfz6_0
          try clear hfz6_1
          try clear hfz6_2
          try clear p2
          obtain ⟨x3_2, x4_2, x14_2, rfl, rfl, HA, HK2, HO_3, BK101, HB⟩ := hrel
          cases gk with
          | zero => exact absurd HA.out (by simp [spec_l3Reached.l1])
          | succ k2 =>
            have H := HA.out
            clear HA
            simp only [spec_l3Reached.l1] at H
            by_cases c7 : x14_2 < (l0_2.length : Int)
            · rw [if_pos c7] at H
              have c7b0 : decide (x14_2 < (l0_2.length : Int)) = true := decide_eq_true c7
              clear c7
              by_cases c8 : 0 ≤ x14_2
              · rw [if_pos c8] at H
                have c8b0 : decide (0 ≤ x14_2) = true := decide_eq_true c8
                clear c8
                by_cases c9 : x14_2 < (l0_2.length : Int)
                · rw [if_pos c9] at H
                  have c9b0 : decide (x14_2 < (l0_2.length : Int)) = true := decide_eq_true c9
                  clear c9
                  have H' := Aside0.mk H
                  clear H
                  have p105 : 0 ≤ (x14_2 : Int) := of_decide_eq_true (by first | (with_reducible assumption) | assumption)
                  have q105 : x14_2 < (l0_2.length : Int) := of_decide_eq_true (by first | (with_reducible assumption) | assumption)
                  obtain ⟨ad105, A105_1, c105_1, e105, hx105_0, hx105_1, hl105_1, hi105_1⟩ := at_T47 HR0_2.out x14_2 p105 q105
                  cases e105
                  replace hx105_0 := (HB.out.cell (World.block_lt_of_cell? w _ hx105_0)).trans hx105_0
                  replace hx105_1 := (HB.out.cell (World.block_lt_of_cell? w _ hx105_1)).trans hx105_1
                  have HR105_1 := Aside0.mk hi105_1
                  have HC105_1 := Aside0.mk hl105_1
                  clear hi105_1 hl105_1
                  replace p105 := eq_true p105
                  replace q105 := eq_true q105
                  go_wp2_with (first | ((with_reducible refine gate_dst (N := 6) rfl ?_); refine box_event ?hg (N := 6) ?hd (cs := #[.int .i64 0, .slice none 0 0]) (t := 47) ?hr ?_; (case hd => rfl); (case hg => rfl); (case hr => first | (go_simp; done) | (go_simp; rfl)); intro gb106 hg w10 hbox hb; have n0_ := Aside0.mk (Kd.R_below (by (with_reducible repeat (first | apply Kd.R_alloc | apply Kd.R_drewN | apply Kd.R_drew)); exact HO_3.out) hb); have n1_ := Aside0.mk (blk_below (g := gb101) (o := .cells #[.int .i64 a0_0, .int .i64 a0_1, .slice (some ad105) l0_2.length c0_2] 30 (0, 0)) (by (with_reducible repeat (first | refine blk_drewN ?_ _ | refine blk_drew ?_ | refine blk_alloc ?_ _)); exact BK101.out) hb); have n2_ := Aside0.mk (below_step (by repeat (first | (with_reducible first | exact HB.out | apply below_alloc | apply pw_below_drewN | apply below_drew1 | refine below_set ?_ GE101.out) | exact HB.out)) hb); have n3_ := Aside0.mk (hbox); have n4_ := Aside0.mk ((by rw [hg]; exact (below_size (by repeat (first | (with_reducible first | exact HB.out | apply below_alloc | apply pw_below_drewN | apply below_drew1 | refine below_set ?_ GE101.out) | exact HB.out))) : w.heap.size ≤ gb106)); have n5_ := Aside0.mk ((by rw [hg]; exact (below_size (by repeat (first | (with_reducible first | exact HB.out | apply below_alloc | apply pw_below_drewN | apply below_drew1 | refine below_set ?_ GE101.out) | exact HB.out))) : w.heap.size ≤ gb106)); have n6_ := Aside0.mk ((by rw [hg]; exact Nat.ne_of_lt (blk_lt (g := gb101) (o := .cells #[.int .i64 a0_0, .int .i64 a0_1, .slice (some ad105) l0_2.length c0_2] 30 (0, 0)) (by (with_reducible repeat (first | refine blk_drewN ?_ _ | refine blk_drew ?_ | refine blk_alloc ?_ _)); exact BK101.out)) : gb101 ≠ gb106)); have n7_ := Aside0.mk ((by rw [hg]; exact Nat.ne_of_gt (blk_lt (g := gb101) (o := .cells #[.int .i64 a0_0, .int .i64 a0_1, .slice (some ad105) l0_2.length c0_2] 30 (0, 0)) (by (with_reducible repeat (first | refine blk_drewN ?_ _ | refine blk_drew ?_ | refine blk_alloc ?_ _)); exact BK101.out)) : gb106 ≠ gb101)); clear HO_3; clear BK101; clear HB; have HO_3 := n0_; have BK101 := n1_; have HB := n2_; have BK106 := n3_; have GW106 := n4_; have GE106 := n5_; have NB101_106 := n6_; have NB106_101 := n7_; clear n0_ n1_ n2_ n3_ n4_ n5_ n6_ n7_; clear hb hbox hg; have hnb11 := NB106_101.out; have hnc11 := NB101_106.out; have hcz12_0 : w10.cell? ⟨gb106, 0, none⟩ = some (.int .i64 0) := (blk_cell BK106.out 0).trans rfl; have hcz12_1 : w10.cell? ⟨gb106, 1, none⟩ = some (.slice none 0 0) := (blk_cell BK106.out 1).trans rfl; have hfz12_0 := blk_frozen BK106.out 0; have hfz12_1 := blk_frozen BK106.out 1))
                  go_loopg [3, 4, 21] k2 (fun kq v3 v4 v21 w' => ∃ (x3_3 : List Int) (x4_3 : Bool) (x21_3 : Int), v4 = .bool x4_3 ∧ v21 = .int .i64 x21_3 ∧ Aside0 (spec_l3Reached.l2 kq x3_3 x4_3 l0_2 (l0_2.length : Int) x14_2 ((rd_T47 l0_2 x14_2).f1) (((rd_T47 l0_2 x14_2).f1).length : Int) x21_3 a0_0 a0_1 l0_2 ((rd_T47 l0_2 x14_2).f0) ((rd_T47 l0_2 x14_2).f1) = some r) ∧ Aside0 (kq ≤ k2) ∧ Aside0 (Kd.R (Kd.int .i64) 3 w' w.heap.size (fun _ => True) v3 x3_3) ∧ Aside0 (w'.heap[gb101]? = some (.cells #[.int .i64 a0_0, .int .i64 a0_1, (.slice (some ad105) l0_2.length c0_2)] 30 (0, 0))) ∧ Aside0 (w'.heap[gb106]? = some (.cells #[.int .i64 ((rd_T47 l0_2 x14_2).f0), (.slice A105_1 ((rd_T47 l0_2 x14_2).f1).length c105_1)] 47 (0, 0))) ∧ Aside0 (Below w.heap.size w w'))
                  case atStart => exact ⟨(x3_2), (x4_2), (0), (by first | rfl | (simp; done) | (simp [*]; done)), (by first | rfl | (simp; done) | (simp [*]; done)), H', ⟨Nat.le_refl _⟩, ⟨by (with_reducible repeat (first | apply Kd.R_alloc | apply Kd.R_drewN | apply Kd.R_drew)); exact Kd.R_mono (Kd.R_far (p := ⟨gb106, 1, none⟩) (Kd.R_far (p := ⟨gb106, 0, none⟩) (Kd.R_types HO_3.out BK106.out (by decide)) (fun _ hk => hk.2) (.int .i64 ((rd_T47 l0_2 x14_2).f0))) (fun _ hk => hk.2) (.slice A105_1 ((rd_T47 l0_2 x14_2).f1).length c105_1)) (fun _ hk => trivial)⟩, ⟨by (with_reducible repeat (first | refine blk_drewN ?_ _ | refine blk_drew ?_ | refine blk_alloc ?_ _)); refine blk_far ?_ NB101_106.out _; (with_reducible repeat (first | refine blk_drewN ?_ _ | refine blk_drew ?_ | refine blk_alloc ?_ _)); refine blk_far ?_ NB101_106.out _; (with_reducible repeat (first | refine blk_drewN ?_ _ | refine blk_drew ?_ | refine blk_alloc ?_ _)); exact BK101.out⟩, ⟨by (with_reducible repeat (first | refine blk_drewN ?_ _ | refine blk_drew ?_ | refine blk_alloc ?_ _)); refine blk_put (cs := #[.int .i64 ((rd_T47 l0_2 x14_2).f0), .slice none 0 0]) ?_ 1 _ rfl; (with_reducible repeat (first | refine blk_drewN ?_ _ | refine blk_drew ?_ | refine blk_alloc ?_ _)); refine blk_put (cs := #[.int .i64 0, .slice none 0 0]) ?_ 0 _ rfl; (with_reducible repeat (first | refine blk_drewN ?_ _ | refine blk_drew ?_ | refine blk_alloc ?_ _)); exact BK106.out⟩, ⟨by repeat (first | (with_reducible first | exact HB.out | apply below_alloc | apply pw_below_drewN | apply below_drew1 | refine below_set ?_ GE101.out | refine below_set ?_ GE106.out) | exact HB.out)⟩⟩
                  case round =>
                    clear H'
                    try clear c1
                    try clear p1
                    try clear q1
                    try clear hx1
                    try clear p2
                    try clear c4
                    try clear c5
                    try clear c7
                    try clear c7b0
                    try clear c8
                    try clear c8b0
                    try clear c9
                    try clear c9b0
                    try clear c10
                    try clear p10
                    try clear q10
                    try clear hx10
                    try clear c11
                    try clear hcz12_0
                    try clear hcz12_1
                    try clear hcz6_0
                    try clear hcz6_1
                    try clear hcz6_2
                    try clear hfz12_0
                    try clear hfz12_1
                    try clear hfz6_0
                    try clear hfz6_1
                    try clear hfz6_2
                    try clear hx105_0
                    try clear hx105_1
                    try clear p105
                    try clear p2
                    try clear q105
                    obtain ⟨x3_3, x4_3, x21_3, rfl, rfl, HA, HK3, HO_3, BK101, BK106, HB⟩ := hrel
                    cases gk with
                    | zero => exact absurd HA.out (by simp [spec_l3Reached.l2])
                    | succ k3 =>
                      have H := HA.out
                      clear HA
                      simp only [spec_l3Reached.l2] at H
                      by_cases c13 : x21_3 < (((rd_T47 l0_2 x14_2).f1).length : Int)
                      · rw [if_pos c13] at H
                        have c13b0 : decide (x21_3 < (((rd_T47 l0_2 x14_2).f1).length : Int)) = true := decide_eq_true c13
                        clear c13
                        by_cases c14 : 0 ≤ x21_3
                        · rw [if_pos c14] at H
                          have c14b0 : decide (0 ≤ x21_3) = true := decide_eq_true c14
                          clear c14
                          by_cases c15 : x21_3 < (((rd_T47 l0_2 x14_2).f1).length : Int)
                          · rw [if_pos c15] at H
                            have c15b0 : decide (x21_3 < (((rd_T47 l0_2 x14_2).f1).length : Int)) = true := decide_eq_true c15
                            clear c15
                            by_cases c16 : (rd ((rd_T47 l0_2 x14_2).f1) x21_3) ≥ 0
                            · rw [if_pos c16] at H
                              have c16b0 : decide (0 ≤ (rd ((rd_T47 l0_2 x14_2).f1) x21_3)) = true := decide_eq_true c16
                              clear c16
                              replace H := Option.bind_eq_some_iff.mp H
                              obtain ⟨t108, A170, H⟩ := H
                              replace H : (if t108 = true then ((spec_l1Has.f k3 x3_3 (rd ((rd_T47 l0_2 x14_2).f1) x21_3)).bind fun t109 => (if t109 = true then (spec_l3Reached.l2 k3 x3_3 x4_3 l0_2 (l0_2.length : Int) x14_2 ((rd_T47 l0_2 x14_2).f1) (((rd_T47 l0_2 x14_2).f1).length : Int) (wrap64 (x21_3 + 1)) a0_0 a0_1 l0_2 ((rd_T47 l0_2 x14_2).f0) ((rd_T47 l0_2 x14_2).f1)) else ((spec_l1Put.f k3 x3_3 (rd ((rd_T47 l0_2 x14_2).f1) x21_3)).bind fun t110 => (spec_l3Reached.l2 k3 t110 true l0_2 (l0_2.length : Int) x14_2 ((rd_T47 l0_2 x14_2).f1) (((rd_T47 l0_2 x14_2).f1).length : Int) (wrap64 (x21_3 + 1)) a0_0 a0_1 l0_2 ((rd_T47 l0_2 x14_2).f0) ((rd_T47 l0_2 x14_2).f1))))) else (spec_l3Reached.l2 k3 x3_3 x4_3 l0_2 (l0_2.length : Int) x14_2 ((rd_T47 l0_2 x14_2).f1) (((rd_T47 l0_2 x14_2).f1).length : Int) (wrap64 (x21_3 + 1)) a0_0 a0_1 l0_2 ((rd_T47 l0_2 x14_2).f0) ((rd_T47 l0_2 x14_2).f1))) = some r := H
                              have A17 := Aside0.mk A170
                              clear A170
                              by_cases c18 : t108 = true
                              · subst c18
                                have H1 : ((spec_l1Has.f k3 x3_3 (rd ((rd_T47 l0_2 x14_2).f1) x21_3)).bind fun t109 => (if t109 = true then (spec_l3Reached.l2 k3 x3_3 x4_3 l0_2 (l0_2.length : Int) x14_2 ((rd_T47 l0_2 x14_2).f1) (((rd_T47 l0_2 x14_2).f1).length : Int) (wrap64 (x21_3 + 1)) a0_0 a0_1 l0_2 ((rd_T47 l0_2 x14_2).f0) ((rd_T47 l0_2 x14_2).f1)) else ((spec_l1Put.f k3 x3_3 (rd ((rd_T47 l0_2 x14_2).f1) x21_3)).bind fun t110 => (spec_l3Reached.l2 k3 t110 true l0_2 (l0_2.length : Int) x14_2 ((rd_T47 l0_2 x14_2).f1) (((rd_T47 l0_2 x14_2).f1).length : Int) (wrap64 (x21_3 + 1)) a0_0 a0_1 l0_2 ((rd_T47 l0_2 x14_2).f0) ((rd_T47 l0_2 x14_2).f1))))) = some r := by rw [if_pos rfl] at H; exact H
                                clear H
                                have H := H1
                                clear H1
                                replace H := Option.bind_eq_some_iff.mp H
                                obtain ⟨t109, A190, H⟩ := H
                                replace H : (if t109 = true then (spec_l3Reached.l2 k3 x3_3 x4_3 l0_2 (l0_2.length : Int) x14_2 ((rd_T47 l0_2 x14_2).f1) (((rd_T47 l0_2 x14_2).f1).length : Int) (wrap64 (x21_3 + 1)) a0_0 a0_1 l0_2 ((rd_T47 l0_2 x14_2).f0) ((rd_T47 l0_2 x14_2).f1)) else ((spec_l1Put.f k3 x3_3 (rd ((rd_T47 l0_2 x14_2).f1) x21_3)).bind fun t110 => (spec_l3Reached.l2 k3 t110 true l0_2 (l0_2.length : Int) x14_2 ((rd_T47 l0_2 x14_2).f1) (((rd_T47 l0_2 x14_2).f1).length : Int) (wrap64 (x21_3 + 1)) a0_0 a0_1 l0_2 ((rd_T47 l0_2 x14_2).f0) ((rd_T47 l0_2 x14_2).f1)))) = some r := H
                                have A19 := Aside0.mk A190
                                clear A190
                                by_cases c20 : t109 = true
                                · subst c20
                                  have H1 : (spec_l3Reached.l2 k3 x3_3 x4_3 l0_2 (l0_2.length : Int) x14_2 ((rd_T47 l0_2 x14_2).f1) (((rd_T47 l0_2 x14_2).f1).length : Int) (wrap64 (x21_3 + 1)) a0_0 a0_1 l0_2 ((rd_T47 l0_2 x14_2).f0) ((rd_T47 l0_2 x14_2).f1)) = some r := by rw [if_pos rfl] at H; exact H
                                  clear H
                                  have H := H1
                                  clear H1
                                  have H' := Aside0.mk H
                                  clear H
                                  have p107 : 0 ≤ (x21_3 : Int) := of_decide_eq_true (by first | (with_reducible assumption) | assumption)
                                  have q107 : x21_3 < (((rd_T47 l0_2 x14_2).f1).length : Int) := of_decide_eq_true (by first | (with_reducible assumption) | assumption)
                                  obtain ⟨ad107, e107, hx107_0⟩ := Kd.at_int HR105_1.out x21_3 p107 q107
                                  cases e107
                                  replace hx107_0 := (HB.out.cell (World.block_lt_of_cell? w _ hx107_0)).trans hx107_0
                                  replace p107 := eq_true p107
                                  replace q107 := eq_true q107
                                  have hnb21 := NB106_101.out
                                  have hnc21 := NB101_106.out
                                  have hcz22_0 : wr.cell? ⟨gb106, 0, none⟩ = some (.int .i64 ((rd_T47 l0_2 x14_2).f0)) := (blk_cell BK106.out 0).trans rfl
                                  have hcz22_1 : wr.cell? ⟨gb106, 1, none⟩ = some (.slice (some ad107) ((rd_T47 l0_2 x14_2).f1).length c105_1) := (blk_cell BK106.out 1).trans rfl
                                  have hfz22_0 := blk_frozen BK106.out 0
                                  have hfz22_1 := blk_frozen BK106.out 1
                                  obtain ⟨Ao23, co23, eo23⟩ := Kd.R_slice HO_3.out
                                  subst eo23
                                  go_wp2_with (first | (go_at_call 66; (with_reducible refine (spec_l1Has.calls k3 _ _ x3_3 ((rd_T47 l0_2 x14_2).f0) true _ ?side1 ?side2 A17.out).mono ?_); (case side1 => repeat (first | exact (Kd.R_reads' HO_3.out).2.2 | (with_reducible refine Kd.C_alloc ?_ _) | (with_reducible refine Kd.C_drewN ?_ _) | (with_reducible refine Kd.C_drew ?_))); (case side2 => exact (Kd.R_reads' HO_3.out).2.1); rintro e w' ⟨rfl, ⟨nd, rfl⟩⟩) | (go_at_call 66; (with_reducible refine (spec_l1Has.calls k3 _ _ x3_3 (rd ((rd_T47 l0_2 x14_2).f1) x21_3) true _ ?side1 ?side2 A19.out).mono ?_); (case side1 => repeat (first | exact (Kd.R_reads' HO_3.out).2.2 | (with_reducible refine Kd.C_alloc ?_ _) | (with_reducible refine Kd.C_drewN ?_ _) | (with_reducible refine Kd.C_drew ?_))); (case side2 => exact (Kd.R_reads' HO_3.out).2.1); rintro e w' ⟨rfl, ⟨nd, rfl⟩⟩))
                                  go_roundg k3
                                  case measure => have := HK1.out; have := HK2.out; have := HK3.out; omega
                                  case rel => exact ⟨(x3_3), (x4_3), (wrap64 (x21_3 + 1)), (by first | rfl | (simp; done) | (simp [*]; done)), (by first | rfl | (simp; done) | (simp [*]; done)), H', ⟨by have := HK1.out; have := HK2.out; have := HK3.out; omega⟩, ⟨by (with_reducible repeat (first | apply Kd.R_alloc | apply Kd.R_drewN | apply Kd.R_drew)); exact HO_3.out⟩, ⟨by (with_reducible repeat (first | refine blk_drewN ?_ _ | refine blk_drew ?_ | refine blk_alloc ?_ _)); exact BK101.out⟩, ⟨by (with_reducible repeat (first | refine blk_drewN ?_ _ | refine blk_drew ?_ | refine blk_alloc ?_ _)); exact BK106.out⟩, ⟨by repeat (first | (with_reducible first | exact HB.out | apply below_alloc | apply pw_below_drewN | apply below_drew1 | refine below_set ?_ GE101.out | refine below_set ?_ GE106.out) | exact HB.out)⟩⟩
                                · replace c20 := Bool.eq_false_iff.mpr c20
                                  subst c20
                                  have H1 : ((spec_l1Put.f k3 x3_3 (rd ((rd_T47 l0_2 x14_2).f1) x21_3)).bind fun t110 => (spec_l3Reached.l2 k3 t110 true l0_2 (l0_2.length : Int) x14_2 ((rd_T47 l0_2 x14_2).f1) (((rd_T47 l0_2 x14_2).f1).length : Int) (wrap64 (x21_3 + 1)) a0_0 a0_1 l0_2 ((rd_T47 l0_2 x14_2).f0) ((rd_T47 l0_2 x14_2).f1))) = some r := by rw [if_neg (show ¬ (false = true) by decide)] at H; exact H
                                  clear H
                                  have H := H1
                                  clear H1
                                  replace H := Option.bind_eq_some_iff.mp H
                                  obtain ⟨t110, A240, H⟩ := H
                                  replace H : (spec_l3Reached.l2 k3 t110 true l0_2 (l0_2.length : Int) x14_2 ((rd_T47 l0_2 x14_2).f1) (((rd_T47 l0_2 x14_2).f1).length : Int) (wrap64 (x21_3 + 1)) a0_0 a0_1 l0_2 ((rd_T47 l0_2 x14_2).f0) ((rd_T47 l0_2 x14_2).f1)) = some r := H
                                  have A24 := Aside0.mk A240
                                  clear A240
                                  have H' := Aside0.mk H
                                  clear H
                                  have p107 : 0 ≤ (x21_3 : Int) := of_decide_eq_true (by first | (with_reducible assumption) | assumption)
                                  have q107 : x21_3 < (((rd_T47 l0_2 x14_2).f1).length : Int) := of_decide_eq_true (by first | (with_reducible assumption) | assumption)
                                  obtain ⟨ad107, e107, hx107_0⟩ := Kd.at_int HR105_1.out x21_3 p107 q107
                                  cases e107
                                  replace hx107_0 := (HB.out.cell (World.block_lt_of_cell? w _ hx107_0)).trans hx107_0
                                  replace p107 := eq_true p107
                                  replace q107 := eq_true q107
                                  have hnb25 := NB106_101.out
                                  have hnc25 := NB101_106.out
                                  have hcz26_0 : wr.cell? ⟨gb106, 0, none⟩ = some (.int .i64 ((rd_T47 l0_2 x14_2).f0)) := (blk_cell BK106.out 0).trans rfl
                                  have hcz26_1 : wr.cell? ⟨gb106, 1, none⟩ = some (.slice (some ad107) ((rd_T47 l0_2 x14_2).f1).length c105_1) := (blk_cell BK106.out 1).trans rfl
                                  have hfz26_0 := blk_frozen BK106.out 0
                                  have hfz26_1 := blk_frozen BK106.out 1
                                  obtain ⟨Ao27, co27, eo27⟩ := Kd.R_slice HO_3.out
                                  subst eo27
                                  go_wp2_with (first | (go_at_call 66; (with_reducible refine (spec_l1Has.calls k3 _ _ x3_3 ((rd_T47 l0_2 x14_2).f0) true _ ?side1 ?side2 A17.out).mono ?_); (case side1 => repeat (first | exact (Kd.R_reads' HO_3.out).2.2 | (with_reducible refine Kd.C_alloc ?_ _) | (with_reducible refine Kd.C_drewN ?_ _) | (with_reducible refine Kd.C_drew ?_))); (case side2 => exact (Kd.R_reads' HO_3.out).2.1); rintro e w' ⟨rfl, ⟨nd, rfl⟩⟩) | (go_at_call 66; (with_reducible refine (spec_l1Has.calls k3 _ _ x3_3 (rd ((rd_T47 l0_2 x14_2).f1) x21_3) false _ ?side1 ?side2 A19.out).mono ?_); (case side1 => repeat (first | exact (Kd.R_reads' HO_3.out).2.2 | (with_reducible refine Kd.C_alloc ?_ _) | (with_reducible refine Kd.C_drewN ?_ _) | (with_reducible refine Kd.C_drew ?_))); (case side2 => exact (Kd.R_reads' HO_3.out).2.1); rintro e w' ⟨rfl, ⟨nd, rfl⟩⟩) | ((with_reducible refine gate_callee (f := 67) rfl ?_); refine goesL_ (some 41) rfl rfl Try.func67 (by kernel_rfl) rfl #[.slice Ao27 x3_3.length co27, .int .i64 (rd ((rd_T47 l0_2 x14_2).f1) x21_3)] rfl (by (try simp only [List.map_toArray, List.map_cons, List.map_nil]); first | done | rfl | (simp only [List.length_drop, List.length_take]; rfl)) ?_; (with_reducible refine (spec_l1Put.calls k3 (fun k_ => some k_ = (.slice Ao27 x3_3.length co27 : Value).ownBlock) (.slice Ao27 x3_3.length co27) x3_3 (rd ((rd_T47 l0_2 x14_2).f1) x21_3) t110 w _ ?side1 ?side2 A24.out).mono ?_); (case side1 => repeat (first | (with_reducible first | exact HB.out | apply below_alloc | apply pw_below_drewN | apply below_drew1 | refine below_set ?_ GE101.out | refine below_set ?_ GE106.out) | exact HB.out)); (case side2 => exact Kd.R_tight rfl HO_3.out); rintro e w28 ⟨v111, rfl, ho0, hb, hkp⟩; refine ⟨_, rfl, ?_⟩; have n0_ := Aside0.mk (blk_kept (by (with_reducible repeat (first | refine blk_drewN ?_ _ | refine blk_drew ?_ | refine blk_alloc ?_ _)); exact BK101.out) hkp (fun hs_ => (fun e_ => (Kd.R_ne HO_3.out BK101.out (by decide)) e_) hs_)); have n1_ := Aside0.mk (blk_kept (by (with_reducible repeat (first | refine blk_drewN ?_ _ | refine blk_drew ?_ | refine blk_alloc ?_ _)); exact BK106.out) hkp (fun hs_ => (fun e_ => (Kd.R_ne HO_3.out BK106.out (by decide)) e_) hs_)); have n2_ := Aside0.mk (Kd.R_mono (ok' := fun k_ => True) ho0 (fun k_ hk_ => trivial)); have n3_ := Aside0.mk (hb); clear BK101; clear BK106; clear HB; clear HO_3; have BK101 := n0_; have BK106 := n1_; have HO112 := n2_; have HB := n3_; clear n0_ n1_ n2_ n3_; (try clear hb); (try clear hkp); (try clear ho0)))
                                  go_roundg k3
                                  case measure => have := HK1.out; have := HK2.out; have := HK3.out; omega
                                  case rel => exact ⟨(t110), (true), (wrap64 (x21_3 + 1)), (by first | rfl | (simp; done) | (simp [*]; done)), (by first | rfl | (simp; done) | (simp [*]; done)), H', ⟨by have := HK1.out; have := HK2.out; have := HK3.out; omega⟩, ⟨by (with_reducible repeat (first | apply Kd.R_alloc | apply Kd.R_drewN | apply Kd.R_drew)); exact HO112.out⟩, ⟨by (with_reducible repeat (first | refine blk_drewN ?_ _ | refine blk_drew ?_ | refine blk_alloc ?_ _)); exact BK101.out⟩, ⟨by (with_reducible repeat (first | refine blk_drewN ?_ _ | refine blk_drew ?_ | refine blk_alloc ?_ _)); exact BK106.out⟩, ⟨by repeat (first | (with_reducible first | exact HB.out | apply below_alloc | apply pw_below_drewN | apply below_drew1 | refine below_set ?_ GE101.out | refine below_set ?_ GE106.out) | exact HB.out)⟩⟩
                              · replace c18 := Bool.eq_false_iff.mpr c18
                                subst c18
                                have H1 : (spec_l3Reached.l2 k3 x3_3 x4_3 l0_2 (l0_2.length : Int) x14_2 ((rd_T47 l0_2 x14_2).f1) (((rd_T47 l0_2 x14_2).f1).length : Int) (wrap64 (x21_3 + 1)) a0_0 a0_1 l0_2 ((rd_T47 l0_2 x14_2).f0) ((rd_T47 l0_2 x14_2).f1)) = some r := by rw [if_neg (show ¬ (false = true) by decide)] at H; exact H
                                clear H
                                have H := H1
                                clear H1
                                have H' := Aside0.mk H
                                clear H
                                have p107 : 0 ≤ (x21_3 : Int) := of_decide_eq_true (by first | (with_reducible assumption) | assumption)
                                have q107 : x21_3 < (((rd_T47 l0_2 x14_2).f1).length : Int) := of_decide_eq_true (by first | (with_reducible assumption) | assumption)
                                obtain ⟨ad107, e107, hx107_0⟩ := Kd.at_int HR105_1.out x21_3 p107 q107
                                cases e107
                                replace hx107_0 := (HB.out.cell (World.block_lt_of_cell? w _ hx107_0)).trans hx107_0
                                replace p107 := eq_true p107
                                replace q107 := eq_true q107
                                have hnb29 := NB106_101.out
                                have hnc29 := NB101_106.out
                                have hcz30_0 : wr.cell? ⟨gb106, 0, none⟩ = some (.int .i64 ((rd_T47 l0_2 x14_2).f0)) := (blk_cell BK106.out 0).trans rfl
                                have hcz30_1 : wr.cell? ⟨gb106, 1, none⟩ = some (.slice (some ad107) ((rd_T47 l0_2 x14_2).f1).length c105_1) := (blk_cell BK106.out 1).trans rfl
                                have hfz30_0 := blk_frozen BK106.out 0
                                have hfz30_1 := blk_frozen BK106.out 1
                                obtain ⟨Ao31, co31, eo31⟩ := Kd.R_slice HO_3.out
                                subst eo31
                                go_wp2_with (first | (go_at_call 66; (with_reducible refine (spec_l1Has.calls k3 _ _ x3_3 ((rd_T47 l0_2 x14_2).f0) false _ ?side1 ?side2 A17.out).mono ?_); (case side1 => repeat (first | exact (Kd.R_reads' HO_3.out).2.2 | (with_reducible refine Kd.C_alloc ?_ _) | (with_reducible refine Kd.C_drewN ?_ _) | (with_reducible refine Kd.C_drew ?_))); (case side2 => exact (Kd.R_reads' HO_3.out).2.1); rintro e w' ⟨rfl, ⟨nd, rfl⟩⟩))
                                go_roundg k3
                                case measure => have := HK1.out; have := HK2.out; have := HK3.out; omega
                                case rel => exact ⟨(x3_3), (x4_3), (wrap64 (x21_3 + 1)), (by first | rfl | (simp; done) | (simp [*]; done)), (by first | rfl | (simp; done) | (simp [*]; done)), H', ⟨by have := HK1.out; have := HK2.out; have := HK3.out; omega⟩, ⟨by (with_reducible repeat (first | apply Kd.R_alloc | apply Kd.R_drewN | apply Kd.R_drew)); exact HO_3.out⟩, ⟨by (with_reducible repeat (first | refine blk_drewN ?_ _ | refine blk_drew ?_ | refine blk_alloc ?_ _)); exact BK101.out⟩, ⟨by (with_reducible repeat (first | refine blk_drewN ?_ _ | refine blk_drew ?_ | refine blk_alloc ?_ _)); exact BK106.out⟩, ⟨by repeat (first | (with_reducible first | exact HB.out | apply below_alloc | apply pw_below_drewN | apply below_drew1 | refine below_set ?_ GE101.out | refine below_set ?_ GE106.out) | exact HB.out)⟩⟩
                            · rw [if_neg c16] at H
                              have c16b0 : decide (0 ≤ (rd ((rd_T47 l0_2 x14_2).f1) x21_3)) = false := decide_eq_false c16
                              clear c16
                              have H' := Aside0.mk H
                              clear H
                              have p107 : 0 ≤ (x21_3 : Int) := of_decide_eq_true (by first | (with_reducible assumption) | assumption)
                              have q107 : x21_3 < (((rd_T47 l0_2 x14_2).f1).length : Int) := of_decide_eq_true (by first | (with_reducible assumption) | assumption)
                              obtain ⟨ad107, e107, hx107_0⟩ := Kd.at_int HR105_1.out x21_3 p107 q107
                              cases e107
                              replace hx107_0 := (HB.out.cell (World.block_lt_of_cell? w _ hx107_0)).trans hx107_0
                              replace p107 := eq_true p107
                              replace q107 := eq_true q107
                              go_wp2
                              go_roundg k3
                              case measure => have := HK1.out; have := HK2.out; have := HK3.out; omega
                              case rel => exact ⟨(x3_3), (x4_3), (wrap64 (x21_3 + 1)), (by first | rfl | (simp; done) | (simp [*]; done)), (by first | rfl | (simp; done) | (simp [*]; done)), H', ⟨by have := HK1.out; have := HK2.out; have := HK3.out; omega⟩, ⟨by (with_reducible repeat (first | apply Kd.R_alloc | apply Kd.R_drewN | apply Kd.R_drew)); exact HO_3.out⟩, ⟨by (with_reducible repeat (first | refine blk_drewN ?_ _ | refine blk_drew ?_ | refine blk_alloc ?_ _)); exact BK101.out⟩, ⟨by (with_reducible repeat (first | refine blk_drewN ?_ _ | refine blk_drew ?_ | refine blk_alloc ?_ _)); exact BK106.out⟩, ⟨by repeat (first | (with_reducible first | exact HB.out | apply below_alloc | apply pw_below_drewN | apply below_drew1 | refine below_set ?_ GE101.out | refine below_set ?_ GE106.out) | exact HB.out)⟩⟩
                          · rw [if_neg c15] at H
                            exact absurd H (by simp)
                        · rw [if_neg c14] at H
                          exact absurd H (by simp)
                      · rw [if_neg c13] at H
                        have c13b0 : decide (x21_3 < (((rd_T47 l0_2 x14_2).f1).length : Int)) = false := decide_eq_false c13
                        clear c13
                        have H' := Aside0.mk H
                        clear H
                        go_wp2
                        go_roundg k3
                        case measure => have := HK1.out; have := HK2.out; have := HK3.out; omega
                        case rel => exact ⟨(x3_3), (x4_3), (wrap64 (x14_2 + 1)), (by first | rfl | (simp; done) | (simp [*]; done)), (by first | rfl | (simp; done) | (simp [*]; done)), H', ⟨by have := HK1.out; have := HK2.out; have := HK3.out; omega⟩, ⟨by (with_reducible repeat (first | apply Kd.R_alloc | apply Kd.R_drewN | apply Kd.R_drew)); exact HO_3.out⟩, ⟨by (with_reducible repeat (first | refine blk_drewN ?_ _ | refine blk_drew ?_ | refine blk_alloc ?_ _)); exact BK101.out⟩, ⟨by repeat (first | (with_reducible first | exact HB.out | apply below_alloc | apply pw_below_drewN | apply below_drew1 | refine below_set ?_ GE101.out | refine below_set ?_ GE106.out) | exact HB.out)⟩⟩
                · rw [if_neg c9] at H
                  exact absurd H (by simp)
              · rw [if_neg c8] at H
                exact absurd H (by simp)
            · rw [if_neg c7] at H
              have c7b0 : decide (x14_2 < (l0_2.length : Int)) = false := decide_eq_false c7
              clear c7
              have H' := Aside0.mk H
              clear H
              go_wp2
              go_roundg k2
              case measure => have := HK1.out; have := HK2.out; omega
              case rel => exact ⟨(x3_2), (x4_2), (by first | rfl | (simp; done) | (simp [*]; done)), H', ⟨by have := HK1.out; have := HK2.out; omega⟩, ⟨by (with_reducible repeat (first | apply Kd.R_alloc | apply Kd.R_drewN | apply Kd.R_drew)); exact HO_3.out⟩, ⟨by (with_reducible repeat (first | refine blk_drewN ?_ _ | refine blk_drew ?_ | refine blk_alloc ?_ _)); exact BK101.out⟩, ⟨by repeat (first | (with_reducible first | exact HB.out | apply below_alloc | apply pw_below_drewN | apply below_drew1 | refine below_set ?_ GE101.out) | exact HB.out)⟩⟩
      · replace c5 := Bool.eq_false_iff.mpr c5
        subst c5
        have H1 : (some x3_1) = some r := by rw [if_neg (show ¬ (false = true) by decide)] at H; exact H
        clear H
        have H := H1
        clear H1
        obtain rfl := Option.some.inj H
        go_wp2
        go_ret
        exact ⟨_, by first | rfl | (simp [errW_none, errW_some] <;> rfl) | (simp [*, errW_none, errW_some] <;> rfl), by (with_reducible repeat (first | apply Kd.R_alloc | apply Kd.R_drewN | apply Kd.R_drew)); exact HO_3.out, by repeat (first | (with_reducible first | exact HB.out | apply below_alloc | apply pw_below_drewN | apply below_drew1 | refine below_set ?_ GE101.out) | exact HB.out)⟩
end Go.Proofs.Ytohbdjdjjbieeaa.P
namespace Go.Proofs.Ytohbdjdjjbieeaa.P
open Go.RowKit Go.Proofs.YtohbdjdjjbieeaaW.PrintWords
set_option linter.unusedVariables false
set_option linter.unusedSimpArgs false
theorem stepX_len (f x : Int) (q : List Bool × Bool) (h : q.1.length = 6) : (stepX f x q).1.length = 6 := by
  unfold stepX
  split
  · exact set6_len _ _ h
  · exact h
theorem ruleX_len (f : Int) (l : List Int) : ∀ q : List Bool × Bool, q.1.length = 6 → (ruleX f l q).1.length = 6 := by
  induction l with
  | nil => exact fun q h => h
  | cons x l ih => exact fun q h => ih _ (stepX_len f x q h)
theorem stepX_cnt (f x : Int) (hx : x < 6) (q : List Bool × Bool) (h : q.1.length = 6) :
    cntF (stepX f x q).1 ≤ cntF q.1 ∧ ((stepX f x q).2 = true → q.2 = true ∨ cntF (stepX f x q).1 < cntF q.1) := by
  unfold stepX
  split
  · rename_i hc
    simp only [Bool.and_eq_true, Bool.not_eq_true', decide_eq_true_eq] at hc
    have := cntF_set q.1 x.toNat (by omega) hc.2.2
    exact ⟨by dsimp only; omega, fun _ => .inr (by dsimp only; omega)⟩
  · exact ⟨Nat.le_refl _, fun h => .inl h⟩
theorem ruleX_cnt (f : Int) (l : List Int) (hl : ∀ x, x ∈ l → x < 6) : ∀ q : List Bool × Bool, q.1.length = 6 →
    cntF (ruleX f l q).1 ≤ cntF q.1 ∧ ((ruleX f l q).2 = true → q.2 = true ∨ cntF (ruleX f l q).1 < cntF q.1) := by
  induction l with
  | nil => intro q h; exact ⟨Nat.le_refl _, fun h => .inl h⟩
  | cons x l ih =>
    intro q h
    obtain ⟨h2, h3⟩ := ih (fun y hy => hl y (List.mem_cons_of_mem _ hy)) (stepX f x q) (stepX_len f x q h)
    obtain ⟨h4, h5⟩ := stepX_cnt f x (hl x List.mem_cons_self) q h
    refine ⟨Nat.le_trans h2 h4, fun h6 => ?_⟩
    rcases h3 h6 with h7 | h7
    · rcases h5 h7 with h8 | h8
      · exact .inl h8
      · exact .inr (Nat.lt_of_le_of_lt h2 h8)
    · exact .inr (Nat.lt_of_lt_of_le h7 h4)
theorem passX_cnt (l : List S47) (hl : ∀ y, y ∈ l → ∀ x, x ∈ y.f1 → x < 6) : ∀ q : List Bool × Bool, q.1.length = 6 →
    (passX l q).1.length = 6 ∧ cntF (passX l q).1 ≤ cntF q.1 ∧ ((passX l q).2 = true → q.2 = true ∨ cntF (passX l q).1 < cntF q.1) := by
  induction l with
  | nil => intro q h; exact ⟨h, Nat.le_refl _, fun h => .inl h⟩
  | cons y l ih =>
    intro q h
    obtain ⟨h1, h2, h3⟩ := ih (fun z hz => hl z (List.mem_cons_of_mem _ hz)) (ruleX y.f0 y.f1 q) (ruleX_len _ _ q h)
    obtain ⟨h4, h5⟩ := ruleX_cnt y.f0 y.f1 (hl y List.mem_cons_self) q h
    refine ⟨h1, Nat.le_trans h2 h4, fun h6 => ?_⟩
    rcases h3 h6 with h7 | h7
    · rcases h5 h7 with h8 | h8
      · exact .inl h8
      · exact .inr (Nat.lt_of_le_of_lt h2 h8)
    · exact .inr (Nat.lt_of_lt_of_le h7 h4)
theorem okL_sym {l : List S47} (h : okL l) : ∀ y, y ∈ l → ∀ x, x ∈ y.f1 → x < 6 := fun y hy x hx => by
  obtain ⟨j, hj, rfl⟩ := rd_mem hy
  obtain ⟨i, hi, rfl⟩ := List.getElem_of_mem hx
  have := (h.2 j hj).1.2 i hi
  unfold rd at this
  rw [List.getD_eq_getElem?_getD, Int.toNat_natCast, List.getElem?_eq_getElem hi] at this
  exact this
theorem reach_l2 (a0 a1 : Int) (l : List S47) (i : Int) (y : S47) (hy : okR6 y) (hyl : y.f1.length ≤ 4) (X : List Int) (d : Nat) : ∀ (j : Nat) (s : List Bool) (ag : Bool), s.length = 6 → j ≤ y.f1.length → y.f1.length - j = d →
    Ev (fun k => spec_l3Reached.l1 k (placesF 0 (ruleX y.f0 (y.f1.drop j) (s, ag)).1) (ruleX y.f0 (y.f1.drop j) (s, ag)).2 l l.length (wrap64 (i + 1)) a0 a1 l) X →
    Ev (fun k => spec_l3Reached.l2 k (placesF 0 s) ag l l.length i y.f1 y.f1.length j a0 a1 l y.f0 y.f1) X := by
  induction d with
  | zero =>
    intro j s ag hs h1 hd h0
    rw [List.drop_of_length_le (by omega)] at h0
    obtain ⟨K, h⟩ := h0
    dsimp only at h
    refine ⟨K + 1, fun k hk => ?_⟩
    dsimp only
    obtain ⟨k, rfl⟩ : ∃ m, k = m + 1 := ⟨k - 1, by omega⟩
    simp only [spec_l3Reached.l2]
    rw [if_neg (by omega)]
    exact h k (by omega)
  | succ d ih =>
    intro j s ag hs h1 hd h0
    have hj : j < y.f1.length := by omega
    have hx6 := hy.2 j hj
    have hdj : y.f1.drop j = rd y.f1 j :: y.f1.drop (j + 1) := getD_drop y.f1 j 0 hj
    have ew : wrap64 ((j : Int) + 1) = ((j + 1 : Nat) : Int) := by unfold wrap64; omega
    rw [hdj] at h0
    have hstep : ruleX y.f0 (rd y.f1 j :: y.f1.drop (j + 1)) (s, ag) = ruleX y.f0 (y.f1.drop (j + 1)) (stepX y.f0 (rd y.f1 j) (s, ag)) := rfl
    rw [hstep] at h0
    have hlen := stepX_len y.f0 (rd y.f1 j) (s, ag) hs
    obtain ⟨K, h⟩ := ih (j + 1) _ _ hlen (by omega) (by omega) (show Ev (fun k => spec_l3Reached.l1 k (placesF 0 (ruleX y.f0 (y.f1.drop (j + 1)) ((stepX y.f0 (rd y.f1 j) (s, ag)).1, (stepX y.f0 (rd y.f1 j) (s, ag)).2)).1) (ruleX y.f0 (y.f1.drop (j + 1)) ((stepX y.f0 (rd y.f1 j) (s, ag)).1, (stepX y.f0 (rd y.f1 j) (s, ag)).2)).2 l l.length (wrap64 (i + 1)) a0 a1 l) X from h0)
    dsimp only at h
    refine ⟨K + 11, fun k hk => ?_⟩
    dsimp only
    obtain ⟨k, rfl⟩ : ∃ m, k = m + 1 := ⟨k - 1, by omega⟩
    have hk2 := h k (by omega)
    simp only [spec_l3Reached.l2]
    rw [if_pos (by omega), if_pos (by omega), if_pos (by omega), ew]
    by_cases h0 : rd y.f1 j ≥ 0
    · rw [if_pos h0, has6 s hs y.f0 hy.1.1 hy.1.2 k (by omega)]
      simp only [Option.bind_some]
      cases hv : s.getD y.f0.toNat false with
      | true =>
        rw [if_pos rfl, has6 s hs (rd y.f1 j) h0 hx6 k (by omega)]
        simp only [Option.bind_some]
        cases hu : s.getD (rd y.f1 j).toNat false with
        | true =>
          have e : stepX y.f0 (rd y.f1 j) (s, ag) = (s, ag) := by unfold stepX; exact if_neg (by rw [show (s, ag).1 = s from rfl, hv, hu, decide_eq_true (show 0 ≤ rd y.f1 j from h0)]; decide)
          rw [e] at hk2
          rw [if_pos rfl]
          exact hk2
        | false =>
          have e : stepX y.f0 (rd y.f1 j) (s, ag) = (s.set (rd y.f1 j).toNat true, true) := by unfold stepX; exact if_pos (by rw [show (s, ag).1 = s from rfl, hv, hu, decide_eq_true (show 0 ≤ rd y.f1 j from h0)]; rfl)
          rw [e] at hk2
          rw [if_neg (by decide), put6 s hs (rd y.f1 j) h0 hx6 k (by omega)]
          exact hk2
      | false =>
        have e : stepX y.f0 (rd y.f1 j) (s, ag) = (s, ag) := by unfold stepX; exact if_neg (by rw [show (s, ag).1 = s from rfl, hv, Bool.false_and]; decide)
        rw [e] at hk2
        rw [if_neg (by decide)]
        exact hk2
    · have e : stepX y.f0 (rd y.f1 j) (s, ag) = (s, ag) := by unfold stepX; exact if_neg (by rw [decide_eq_false (show ¬ 0 ≤ rd y.f1 j from h0), Bool.false_and, Bool.and_false]; decide)
      rw [e] at hk2
      rw [if_neg h0]
      exact hk2
theorem reach_l1 (a0 a1 : Int) (l : List S47) (hl : okL l) (X : List Int) (d : Nat) : ∀ (i : Nat) (s : List Bool) (ag : Bool), s.length = 6 → i ≤ l.length → l.length - i = d →
    Ev (fun k => spec_l3Reached.l0 k (placesF 0 (passX (l.drop i) (s, ag)).1) (passX (l.drop i) (s, ag)).2 a0 a1 l) X →
    Ev (fun k => spec_l3Reached.l1 k (placesF 0 s) ag l l.length i a0 a1 l) X := by
  have hb := hl.1
  induction d with
  | zero =>
    intro i s ag hs h1 hd h0
    rw [List.drop_of_length_le (by omega)] at h0
    obtain ⟨K, h⟩ := h0
    dsimp only at h
    refine ⟨K + 1, fun k hk => ?_⟩
    dsimp only
    obtain ⟨k, rfl⟩ : ∃ m, k = m + 1 := ⟨k - 1, by omega⟩
    simp only [spec_l3Reached.l1]
    rw [if_neg (by omega)]
    exact h k (by omega)
  | succ d ih =>
    intro i s ag hs h1 hd h0
    have hi : i < l.length := by omega
    obtain ⟨hy, hyl⟩ := hl.2 i hi
    have hdi : l.drop i = rd_T47 l i :: l.drop (i + 1) := getD_drop l i z47 hi
    rw [hdi] at h0
    have ew : wrap64 ((i : Int) + 1) = ((i + 1 : Nat) : Int) := by unfold wrap64; omega
    have hstep : ∀ q, passX (rd_T47 l i :: l.drop (i + 1)) q = passX (l.drop (i + 1)) (ruleX (rd_T47 l i).f0 (rd_T47 l i).f1 q) := fun _ => rfl
    rw [hstep] at h0
    have hlen := ruleX_len (rd_T47 l i).f0 (rd_T47 l i).f1 (s, ag) hs
    obtain ⟨K, h⟩ := reach_l2 a0 a1 l i (rd_T47 l i) hy hyl X (rd_T47 l i).f1.length 0 s ag hs (by omega) (by omega) (by
      rw [List.drop_zero, ew]
      exact ih (i + 1) _ _ hlen (by omega) (by omega) h0)
    dsimp only at h
    refine ⟨K + 1, fun k hk => ?_⟩
    dsimp only
    obtain ⟨k, rfl⟩ : ∃ m, k = m + 1 := ⟨k - 1, by omega⟩
    simp only [spec_l3Reached.l1]
    rw [if_pos (by omega), if_pos (by omega), if_pos (by omega)]
    exact h k (by omega)
theorem reach_l0 (a0 a1 : Int) (l : List S47) (hl : okL l) (n : Nat) : ∀ s : List Bool, s.length = 6 → cntF s < n →
    Ev (fun k => spec_l3Reached.l0 k (placesF 0 s) true a0 a1 l) (placesF 0 (reachN l n s)) := by
  induction n with
  | zero => intro s _ h; omega
  | succ n ih =>
    intro s hs hc
    obtain ⟨h1, h2, h3⟩ := passX_cnt l (okL_sym hl) (s, false) hs
    have key : Ev (fun k => spec_l3Reached.l0 k (placesF 0 (passX l (s, false)).1) (passX l (s, false)).2 a0 a1 l) (placesF 0 (reachN l (n + 1) s)) := by
      have e : reachN l (n + 1) s = if (passX l (s, false)).2 = true then reachN l n (passX l (s, false)).1 else (passX l (s, false)).1 := rfl
      rw [e]
      cases hq : (passX l (s, false)).2 with
      | true =>
        rw [if_pos rfl]
        refine ih _ h1 ?_
        rcases h3 hq with h4 | h4
        · cases h4
        · have h5 : cntF (passX l (s, false)).1 < cntF s := h4
          omega
      | false =>
        rw [if_neg (by decide)]
        refine ⟨1, fun k hk => ?_⟩
        dsimp only
        obtain ⟨k, rfl⟩ : ∃ m, k = m + 1 := ⟨k - 1, by omega⟩
        simp only [spec_l3Reached.l0]
        rw [if_neg (by decide)]
    obtain ⟨K, h⟩ := reach_l1 a0 a1 l hl _ l.length 0 s false hs (by omega) (by omega) (by rw [List.drop_zero]; exact key)
    dsimp only at h
    refine ⟨K + 1, fun k hk => ?_⟩
    dsimp only
    obtain ⟨k, rfl⟩ : ∃ m, k = m + 1 := ⟨k - 1, by omega⟩
    simp only [spec_l3Reached.l0]
    rw [if_pos trivial]
    exact h k (by omega)
theorem l3Reached_ev (a0 a1 : Int) (l : List S47) (hl : okL l) : Ev (fun k => spec_l3Reached.f k a0 a1 l) (placesF 0 (reachF l)) :=
  reach_l0 a0 a1 l hl 7 [true, false, false, false, false, false] rfl (by decide)
theorem passX_len (l : List S47) : ∀ q : List Bool × Bool, q.1.length = 6 → (passX l q).1.length = 6 := by
  induction l with
  | nil => exact fun q h => h
  | cons y l ih => exact fun q h => ih _ (ruleX_len _ _ q h)
theorem reachN_len (l : List S47) (n : Nat) : ∀ s : List Bool, s.length = 6 → (reachN l n s).length = 6 := by
  induction n with
  | zero => intro s h; exact h
  | succ n ih =>
    intro s h
    unfold reachN
    split
    · exact ih _ (passX_len l (s, false) h)
    · exact passX_len l (s, false) h
theorem reachF_len (l : List S47) : (reachF l).length = 6 := reachN_len l 7 _ rfl
end Go.Proofs.Ytohbdjdjjbieeaa.P
namespace Go.Proofs.Ytohbdjdjjbieeaa.P
open Go.RowKit Go.Proofs.YtohbdjdjjbieeaaW.PrintWords Go.Proofs.YtohbdjdjjbieeaaW.PrintLast Go.Proofs.YtohbdjdjjbieeaaW.PrintMore
set_option linter.unusedVariables false
set_option linter.unusedSimpArgs false
def useF1 (P R : List Bool) (x : S47) : Bool := (!R.getD x.f0.toNat false || !P.getD x.f0.toNat false) || x.f1.any (proP P)
def useF2 (R : List Bool) (x : S47) : Bool := !R.getD x.f0.toNat false
def useA (l : List S47) : List S47 := l.filter fun x => !useF1 (closedF mkPro l) (reachF l) x
def usefulF (l : List S47) : List S47 := (useA l).filter fun x => !useF2 (reachF (useA l)) x
theorem mem_rd {l : List S47} {j : Nat} (h : j < l.length) : rd_T47 l j ∈ l := by
  unfold rd_T47
  rw [Int.toNat_natCast, List.getD_eq_getElem?_getD, List.getElem?_eq_getElem h]
  exact List.getElem_mem h
theorem filter_ok {l : List S47} {p : S47 → Bool} (h : ∀ j : Nat, j < l.length → okR6 (rd_T47 l j)) : ∀ j : Nat, j < (l.filter p).length → okR6 (rd_T47 (l.filter p) j) := fun j hj => by
  obtain ⟨i, hi, he⟩ := rd_mem (List.mem_filter.1 (mem_rd hj)).1
  rw [← he]
  exact h i hi
theorem below_grown {w W V : World} {row : Option Nat} (h : Below w.heap.size w W) (hg : W.grownBy V row) (hr : ∀ k, row = some k → w.heap.size ≤ k) : Below w.heap.size w V :=
  ⟨hg.os.trans h.os, hg.tape.trans h.tape, hg.output.trans h.output, Nat.le_trans h.size hg.size, fun k hk => (hg.block k (Nat.lt_of_lt_of_le hk h.size) (fun e => by have := hr k e.symm; omega)).trans (h.block k hk)⟩
theorem S_put {α : Type} {d : Kd α} {e g t base : Nat} {W W' : World} {ok : Nat → Prop} {v : Value} {xs : List α} {cells : Array Value} (h : Kd.S d e W base ok v xs) (hb : W.heap[g]? = some (.cells cells t (0, 0))) (ht : ∀ q, q ∈ e :: d.E → q ≠ t) (hW : ∀ k, k ≠ g → W'.heap[k]? = W.heap[k]?) : Kd.S d e W' base ok v xs :=
  Kd.S_mono (Kd.S_step (Kd.S_types h hb ht) (fun k hk _ => hW k hk.2)) (fun _ hk => hk.1)
set_option maxHeartbeats 2000000 in
theorem pred_use (b0 b1 b2 b3 b4 b5 : Bool) (B : Nat) (w : World) (hB : w.heap[B]? = some (.cells #[.bool b0, .bool b1, .bool b2, .bool b3, .bool b4, .bool b5] 54 (0, 0))) :
    PredID 81 #[.pointer (some ⟨B, 0, none⟩)] (fun x => x < 6) (fun x => decide (0 ≤ x) && ![b0, b1, b2, b3, b4, b5].getD x.toNat false) w := fun W x hb hx => by
  have hB' := blk_below hB hb
  clear hb hB
  show Calls Try.prog 81 #[.int .i64 x, .pointer (some ⟨B, 0, none⟩)] W fun e w' => e = .returned (.bool (decide (0 ≤ x) && ![b0, b1, b2, b3, b4, b5].getD x.toNat false)) ∧ Below W.heap.size W w'
  by_cases h0 : x < 0
  · have d1 : decide (x < 0) = true := decide_eq_true h0
    have d2 : decide (0 ≤ x) = false := decide_eq_false (by omega)
    clear h0 hB'
    go_enter Try.func81, Try.ntmps81
    go_wp2
    go_ret
    exact ⟨by simp [d1, d2], Below.refl _ _⟩
  · have d1 : decide (x < 0) = false := decide_eq_false h0
    have d2 : decide (0 ≤ x) = true := decide_eq_true (by omega)
    have h1 : 0 ≤ x := by omega
    have hn : x.toNat < 6 := by omega
    have hc : W.cell? ⟨B, x.toNat, none⟩ = some (.bool ([b0, b1, b2, b3, b4, b5].getD x.toNat false)) := (blk_cell hB' x.toNat).trans (bools_get b0 b1 b2 b3 b4 b5 x.toNat hn)
    have D := Aside0.mk (And.intro d1 d2)
    clear hB' h0
    generalize [b0, b1, b2, b3, b4, b5].getD x.toNat false = v at hc ⊢
    go_enter Try.func81, Try.ntmps81
    go_wp2
    go_ret
    exact ⟨by cases v <;> rfl, Below.refl _ _⟩
theorem pred_u1 (p0 p1 p2 p3 p4 p5 q0 q1 q2 q3 q4 q5 : Bool) (gp gr : Nat) (row : Option Nat) (w : World) (hP : w.heap[gp]? = some (.cells #[.bool p0, .bool p1, .bool p2, .bool p3, .bool p4, .bool p5] 54 (0, 0))) (hR : w.heap[gr]? = some (.cells #[.bool q0, .bool q1, .bool q2, .bool q3, .bool q4, .bool q5] 54 (0, 0))) (hpa : some gp ≠ row) (hra : some gr ≠ row) :
    PredRG 80 #[.pointer (some ⟨gr, 0, none⟩), .pointer (some ⟨gp, 0, none⟩)] (fun x => okR6 x) (useF1 [p0, p1, p2, p3, p4, p5] [q0, q1, q2, q3, q4, q5]) row w := fun W x A c hb hc hr ok => by
  show Calls Try.prog 80 #[.agg #[.int .i64 x.f0, .slice A x.f1.length c], .pointer (some ⟨gr, 0, none⟩), .pointer (some ⟨gp, 0, none⟩)] W fun e w' => e = .returned (.bool (useF1 [p0, p1, p2, p3, p4, p5] [q0, q1, q2, q3, q4, q5] x)) ∧ Below W.heap.size W w'
  have eg : ∀ args w, (callFunc 81 args).run Try.prog w = .ok (.enter 81 args) w := enters_of Try.func81 (by kernel_rfl) rfl
  have hP2 := blk_grown hP hb hpa
  have hR2 := blk_grown hR hb hra
  have CF := fun (V : World) (hV : Below W.heap.size W V) =>
    containsFunc_intD _ #[.pointer (some ⟨gp, 0, none⟩)] eg (proP [p0, p1, p2, p3, p4, p5]) A c x.f1 V (Kd.C_below hr hV) hc (fun x => x < 6) ok.2 (pred_use p0 p1 p2 p3 p4 p5 gp V (blk_below hP2 hV))
  have hn0 : 0 ≤ x.f0 := ok.1.1
  have hn1 : x.f0 < 6 := ok.1.2
  have hnn : x.f0.toNat < 6 := by omega
  have hcp : W.cell? ⟨gp, x.f0.toNat, none⟩ = some (.bool ([p0, p1, p2, p3, p4, p5].getD x.f0.toNat false)) := (blk_cell hP2 x.f0.toNat).trans (bools_get p0 p1 p2 p3 p4 p5 x.f0.toNat hnn)
  have hcr : W.cell? ⟨gr, x.f0.toNat, none⟩ = some (.bool ([q0, q1, q2, q3, q4, q5].getD x.f0.toNat false)) := (blk_cell hR2 x.f0.toNat).trans (bools_get q0 q1 q2 q3 q4 q5 x.f0.toNat hnn)
  unfold useF1
  have HB := Aside0.mk (Below.refl W.heap.size W)
  have HCP := Aside0.mk hcp
  have HCR := Aside0.mk hcr
  clear hb hr ok eg hP hR hP2 hR2 hcp hcr hpa hra
  generalize x.f1.any (proP [p0, p1, p2, p3, p4, p5]) = v at CF ⊢
  generalize [p0, p1, p2, p3, p4, p5].getD x.f0.toNat false = pv at HCP ⊢
  generalize [q0, q1, q2, q3, q4, q5].getD x.f0.toNat false = rv at HCR ⊢
  cases rv with
  | false =>
    clear CF HCP
    go_enter Try.func80, Try.ntmps80
    go_wp2_with (first | ((with_reducible refine gate_dst (N := 3) rfl ?_); refine box_event ?hg (N := 3) ?hd (cs := #[.int .i64 x.f0, .slice A x.f1.length c]) (t := 47) ?hr ?_; (case hd => rfl); (case hg => rfl); (case hr => first | (go_simp; done) | (go_simp; rfl)); intro gx hg_ w1 hbox_ hb_; have GE_gx := Aside0.mk (show W.heap.size ≤ gx by rw [hg_]; exact below_size (by repeat (first | (with_reducible first | exact HB.out | apply below_alloc | apply pw_below_drewN | apply below_drew1) | exact HB.out))); have n0_ := Aside0.mk (below_step (by repeat (first | (with_reducible first | exact HB.out | apply below_alloc | apply pw_below_drewN | apply below_drew1) | exact HB.out)) hb_); clear HB; have HB := n0_; clear n0_; have B_gx := Aside0.mk hbox_; clear hb_ hbox_ hg_; have x_gx_0 : w1.cell? ⟨gx, 0, none⟩ = some (.int .i64 x.f0) := (blk_cell B_gx.out 0).trans rfl; have x_gx_1 : w1.cell? ⟨gx, 1, none⟩ = some (.slice A x.f1.length c) := (blk_cell B_gx.out 1).trans rfl; have hcr1 := (HB.out.cell (World.block_lt_of_cell? W _ HCR.out)).trans HCR.out))
    go_ret
    exact ⟨rfl, HB.out⟩
  | true =>
    cases pv with
    | false =>
      clear CF
      go_enter Try.func80, Try.ntmps80
      go_wp2_with (first | ((with_reducible refine gate_dst (N := 3) rfl ?_); refine box_event ?hg (N := 3) ?hd (cs := #[.int .i64 x.f0, .slice A x.f1.length c]) (t := 47) ?hr ?_; (case hd => rfl); (case hg => rfl); (case hr => first | (go_simp; done) | (go_simp; rfl)); intro gx hg_ w1 hbox_ hb_; have GE_gx := Aside0.mk (show W.heap.size ≤ gx by rw [hg_]; exact below_size (by repeat (first | (with_reducible first | exact HB.out | apply below_alloc | apply pw_below_drewN | apply below_drew1) | exact HB.out))); have n0_ := Aside0.mk (below_step (by repeat (first | (with_reducible first | exact HB.out | apply below_alloc | apply pw_below_drewN | apply below_drew1) | exact HB.out)) hb_); clear HB; have HB := n0_; clear n0_; have B_gx := Aside0.mk hbox_; clear hb_ hbox_ hg_; have x_gx_0 : w1.cell? ⟨gx, 0, none⟩ = some (.int .i64 x.f0) := (blk_cell B_gx.out 0).trans rfl; have x_gx_1 : w1.cell? ⟨gx, 1, none⟩ = some (.slice A x.f1.length c) := (blk_cell B_gx.out 1).trans rfl; have hcr1 := (HB.out.cell (World.block_lt_of_cell? W _ HCR.out)).trans HCR.out; have hcp1 := (HB.out.cell (World.block_lt_of_cell? W _ HCP.out)).trans HCP.out))
      go_ret
      exact ⟨rfl, HB.out⟩
    | true =>
      go_enter Try.func80, Try.ntmps80
      go_wp2_with (first | ((with_reducible refine gate_dst (N := 3) rfl ?_); refine box_event ?hg (N := 3) ?hd (cs := #[.int .i64 x.f0, .slice A x.f1.length c]) (t := 47) ?hr ?_; (case hd => rfl); (case hg => rfl); (case hr => first | (go_simp; done) | (go_simp; rfl)); intro gx hg_ w1 hbox_ hb_; have GE_gx := Aside0.mk (show W.heap.size ≤ gx by rw [hg_]; exact below_size (by repeat (first | (with_reducible first | exact HB.out | apply below_alloc | apply pw_below_drewN | apply below_drew1) | exact HB.out))); have n0_ := Aside0.mk (below_step (by repeat (first | (with_reducible first | exact HB.out | apply below_alloc | apply pw_below_drewN | apply below_drew1) | exact HB.out)) hb_); clear HB; have HB := n0_; clear n0_; have B_gx := Aside0.mk hbox_; clear hb_ hbox_ hg_; have x_gx_0 : w1.cell? ⟨gx, 0, none⟩ = some (.int .i64 x.f0) := (blk_cell B_gx.out 0).trans rfl; have x_gx_1 : w1.cell? ⟨gx, 1, none⟩ = some (.slice A x.f1.length c) := (blk_cell B_gx.out 1).trans rfl; have hcr1 := (HB.out.cell (World.block_lt_of_cell? W _ HCR.out)).trans HCR.out; have hcp1 := (HB.out.cell (World.block_lt_of_cell? W _ HCP.out)).trans HCP.out) | (go_at_call 70; (with_reducible refine (CF _ HB.out).mono ?_); rintro e w3 ⟨rfl, hb_⟩; clear x_gx_0 x_gx_1 hcr1 hcp1; have n0_ := Aside0.mk (below_step (by repeat (first | (with_reducible first | exact HB.out | apply below_alloc | apply pw_below_drewN | apply below_drew1) | exact HB.out)) hb_); have n_gx := Aside0.mk (blk_below (by (with_reducible repeat (first | refine blk_drewN ?_ _ | refine blk_drew ?_ | refine blk_alloc ?_ _)); exact B_gx.out) hb_); clear HB B_gx; have HB := n0_; have B_gx := n_gx; clear n0_ n_gx; clear hb_))
      go_ret
      exact ⟨by cases v <;> rfl, HB.out⟩
theorem pred_u2 (q0 q1 q2 q3 q4 q5 : Bool) (gr : Nat) (row : Option Nat) (w : World) (hR : w.heap[gr]? = some (.cells #[.bool q0, .bool q1, .bool q2, .bool q3, .bool q4, .bool q5] 54 (0, 0))) (hra : some gr ≠ row) :
    PredRG 82 #[.pointer (some ⟨gr, 0, none⟩)] (fun x => okR6 x) (useF2 [q0, q1, q2, q3, q4, q5]) row w := fun W x A c hb hc hr ok => by
  show Calls Try.prog 82 #[.agg #[.int .i64 x.f0, .slice A x.f1.length c], .pointer (some ⟨gr, 0, none⟩)] W fun e w' => e = .returned (.bool (useF2 [q0, q1, q2, q3, q4, q5] x)) ∧ Below W.heap.size W w'
  have hR2 := blk_grown hR hb hra
  have hn0 : 0 ≤ x.f0 := ok.1.1
  have hn1 : x.f0 < 6 := ok.1.2
  have hnn : x.f0.toNat < 6 := by omega
  have hcr : W.cell? ⟨gr, x.f0.toNat, none⟩ = some (.bool ([q0, q1, q2, q3, q4, q5].getD x.f0.toNat false)) := (blk_cell hR2 x.f0.toNat).trans (bools_get q0 q1 q2 q3 q4 q5 x.f0.toNat hnn)
  unfold useF2
  have HB := Aside0.mk (Below.refl W.heap.size W)
  have HCR := Aside0.mk hcr
  clear hb hr ok hR hR2 hcr hra
  generalize [q0, q1, q2, q3, q4, q5].getD x.f0.toNat false = rv at HCR ⊢
  go_enter Try.func82, Try.ntmps82
  go_wp2_with (first | ((with_reducible refine gate_dst (N := 2) rfl ?_); refine box_event ?hg (N := 2) ?hd (cs := #[.int .i64 x.f0, .slice A x.f1.length c]) (t := 47) ?hr ?_; (case hd => rfl); (case hg => rfl); (case hr => first | (go_simp; done) | (go_simp; rfl)); intro gx hg_ w1 hbox_ hb_; have GE_gx := Aside0.mk (show W.heap.size ≤ gx by rw [hg_]; exact below_size (by repeat (first | (with_reducible first | exact HB.out | apply below_alloc | apply pw_below_drewN | apply below_drew1) | exact HB.out))); have n0_ := Aside0.mk (below_step (by repeat (first | (with_reducible first | exact HB.out | apply below_alloc | apply pw_below_drewN | apply below_drew1) | exact HB.out)) hb_); clear HB; have HB := n0_; clear n0_; have B_gx := Aside0.mk hbox_; clear hb_ hbox_ hg_; have x_gx_0 : w1.cell? ⟨gx, 0, none⟩ = some (.int .i64 x.f0) := (blk_cell B_gx.out 0).trans rfl; have x_gx_1 : w1.cell? ⟨gx, 1, none⟩ = some (.slice A x.f1.length c) := (blk_cell B_gx.out 1).trans rfl; have hcr1 := (HB.out.cell (World.block_lt_of_cell? W _ HCR.out)).trans HCR.out))
  go_ret
  exact ⟨rfl, HB.out⟩
end Go.Proofs.Ytohbdjdjjbieeaa.P
namespace Go.Proofs.Ytohbdjdjjbieeaa.P
open Go.RowKit Go.Proofs.YtohbdjdjjbieeaaW.PrintWords Go.Proofs.YtohbdjdjjbieeaaW.PrintLast Go.Proofs.YtohbdjdjjbieeaaW.PrintMore
attribute [local go_sem] max2_int min2_int max_two min_two max_three min_three max_four min_four
set_option linter.unusedVariables false
set_option linter.unusedSimpArgs false
def spec_l1Own.f (l0 : List Int) : Option (List Int) := (some (([] : List Int) : List Int)).bind fun y101 => (if y101.length + l0.length < 17592186044416 then (some (y101 ++ l0)) else (none))
set_option maxHeartbeats 8000000 in
set_option maxRecDepth 100000 in
theorem spec_l1Own.calls (A0 : Option Addr) (c0 : Nat) (l0 : List Int) (r : List Int) (w : World) (hr0 : Kd.C (Kd.int .i64) w A0 l0.length l0) (hc0 : l0.length ≤ c0) (h : spec_l1Own.f l0 = some r) :
    Calls Try.prog 77 #[.slice A0 l0.length c0] w fun e w' => ∃ v0_ : Value, e = .returned (v0_) ∧ Kd.R (Kd.int .i64) 3 w' w.heap.size (fun _ => True) v0_ r ∧ Below w.heap.size w w' := by
  have HR0 := Aside0.mk hr0
  have HC0 := Aside0.mk hc0
  clear hr0 hc0
  have HB := Aside0.mk (Below.refl w.heap.size w)
  have H : ((some (([] : List Int) : List Int)).bind fun y101 => (if y101.length + l0.length < 17592186044416 then (some (y101 ++ l0)) else (none))) = some r := h
  clear h
  obtain ⟨y101, hy101⟩ : ∃ y_ : List Int, y_ = (([] : List Int)) := ⟨_, rfl⟩
  replace H : (if y101.length + l0.length < 17592186044416 then (some (y101 ++ l0)) else (none)) = some r := by first | (rw [hy101]; with_reducible exact H) | (have H2_ := (Option.bind_some _ _).symm.trans H; rw [hy101]; with_reducible exact H2_) | (have H2_ := (Option.bind_some _ _).symm.trans H; with_reducible exact H2_) | with_reducible exact H | (rw [hy101]; exact H) | exact H
  have Ny101 := Aside0.mk hy101
  clear hy101
  by_cases c2 : y101.length + l0.length < 17592186044416
  · rw [if_pos c2] at H
    have LMc2 := Aside0.mk c2
    clear c2
    obtain ⟨y104, hy104⟩ : ∃ y_ : List Int, y_ = (y101 ++ l0) := ⟨_, rfl⟩
    replace H : (some y104) = some r := by first | (rw [hy104]; with_reducible exact H) | (have H2_ := (Option.bind_some _ _).symm.trans H; rw [hy104]; with_reducible exact H2_) | (have H2_ := (Option.bind_some _ _).symm.trans H; with_reducible exact H2_) | with_reducible exact H | (rw [hy104]; exact H) | exact H
    have Ny104 := Aside0.mk hy104
    clear hy104
    obtain rfl := Option.some.inj H
    go_enter Try.func77, Try.ntmps77
    go_wp2_with (first | ((with_reducible refine gate_dst (N := 3) rfl ?_); refine Kd.R_lit (Kd.int .i64) _ 3 ?hg (N := 3) ?hd (xs := ([] : List Int)) (inner := []) (ok := fun _ => True) (okp := fun _ => True) ?hr ?hp (fun _ hk => hk) trivial (Below.refl _ _) (Nat.le_refl _) (by simp) ?_; (case hd => rfl); (case hg => rfl); (case hr => first | (go_simp; done) | (go_simp; rfl)); (case hp => exact (Reps.none _ _)); intro v102 w3 ho4 hb hg_ hnew_; clear hg_ hnew_; (first | rw [← Ny101.out] at ho4 | (simp only [Int.reduceToNat] at ho4; rw [← Ny101.out] at ho4)); have n0_ := Aside0.mk (Kd.R_lower ho4 (below_size (by repeat (first | (with_reducible first | exact HB.out | apply below_alloc | apply pw_below_drewN | apply below_drew1) | exact HB.out)))); have n1_ := Aside0.mk (below_step (by repeat (first | (with_reducible first | exact HB.out | apply below_alloc | apply pw_below_drewN | apply below_drew1) | exact HB.out)) hb); clear HB; have HO103 := n0_; have HB := n1_; clear n0_ n1_; clear hb ho4) | ((with_reducible refine gate_builtin (b := .append) (xs := #[.tmp 3, .tmp 4]) rfl ?_); at_builtin; refine Kd.R_append_rows (Kd.int .i64) (w0 := w) w.heap.size rfl (.tmp 3) (.tmp 4) 34 3 (.int .i64 0) 8 rfl Try.underlying34 info3 rfl (by decide) (by omega) v102 y101 l0 _ _ _ (fun _ => True) (fun _ => False) rfl rfl ?aO ?aR (fun _ _ h => h) (fun _ h => h.elim) ?aF ?aB ?aS ?aL ?_; (case aR => repeat (first | exact (Kd.C_below HR0.out HB.out) | (with_reducible refine Kd.C_alloc ?_ _) | (with_reducible refine Kd.C_drewN ?_ _) | (with_reducible refine Kd.C_drew ?_))); (case aB => exact (by repeat (first | (with_reducible first | exact HB.out | apply below_alloc | apply pw_below_drewN | apply below_drew1) | exact HB.out))); (case aF => exact (fun _ _ => trivial)); (case aO => exact (by (with_reducible repeat (first | apply Kd.R_alloc | apply Kd.R_drewN | apply Kd.R_drew)); exact HO103.out)); (case aS => exact (below_size (by repeat (first | (with_reducible first | exact HB.out | apply below_alloc | apply pw_below_drewN | apply below_drew1) | exact HB.out)))); (case aL => have := LMc2.out; omega); intro v105 w5 ho hb hg hat; rw [← Ny104.out] at ho; have n0_ := Aside0.mk (hb); have n1_ := Aside0.mk (ho); clear HB; clear HO103; have HB := n0_; have HO106 := n1_; clear n0_ n1_; clear ho hb hg hat))
    go_ret
    exact ⟨_, by first | rfl | (simp [errW_none, errW_some] <;> rfl) | (simp [*, errW_none, errW_some] <;> rfl), by (with_reducible repeat (first | apply Kd.R_alloc | apply Kd.R_drewN | apply Kd.R_drew)); exact HO106.out, by repeat (first | (with_reducible first | exact HB.out | apply below_alloc | apply pw_below_drewN | apply below_drew1) | exact HB.out)⟩
  · rw [if_neg c2] at H
    exact absurd H (by simp)
end Go.Proofs.Ytohbdjdjjbieeaa.P
