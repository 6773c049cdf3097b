/- A part of the proof of the law FnExactLeastLong. -/
import Derived.Test.YtohbdjdjjbieeaaB2
import Derived.Test.YtohbdjdjjbieeaaB1
import Derived.Test.YtohbdjdjjbieeaaK0
/-! Hcl -/
/- The program's closed: the nonterminals that rules make so, at whatever test of a rule; it answers what the plain closing answers. -/
namespace Go.Proofs.Ytohbdjdjjbieeaa.P
open Go.RowKit Go.Proofs.YtohbdjdjjbieeaaW.PrintWords Go.Proofs.YtohbdjdjjbieeaaW.PrintLast Go.Proofs.YtohbdjdjjbieeaaW.PrintMore
set_option linter.unusedVariables false
set_option linter.unusedSimpArgs false

/-- One rule: its left side comes in where the test says so. -/
def stepC (mk : S47 → List Bool → Bool) (x : S47) (q : List Bool × Bool) : List Bool × Bool := if (!q.1.getD x.f0.toNat false && mk x q.1) = true then (q.1.set x.f0.toNat true, true) else q
def passC (mk : S47 → List Bool → Bool) (l : List S47) (q : List Bool × Bool) : List Bool × Bool := l.foldl (fun q x => stepC mk x q) q
def closeN (mk : S47 → List Bool → Bool) (l : List S47) : Nat → List Bool → List Bool
  | 0, s => s
  | n + 1, s => if (passC mk l (s, false)).2 = true then closeN mk l n (passC mk l (s, false)).1 else (passC mk l (s, false)).1
/-- The closing, from nothing. -/
def closedF (mk : S47 → List Bool → Bool) (l : List S47) : List Bool := closeN mk l 7 [false, false, false, false, false, false]
/-- What is asked of a test of a rule. -/
def okR6 (x : S47) : Prop := (0 ≤ x.f0 ∧ x.f0 < 6) ∧ ∀ j : Nat, j < x.f1.length → rd x.f1 j < 6
def PredC (g : Nat) (lb : Array Value) (mk : S47 → List Bool → Bool) (w : World) : Prop :=
  ∀ (W : World) (x : S47) (A : Option Addr) (c : Nat) (b0 b1 b2 b3 b4 b5 : Bool), Below w.heap.size w W → x.f1.length ≤ c → Kd.C (Kd.int .i64) W A x.f1.length x.f1 → okR6 x →
    Calls Try.prog g (#[.agg #[.int .i64 x.f0, .slice A x.f1.length c], .agg #[.bool b0, .bool b1, .bool b2, .bool b3, .bool b4, .bool b5]] ++ lb) W fun e w' => e = .returned (.bool (mk x [b0, b1, b2, b3, b4, b5])) ∧ Below W.heap.size W w'

theorem set6_len (s : List Bool) (i : Nat) (h : s.length = 6) : (s.set i true).length = 6 := by rw [List.length_set]; exact h
theorem six (s : List Bool) (h : s.length = 6) : ∃ b0 b1 b2 b3 b4 b5, s = [b0, b1, b2, b3, b4, b5] := by
  match s, h with
  | [b0, b1, b2, b3, b4, b5], _ => exact ⟨b0, b1, b2, b3, b4, b5, rfl⟩
/-- How many are not so. -/
def cntF (s : List Bool) : Nat := s.count false
theorem cntF_set (s : List Bool) (i : Nat) (hi : i < s.length) (h : s.getD i false = false) : cntF (s.set i true) + 1 = cntF s := by
  unfold cntF
  induction s generalizing i with
  | nil => simp at hi
  | cons b s ih =>
    cases i with
    | zero =>
      have hb : b = false := by simpa using h
      subst hb
      simp [List.count_cons]
    | succ i =>
      have := ih i (by simpa using hi) (by simpa using h)
      simp only [List.set_cons_succ, List.count_cons]
      omega
theorem stepC_len (mk) (x) (q : List Bool × Bool) (h : q.1.length = 6) : (stepC mk x q).1.length = 6 := by
  unfold stepC
  split
  · exact set6_len _ _ h
  · exact h
/-- A block of six truths, and a seventh of them stored. -/
theorem bools_set (b0 b1 b2 b3 b4 b5 : Bool) (i : Nat) (c0 c1 c2 c3 c4 c5 : Bool) (h : [b0, b1, b2, b3, b4, b5].set i true = [c0, c1, c2, c3, c4, c5]) :
    (#[.bool b0, .bool b1, .bool b2, .bool b3, .bool b4, .bool b5] : Array Value).setIfInBounds i (.bool true) = #[.bool c0, .bool c1, .bool c2, .bool c3, .bool c4, .bool c5] := by
  have e : ∀ l : List Bool, ((l.map Value.bool).toArray).setIfInBounds i (.bool true) = ((l.set i true).map Value.bool).toArray := fun l => by
    rw [List.setIfInBounds_toArray, List.map_set]
  have := e [b0, b1, b2, b3, b4, b5]
  rw [h] at this
  exact this
theorem bools_get (b0 b1 b2 b3 b4 b5 : Bool) (i : Nat) (hi : i < 6) : (#[.bool b0, .bool b1, .bool b2, .bool b3, .bool b4, .bool b5] : Array Value)[i]? = some (.bool ([b0, b1, b2, b3, b4, b5].getD i false)) := by
  match i, hi with
  | 0, _ => rfl
  | 1, _ => rfl
  | 2, _ => rfl
  | 3, _ => rfl
  | 4, _ => rfl
  | 5, _ => rfl

set_option maxHeartbeats 4000000 in
set_option maxRecDepth 100000 in
theorem closed_calls (g : Nat) (lb : Array Value) (eg : ∀ args w, (callFunc g args).run Try.prog w = .ok (.enter g args) w) (mk : S47 → List Bool → Bool) (a0 a1 : Int) (A : Option Addr) (c : Nat) (l : List S47) (w : World)
    (hr : Kd.C k47 w A l.length l) (hc : l.length ≤ c) (hok : ∀ j : Nat, j < l.length → okR6 (rd_T47 l j)) (hp : PredC g lb mk w) :
    Calls Try.prog 68 #[.agg #[.int .i64 a0, .int .i64 a1, .slice A l.length c], .func (.func g) #[] lb] w fun e w' => (∃ b0 b1 b2 b3 b4 b5, e = .returned (.agg #[.bool b0, .bool b1, .bool b2, .bool b3, .bool b4, .bool b5]) ∧ closedF mk l = [b0, b1, b2, b3, b4, b5]) ∧ Below w.heap.size w w' := by
  have hu := Try.underlying30
  have hml : l.length ≤ 9223372036854775807 := hr.2.1
  have HR := Aside0.mk hr
  have HOK := Aside0.mk hok
  have HP := Aside0.mk hp
  have HB := Aside0.mk (Below.refl w.heap.size w)
  clear hr hok hp
  go_enter Try.func68, Try.ntmps68
  go_wp2_with (first | ((with_reducible refine gate_dst (N := 2) rfl ?_); refine box_event ?hg (N := 2) ?hd (cs := #[.int .i64 a0, .int .i64 a1, .slice A l.length c]) (t := 30) ?hr ?_; (case hd => rfl); (case hg => rfl); (case hr => first | (go_simp; done) | (go_simp; rfl)); intro gb hg_ w1 hbox_ hb_; have GE_gb := Aside0.mk (show w.heap.size ≤ gb by rw [hg_]; exact below_size (by repeat (first | (with_reducible first | exact HB.out | apply below_alloc | apply pw_below_drewN | apply below_drew1) | exact HB.out))); have n0_ := Aside0.mk (below_step (by repeat (first | (with_reducible first | exact HB.out | apply below_alloc | apply pw_below_drewN | apply below_drew1) | exact HB.out)) hb_); clear HB; have HB := n0_; clear n0_; have B_gb := Aside0.mk hbox_; clear hb_ hbox_ hg_) | ((with_reducible refine gate_dst (N := 4) rfl ?_); refine box_event ?hg (N := 4) ?hd (cs := #[.bool false, .bool false, .bool false, .bool false, .bool false, .bool false]) (t := 54) ?hr ?_; (case hd => rfl); (case hg => rfl); (case hr => first | (go_simp; done) | (go_simp; rfl)); intro gr hg_ w2 hbox_ hb_; have GE_gr := Aside0.mk (show w.heap.size ≤ gr by rw [hg_]; exact below_size (by repeat (first | (with_reducible first | exact HB.out | apply below_alloc | apply pw_below_drewN | apply below_drew1) | exact HB.out))); have NE_gb_gr := Aside0.mk (show gb ≠ gr by rw [hg_]; exact Nat.ne_of_lt (blk_lt (by (with_reducible repeat (first | refine blk_drewN ?_ _ | refine blk_drew ?_ | refine blk_alloc ?_ _)); exact B_gb.out))); have n0_ := Aside0.mk (below_step (by repeat (first | (with_reducible first | exact HB.out | apply below_alloc | apply pw_below_drewN | apply below_drew1) | exact HB.out)) hb_); have n_gb := Aside0.mk (blk_below (by (with_reducible repeat (first | refine blk_drewN ?_ _ | refine blk_drew ?_ | refine blk_alloc ?_ _)); exact B_gb.out) hb_); clear HB B_gb; have HB := n0_; have B_gb := n_gb; clear n0_ n_gb; have B_gr := Aside0.mk hbox_; clear hb_ hbox_ hg_) | ((with_reducible refine gate_dst (N := 5) rfl ?_); refine box_event ?hg (N := 5) ?hd (cs := #[.bool false, .bool false, .bool false, .bool false, .bool false, .bool false]) (t := 54) ?hr ?_; (case hd => rfl); (case hg => rfl); (case hr => first | (go_simp; done) | (go_simp; rfl)); intro gs hg_ w3 hbox_ hb_; have GE_gs := Aside0.mk (show w.heap.size ≤ gs by rw [hg_]; exact below_size (by repeat (first | (with_reducible first | exact HB.out | apply below_alloc | apply pw_below_drewN | apply below_drew1) | exact HB.out))); have NE_gb_gs := Aside0.mk (show gb ≠ gs by rw [hg_]; exact Nat.ne_of_lt (blk_lt (by (with_reducible repeat (first | refine blk_drewN ?_ _ | refine blk_drew ?_ | refine blk_alloc ?_ _)); exact B_gb.out))); have NE_gr_gs := Aside0.mk (show gr ≠ gs by rw [hg_]; exact Nat.ne_of_lt (blk_lt (by (with_reducible repeat (first | refine blk_drewN ?_ _ | refine blk_drew ?_ | refine blk_alloc ?_ _)); exact B_gr.out))); have n0_ := Aside0.mk (below_step (by repeat (first | (with_reducible first | exact HB.out | apply below_alloc | apply pw_below_drewN | apply below_drew1) | exact HB.out)) hb_); have n_gb := Aside0.mk (blk_below (by (with_reducible repeat (first | refine blk_drewN ?_ _ | refine blk_drew ?_ | refine blk_alloc ?_ _)); exact B_gb.out) hb_); have n_gr := Aside0.mk (blk_below (by (with_reducible repeat (first | refine blk_drewN ?_ _ | refine blk_drew ?_ | refine blk_alloc ?_ _)); exact B_gr.out) hb_); clear HB B_gb B_gr; have HB := n0_; have B_gb := n_gb; have B_gr := n_gr; clear n0_ n_gb n_gr; have B_gs := Aside0.mk hbox_; clear hb_ hbox_ hg_; have x_gs_0 : w3.cell? ⟨gs, 0, none⟩ = some (.bool false) := (blk_cell B_gs.out 0).trans rfl; have f_gs_0 := blk_frozen B_gs.out 0; have x_gs_1 : w3.cell? ⟨gs, 1, none⟩ = some (.bool false) := (blk_cell B_gs.out 1).trans rfl; have f_gs_1 := blk_frozen B_gs.out 1; have x_gs_2 : w3.cell? ⟨gs, 2, none⟩ = some (.bool false) := (blk_cell B_gs.out 2).trans rfl; have f_gs_2 := blk_frozen B_gs.out 2; have x_gs_3 : w3.cell? ⟨gs, 3, none⟩ = some (.bool false) := (blk_cell B_gs.out 3).trans rfl; have f_gs_3 := blk_frozen B_gs.out 3; have x_gs_4 : w3.cell? ⟨gs, 4, none⟩ = some (.bool false) := (blk_cell B_gs.out 4).trans rfl; have f_gs_4 := blk_frozen B_gs.out 4; have x_gs_5 : w3.cell? ⟨gs, 5, none⟩ = some (.bool false) := (blk_cell B_gs.out 5).trans rfl; have f_gs_5 := blk_frozen B_gs.out 5))
  obtain ⟨w4, hw_⟩ : ∃ w_ : World, w_ = ((((((w3.setCell ⟨gs, 0, none⟩ (.bool false)).setCell ⟨gs, 1, none⟩ (.bool false)).setCell ⟨gs, 2, none⟩ (.bool false)).setCell ⟨gs, 3, none⟩ (.bool false)).setCell ⟨gs, 4, none⟩ (.bool false)).setCell ⟨gs, 5, none⟩ (.bool false)) := ⟨_, rfl⟩
  rw [← hw_]
  clear x_gs_0 f_gs_0 x_gs_1 f_gs_1 x_gs_2 f_gs_2 x_gs_3 f_gs_3 x_gs_4 f_gs_4 x_gs_5 f_gs_5
  have m0_ := Aside0.mk (show Below w.heap.size w w4 by rw [hw_]; exact (below_set (below_set (below_set (below_set (below_set (below_set HB.out GE_gs.out) GE_gs.out) GE_gs.out) GE_gs.out) GE_gs.out) GE_gs.out))
  have m_gb := Aside0.mk (show w4.heap[gb]? = some (.cells #[.int .i64 a0, .int .i64 a1, .slice A l.length c] 30 (0, 0)) by rw [hw_]; exact (blk_far (blk_far (blk_far (blk_far (blk_far (blk_far B_gb.out NE_gb_gs.out _) NE_gb_gs.out _) NE_gb_gs.out _) NE_gb_gs.out _) NE_gb_gs.out _) NE_gb_gs.out _))
  have m_gr := Aside0.mk (show w4.heap[gr]? = some (.cells #[.bool false, .bool false, .bool false, .bool false, .bool false, .bool false] 54 (0, 0)) by rw [hw_]; exact (blk_far (blk_far (blk_far (blk_far (blk_far (blk_far B_gr.out NE_gr_gs.out _) NE_gr_gs.out _) NE_gr_gs.out _) NE_gr_gs.out _) NE_gr_gs.out _) NE_gr_gs.out _))
  have m_gs := Aside0.mk (show w4.heap[gs]? = some (.cells #[.bool false, .bool false, .bool false, .bool false, .bool false, .bool false] 54 (0, 0)) by rw [hw_]; exact (blk_put (cs := #[.bool false, .bool false, .bool false, .bool false, .bool false, .bool false]) (blk_put (cs := #[.bool false, .bool false, .bool false, .bool false, .bool false, .bool false]) (blk_put (cs := #[.bool false, .bool false, .bool false, .bool false, .bool false, .bool false]) (blk_put (cs := #[.bool false, .bool false, .bool false, .bool false, .bool false, .bool false]) (blk_put (cs := #[.bool false, .bool false, .bool false, .bool false, .bool false, .bool false]) (blk_put (cs := #[.bool false, .bool false, .bool false, .bool false, .bool false, .bool false]) B_gs.out 0 _ rfl) 1 _ rfl) 2 _ rfl) 3 _ rfl) 4 _ rfl) 5 _ rfl))
  clear HB hw_ B_gb B_gr B_gs
  have HB := m0_
  have B_gb := m_gb
  have B_gr := m_gr
  have B_gs := m_gs
  clear m0_ m_gb m_gr m_gs
  go_loopg [6] 7 (fun gg s6 wr => ∃ (n : Nat) (b0 b1 b2 b3 b4 b5 ag : Bool), s6 = .bool ag ∧ n ≤ gg ∧ Aside0 (ag = true → cntF [b0, b1, b2, b3, b4, b5] < n ∧ closeN mk l n [b0, b1, b2, b3, b4, b5] = closedF mk l) ∧ Aside0 (ag = false → [b0, b1, b2, b3, b4, b5] = closedF mk l) ∧ Aside0 (wr.heap[gb]? = some (.cells #[.int .i64 a0, .int .i64 a1, .slice A l.length c] 30 (0, 0))) ∧ Aside0 (wr.heap[gr]? = some (.cells #[.bool false, .bool false, .bool false, .bool false, .bool false, .bool false] 54 (0, 0))) ∧ Aside0 (wr.heap[gs]? = some (.cells #[.bool b0, .bool b1, .bool b2, .bool b3, .bool b4, .bool b5] 54 (0, 0))) ∧ Aside0 (Below w.heap.size w wr))
  case atStart => exact ⟨7, _, _, _, _, _, _, true, rfl, Nat.le_refl _, ⟨fun _ => ⟨by decide, rfl⟩⟩, ⟨fun h => by cases h⟩, B_gb, B_gr, B_gs, HB⟩
  case round =>
    clear B_gb B_gr B_gs HB
    obtain ⟨n, b0, b1, b2, b3, b4, b5, ag, rfl, hn, CT, CF, B_gb, B_gr, B_gs, HB⟩ := hrel
    cases ag with
    | false =>
      have x_gb_0 : wr.cell? ⟨gb, 0, none⟩ = some (.int .i64 a0) := (blk_cell B_gb.out 0).trans rfl
      have x_gb_1 : wr.cell? ⟨gb, 1, none⟩ = some (.int .i64 a1) := (blk_cell B_gb.out 1).trans rfl
      have x_gb_2 : wr.cell? ⟨gb, 2, none⟩ = some (.slice A l.length c) := (blk_cell B_gb.out 2).trans rfl
      have x_gr_0 : wr.cell? ⟨gr, 0, none⟩ = some (.bool false) := (blk_cell B_gr.out 0).trans rfl
      have f_gr_0 := blk_frozen B_gr.out 0
      have x_gr_1 : wr.cell? ⟨gr, 1, none⟩ = some (.bool false) := (blk_cell B_gr.out 1).trans rfl
      have f_gr_1 := blk_frozen B_gr.out 1
      have x_gr_2 : wr.cell? ⟨gr, 2, none⟩ = some (.bool false) := (blk_cell B_gr.out 2).trans rfl
      have f_gr_2 := blk_frozen B_gr.out 2
      have x_gr_3 : wr.cell? ⟨gr, 3, none⟩ = some (.bool false) := (blk_cell B_gr.out 3).trans rfl
      have f_gr_3 := blk_frozen B_gr.out 3
      have x_gr_4 : wr.cell? ⟨gr, 4, none⟩ = some (.bool false) := (blk_cell B_gr.out 4).trans rfl
      have f_gr_4 := blk_frozen B_gr.out 4
      have x_gr_5 : wr.cell? ⟨gr, 5, none⟩ = some (.bool false) := (blk_cell B_gr.out 5).trans rfl
      have f_gr_5 := blk_frozen B_gr.out 5
      have x_gs_0 : wr.cell? ⟨gs, 0, none⟩ = some (.bool b0) := (blk_cell B_gs.out 0).trans rfl
      have x_gs_1 : wr.cell? ⟨gs, 1, none⟩ = some (.bool b1) := (blk_cell B_gs.out 1).trans rfl
      have x_gs_2 : wr.cell? ⟨gs, 2, none⟩ = some (.bool b2) := (blk_cell B_gs.out 2).trans rfl
      have x_gs_3 : wr.cell? ⟨gs, 3, none⟩ = some (.bool b3) := (blk_cell B_gs.out 3).trans rfl
      have x_gs_4 : wr.cell? ⟨gs, 4, none⟩ = some (.bool b4) := (blk_cell B_gs.out 4).trans rfl
      have x_gs_5 : wr.cell? ⟨gs, 5, none⟩ = some (.bool b5) := (blk_cell B_gs.out 5).trans rfl
      have FIN := Aside0.mk (CF.out rfl)
      clear CT CF
      go_wp2
      obtain ⟨w9, hw_⟩ : ∃ w_ : World, w_ = ((((((wr.setCell ⟨gr, 0, none⟩ (.bool b0)).setCell ⟨gr, 1, none⟩ (.bool b1)).setCell ⟨gr, 2, none⟩ (.bool b2)).setCell ⟨gr, 3, none⟩ (.bool b3)).setCell ⟨gr, 4, none⟩ (.bool b4)).setCell ⟨gr, 5, none⟩ (.bool b5)) := ⟨_, rfl⟩
      rw [← hw_]
      clear x_gb_0 x_gb_1 x_gb_2 x_gr_0 f_gr_0 x_gr_1 f_gr_1 x_gr_2 f_gr_2 x_gr_3 f_gr_3 x_gr_4 f_gr_4 x_gr_5 f_gr_5 x_gs_0 x_gs_1 x_gs_2 x_gs_3 x_gs_4 x_gs_5
      have m0_ := Aside0.mk (show Below w.heap.size w w9 by rw [hw_]; exact (below_set (below_set (below_set (below_set (below_set (below_set HB.out GE_gr.out) GE_gr.out) GE_gr.out) GE_gr.out) GE_gr.out) GE_gr.out))
      have m_gb := Aside0.mk (show w9.heap[gb]? = some (.cells #[.int .i64 a0, .int .i64 a1, .slice A l.length c] 30 (0, 0)) by rw [hw_]; exact (blk_far (blk_far (blk_far (blk_far (blk_far (blk_far B_gb.out NE_gb_gr.out _) NE_gb_gr.out _) NE_gb_gr.out _) NE_gb_gr.out _) NE_gb_gr.out _) NE_gb_gr.out _))
      have m_gr := Aside0.mk (show w9.heap[gr]? = some (.cells #[.bool b0, .bool b1, .bool b2, .bool b3, .bool b4, .bool b5] 54 (0, 0)) by rw [hw_]; exact (blk_put (cs := #[.bool b0, .bool b1, .bool b2, .bool b3, .bool b4, .bool false]) (blk_put (cs := #[.bool b0, .bool b1, .bool b2, .bool b3, .bool false, .bool false]) (blk_put (cs := #[.bool b0, .bool b1, .bool b2, .bool false, .bool false, .bool false]) (blk_put (cs := #[.bool b0, .bool b1, .bool false, .bool false, .bool false, .bool false]) (blk_put (cs := #[.bool b0, .bool false, .bool false, .bool false, .bool false, .bool false]) (blk_put (cs := #[.bool false, .bool false, .bool false, .bool false, .bool false, .bool false]) B_gr.out 0 _ rfl) 1 _ rfl) 2 _ rfl) 3 _ rfl) 4 _ rfl) 5 _ rfl))
      have m_gs := Aside0.mk (show w9.heap[gs]? = some (.cells #[.bool b0, .bool b1, .bool b2, .bool b3, .bool b4, .bool b5] 54 (0, 0)) by rw [hw_]; exact (blk_far (blk_far (blk_far (blk_far (blk_far (blk_far B_gs.out (Ne.symm NE_gr_gs.out) _) (Ne.symm NE_gr_gs.out) _) (Ne.symm NE_gr_gs.out) _) (Ne.symm NE_gr_gs.out) _) (Ne.symm NE_gr_gs.out) _) (Ne.symm NE_gr_gs.out) _))
      clear HB hw_ B_gb B_gr B_gs
      have HB := m0_
      have B_gb := m_gb
      have B_gr := m_gr
      have B_gs := m_gs
      clear m0_ m_gb m_gr m_gs
      have x_gr_0 : w9.cell? ⟨gr, 0, none⟩ = some (.bool b0) := (blk_cell B_gr.out 0).trans rfl
      have x_gr_1 : w9.cell? ⟨gr, 1, none⟩ = some (.bool b1) := (blk_cell B_gr.out 1).trans rfl
      have x_gr_2 : w9.cell? ⟨gr, 2, none⟩ = some (.bool b2) := (blk_cell B_gr.out 2).trans rfl
      have x_gr_3 : w9.cell? ⟨gr, 3, none⟩ = some (.bool b3) := (blk_cell B_gr.out 3).trans rfl
      have x_gr_4 : w9.cell? ⟨gr, 4, none⟩ = some (.bool b4) := (blk_cell B_gr.out 4).trans rfl
      have x_gr_5 : w9.cell? ⟨gr, 5, none⟩ = some (.bool b5) := (blk_cell B_gr.out 5).trans rfl
      refine bodyPost_ret (v := .agg #[.bool b0, .bool b1, .bool b2, .bool b3, .bool b4, .bool b5]) (by simp [results, Try.results68, go_sem, x_gr_0, x_gr_1, x_gr_2, x_gr_3, x_gr_4, x_gr_5]) rfl ⟨⟨b0, b1, b2, b3, b4, b5, rfl, FIN.out.symm⟩, HB.out⟩
    | true =>
      have x_gb_0 : wr.cell? ⟨gb, 0, none⟩ = some (.int .i64 a0) := (blk_cell B_gb.out 0).trans rfl
      have x_gb_1 : wr.cell? ⟨gb, 1, none⟩ = some (.int .i64 a1) := (blk_cell B_gb.out 1).trans rfl
      have x_gb_2 : wr.cell? ⟨gb, 2, none⟩ = some (.slice A l.length c) := (blk_cell B_gb.out 2).trans rfl
      obtain ⟨hcn, hcl⟩ := CT.out rfl
      have CN := Aside0.mk hcn
      have CL := Aside0.mk hcl
      clear CT CF hcn hcl
      obtain ⟨s0, hs0⟩ : ∃ s0 : List Bool, s0 = [b0, b1, b2, b3, b4, b5] := ⟨_, rfl⟩
      have L0 := Aside0.mk (show s0.length = 6 by rw [hs0]; rfl)
      have S0 := Aside0.mk hs0
      rw [← hs0] at CN CL
      have PQ := Aside0.mk (show passC mk l (s0, false) = passC mk (l.drop 0) ([b0, b1, b2, b3, b4, b5], false) by rw [hs0]; rfl)
      clear hs0
      go_wp2
      go_loopg [6, 14] l.length (fun gg s6 s14 wr => ∃ (kk : Nat) (b0 b1 b2 b3 b4 b5 ag : Bool), kk ≤ l.length ∧ l.length - kk ≤ gg ∧ s14 = .int .i64 kk ∧ s6 = .bool ag ∧ Aside0 (passC mk l (s0, false) = passC mk (l.drop kk) ([b0, b1, b2, b3, b4, b5], ag)) ∧ Aside0 (cntF [b0, b1, b2, b3, b4, b5] ≤ cntF s0 ∧ (ag = true → cntF [b0, b1, b2, b3, b4, b5] < cntF s0)) ∧ Aside0 (wr.heap[gb]? = some (.cells #[.int .i64 a0, .int .i64 a1, .slice A l.length c] 30 (0, 0))) ∧ Aside0 (wr.heap[gr]? = some (.cells #[.bool false, .bool false, .bool false, .bool false, .bool false, .bool false] 54 (0, 0))) ∧ Aside0 (wr.heap[gs]? = some (.cells #[.bool b0, .bool b1, .bool b2, .bool b3, .bool b4, .bool b5] 54 (0, 0))) ∧ Aside0 (Below w.heap.size w wr))
      case atStart => exact ⟨0, _, _, _, _, _, _, false, Nat.zero_le _, by omega, rfl, rfl, PQ, ⟨by rw [S0.out]; exact Nat.le_refl _, fun h => by cases h⟩, B_gb, B_gr, B_gs, HB⟩
      case round =>
        clear B_gb B_gr B_gs HB PQ
        obtain ⟨kk, b0, b1, b2, b3, b4, b5, ag, hkk, hg, rfl, rfl, PQ, CB, B_gb, B_gr, B_gs, HB⟩ := hrel
        by_cases hlt : kk < l.length
        · have hd : decide (kk < l.length) = true := decide_eq_true hlt
          obtain ⟨ad, A1, c1, e, hx0, hx1, hl1, hi1⟩ := at_T47 HR.out (kk : Int) (by omega) (by omega)
          subst e
          replace hx0 := (HB.out.cell (World.block_lt_of_cell? w _ hx0)).trans hx0
          replace hx1 := (HB.out.cell (World.block_lt_of_cell? w _ hx1)).trans hx1
          have hx2 : wr.cell? (ad.add (kk * 2)) = some (.int .i64 (rd_T47 l kk).f0) := by simpa using hx0
          have hx3 : wr.cell? ⟨(ad.add (kk * 2)).block, (ad.add (kk * 2)).off + 1, none⟩ = some (.slice A1 (rd_T47 l kk).f1.length c1) := by simpa using hx1
          clear hx0 hx1
          have HI := Aside0.mk hi1
          have HL := Aside0.mk hl1
          have L := Aside0.mk hlt
          have OK := Aside0.mk (HOK.out kk hlt)
          have PD := Aside0.mk (show passC mk (l.drop kk) ([b0, b1, b2, b3, b4, b5], ag) = passC mk (l.drop (kk + 1)) (stepC mk (rd_T47 l kk) ([b0, b1, b2, b3, b4, b5], ag)) by rw [getD_drop l kk z47 hlt]; rfl)
          clear hi1 hl1
          generalize rd_T47 l kk = y at hx2 hx3 HI HL OK PD
          go_upto_region 8 with (first | ((with_reducible refine gate_dst (N := 8) rfl ?_); refine box_event ?hg (N := 8) ?hd (cs := #[.int .i64 0, .slice none 0 0]) (t := 47) ?hr ?_; (case hd => rfl); (case hg => rfl); (case hr => first | (go_simp; done) | (go_simp; rfl)); intro gc hg_ w5 hbox_ hb_; have GE_gc := Aside0.mk (show w.heap.size ≤ gc by rw [hg_]; exact below_size (by repeat (first | (with_reducible first | exact HB.out | apply below_alloc | apply pw_below_drewN | apply below_drew1) | exact HB.out))); have NE_gb_gc := Aside0.mk (show gb ≠ gc by rw [hg_]; exact Nat.ne_of_lt (blk_lt (by (with_reducible repeat (first | refine blk_drewN ?_ _ | refine blk_drew ?_ | refine blk_alloc ?_ _)); exact B_gb.out))); have NE_gr_gc := Aside0.mk (show gr ≠ gc by rw [hg_]; exact Nat.ne_of_lt (blk_lt (by (with_reducible repeat (first | refine blk_drewN ?_ _ | refine blk_drew ?_ | refine blk_alloc ?_ _)); exact B_gr.out))); have NE_gs_gc := Aside0.mk (show gs ≠ gc by rw [hg_]; exact Nat.ne_of_lt (blk_lt (by (with_reducible repeat (first | refine blk_drewN ?_ _ | refine blk_drew ?_ | refine blk_alloc ?_ _)); exact B_gs.out))); have n0_ := Aside0.mk (below_step (by repeat (first | (with_reducible first | exact HB.out | apply below_alloc | apply pw_below_drewN | apply below_drew1) | exact HB.out)) hb_); have n_gb := Aside0.mk (blk_below (by (with_reducible repeat (first | refine blk_drewN ?_ _ | refine blk_drew ?_ | refine blk_alloc ?_ _)); exact B_gb.out) hb_); have n_gr := Aside0.mk (blk_below (by (with_reducible repeat (first | refine blk_drewN ?_ _ | refine blk_drew ?_ | refine blk_alloc ?_ _)); exact B_gr.out) hb_); have n_gs := Aside0.mk (blk_below (by (with_reducible repeat (first | refine blk_drewN ?_ _ | refine blk_drew ?_ | refine blk_alloc ?_ _)); exact B_gs.out) hb_); clear HB B_gb B_gr B_gs; have HB := n0_; have B_gb := n_gb; have B_gr := n_gr; have B_gs := n_gs; clear n0_ n_gb n_gr n_gs; have B_gc := Aside0.mk hbox_; clear hb_ hbox_ hg_; have x_gc_0 : w5.cell? ⟨gc, 0, none⟩ = some (.int .i64 0) := (blk_cell B_gc.out 0).trans rfl; have f_gc_0 := blk_frozen B_gc.out 0; have x_gc_1 : w5.cell? ⟨gc, 1, none⟩ = some (.slice none 0 0) := (blk_cell B_gc.out 1).trans rfl; have f_gc_1 := blk_frozen B_gc.out 1))
          obtain ⟨w6, hw_⟩ : ∃ w_ : World, w_ = ((w5.setCell ⟨gc, 0, none⟩ (.int .i64 y.f0)).setCell ⟨gc, 1, none⟩ (.slice A1 y.f1.length c1)) := ⟨_, rfl⟩
          rw [← hw_]
          clear x_gc_0 f_gc_0 x_gc_1 f_gc_1
          have m0_ := Aside0.mk (show Below w.heap.size w w6 by rw [hw_]; exact (below_set (below_set HB.out GE_gc.out) GE_gc.out))
          have m_gb := Aside0.mk (show w6.heap[gb]? = some (.cells #[.int .i64 a0, .int .i64 a1, .slice (some ad) l.length c] 30 (0, 0)) by rw [hw_]; exact (blk_far (blk_far B_gb.out NE_gb_gc.out _) NE_gb_gc.out _))
          have m_gr := Aside0.mk (show w6.heap[gr]? = some (.cells #[.bool false, .bool false, .bool false, .bool false, .bool false, .bool false] 54 (0, 0)) by rw [hw_]; exact (blk_far (blk_far B_gr.out NE_gr_gc.out _) NE_gr_gc.out _))
          have m_gs := Aside0.mk (show w6.heap[gs]? = some (.cells #[.bool b0, .bool b1, .bool b2, .bool b3, .bool b4, .bool b5] 54 (0, 0)) by rw [hw_]; exact (blk_far (blk_far B_gs.out NE_gs_gc.out _) NE_gs_gc.out _))
          have m_gc := Aside0.mk (show w6.heap[gc]? = some (.cells #[.int .i64 y.f0, .slice A1 y.f1.length c1] 47 (0, 0)) by rw [hw_]; exact (blk_put (cs := #[.int .i64 y.f0, .slice none 0 0]) (blk_put (cs := #[.int .i64 0, .slice none 0 0]) B_gc.out 0 _ rfl) 1 _ rfl))
          clear HB hw_ B_gb B_gr B_gs B_gc
          have HB := m0_
          have B_gb := m_gb
          have B_gr := m_gr
          have B_gs := m_gs
          have B_gc := m_gc
          clear m0_ m_gb m_gr m_gs m_gc
          clear hx2 hx3
          have x_gs_0 : w6.cell? ⟨gs, 0, none⟩ = some (.bool b0) := (blk_cell B_gs.out 0).trans rfl
          have x_gs_1 : w6.cell? ⟨gs, 1, none⟩ = some (.bool b1) := (blk_cell B_gs.out 1).trans rfl
          have x_gs_2 : w6.cell? ⟨gs, 2, none⟩ = some (.bool b2) := (blk_cell B_gs.out 2).trans rfl
          have x_gs_3 : w6.cell? ⟨gs, 3, none⟩ = some (.bool b3) := (blk_cell B_gs.out 3).trans rfl
          have x_gs_4 : w6.cell? ⟨gs, 4, none⟩ = some (.bool b4) := (blk_cell B_gs.out 4).trans rfl
          have x_gs_5 : w6.cell? ⟨gs, 5, none⟩ = some (.bool b5) := (blk_cell B_gs.out 5).trans rfl
          have x_gc_0 : w6.cell? ⟨gc, 0, none⟩ = some (.int .i64 y.f0) := (blk_cell B_gc.out 0).trans rfl
          have x_gc_1 : w6.cell? ⟨gc, 1, none⟩ = some (.slice A1 y.f1.length c1) := (blk_cell B_gc.out 1).trans rfl
          have hy0 : 0 ≤ y.f0 := OK.out.1.1
          have hy1 : y.f0 < 6 := OK.out.1.2
          have hyn : y.f0.toNat < 6 := by omega
          have hcx : w6.cell? ⟨gs, y.f0.toNat, none⟩ = some (.bool ([b0, b1, b2, b3, b4, b5].getD y.f0.toNat false)) := (blk_cell B_gs.out y.f0.toNat).trans (bools_get b0 b1 b2 b3 b4 b5 y.f0.toNat hyn)
          have SD := Aside0.mk (show stepC mk y ([b0, b1, b2, b3, b4, b5], ag) = if (![b0, b1, b2, b3, b4, b5].getD y.f0.toNat false && mk y [b0, b1, b2, b3, b4, b5]) = true then ([b0, b1, b2, b3, b4, b5].set y.f0.toNat true, true) else ([b0, b1, b2, b3, b4, b5], ag) from rfl)
          have GD := Aside0.mk (show ∀ v, [b0, b1, b2, b3, b4, b5].getD y.f0.toNat false = v → [b0, b1, b2, b3, b4, b5].getD y.f0.toNat false = v from fun _ h => h)
          cases hv : [b0, b1, b2, b3, b4, b5].getD y.f0.toNat false with
          | true =>
            rw [hv] at hcx SD
            have PN := Aside0.mk (show passC mk l (s0, false) = passC mk (l.drop (kk + 1)) ([b0, b1, b2, b3, b4, b5], ag) by rw [PQ.out, PD.out, SD.out]; rfl)
            clear hv
            go_wp2
            go_roundg (l.length - (kk + 1))
            case measure => have := L.out; omega
            case rel => exact ⟨kk + 1, _, _, _, _, _, _, ag, by have := L.out; omega, by omega, by go_num, rfl, PN, CB, B_gb, B_gr, B_gs, HB⟩
          | false =>
            rw [hv] at hcx SD
            have VF := Aside0.mk hv
            have hcall := HP.out w6 y A1 c1 b0 b1 b2 b3 b4 b5 HB.out HL.out (Kd.C_below HI.out HB.out) OK.out
            clear hv
            cases hm : mk y [b0, b1, b2, b3, b4, b5] with
            | false =>
              rw [hm] at hcall SD
              have PN := Aside0.mk (show passC mk l (s0, false) = passC mk (l.drop (kk + 1)) ([b0, b1, b2, b3, b4, b5], ag) by rw [PQ.out, PD.out, SD.out]; rfl)
              clear hm
              go_wp2_with fail
              refine hcall.mono ?_
              rintro e w7 ⟨rfl, hb_⟩
              clear hcall hcx
              clear x_gs_0 x_gs_1 x_gs_2 x_gs_3 x_gs_4 x_gs_5 x_gc_0 x_gc_1
              have n0_ := Aside0.mk (below_step (by repeat (first | (with_reducible first | exact HB.out | apply below_alloc | apply pw_below_drewN | apply below_drew1) | exact HB.out)) hb_)
              have n_gb := Aside0.mk (blk_below (by (with_reducible repeat (first | refine blk_drewN ?_ _ | refine blk_drew ?_ | refine blk_alloc ?_ _)); exact B_gb.out) hb_)
              have n_gr := Aside0.mk (blk_below (by (with_reducible repeat (first | refine blk_drewN ?_ _ | refine blk_drew ?_ | refine blk_alloc ?_ _)); exact B_gr.out) hb_)
              have n_gs := Aside0.mk (blk_below (by (with_reducible repeat (first | refine blk_drewN ?_ _ | refine blk_drew ?_ | refine blk_alloc ?_ _)); exact B_gs.out) hb_)
              have n_gc := Aside0.mk (blk_below (by (with_reducible repeat (first | refine blk_drewN ?_ _ | refine blk_drew ?_ | refine blk_alloc ?_ _)); exact B_gc.out) hb_)
              clear HB B_gb B_gr B_gs B_gc
              have HB := n0_
              have B_gb := n_gb
              have B_gr := n_gr
              have B_gs := n_gs
              have B_gc := n_gc
              clear n0_ n_gb n_gr n_gs n_gc
              clear hb_
              go_wp2
              go_roundg (l.length - (kk + 1))
              case measure => have := L.out; omega
              case rel => exact ⟨kk + 1, _, _, _, _, _, _, ag, by have := L.out; omega, by omega, by go_num, rfl, PN, CB, B_gb, B_gr, B_gs, HB⟩
            | true =>
              rw [hm] at hcall SD
              obtain ⟨d0, d1, d2, d3, d4, d5, hset⟩ := six ([b0, b1, b2, b3, b4, b5].set y.f0.toNat true) (by rw [List.length_set]; rfl)
              have ST := Aside0.mk hset
              have PN := Aside0.mk (show passC mk l (s0, false) = passC mk (l.drop (kk + 1)) ([d0, d1, d2, d3, d4, d5], true) by rw [PQ.out, PD.out, SD.out, ← hset]; rfl)
              have CB2 := Aside0.mk (show cntF [d0, d1, d2, d3, d4, d5] ≤ cntF s0 ∧ (true = true → cntF [d0, d1, d2, d3, d4, d5] < cntF s0) by have h1 := cntF_set [b0, b1, b2, b3, b4, b5] y.f0.toNat hyn VF.out; rw [hset] at h1; have h2 := CB.out.1; exact ⟨by omega, fun _ => by omega⟩)
              clear hm hset
              go_wp2_with fail
              refine hcall.mono ?_
              rintro e w7 ⟨rfl, hb_⟩
              clear hcall hcx
              clear x_gs_0 x_gs_1 x_gs_2 x_gs_3 x_gs_4 x_gs_5 x_gc_0 x_gc_1
              have n0_ := Aside0.mk (below_step (by repeat (first | (with_reducible first | exact HB.out | apply below_alloc | apply pw_below_drewN | apply below_drew1) | exact HB.out)) hb_)
              have n_gb := Aside0.mk (blk_below (by (with_reducible repeat (first | refine blk_drewN ?_ _ | refine blk_drew ?_ | refine blk_alloc ?_ _)); exact B_gb.out) hb_)
              have n_gr := Aside0.mk (blk_below (by (with_reducible repeat (first | refine blk_drewN ?_ _ | refine blk_drew ?_ | refine blk_alloc ?_ _)); exact B_gr.out) hb_)
              have n_gs := Aside0.mk (blk_below (by (with_reducible repeat (first | refine blk_drewN ?_ _ | refine blk_drew ?_ | refine blk_alloc ?_ _)); exact B_gs.out) hb_)
              have n_gc := Aside0.mk (blk_below (by (with_reducible repeat (first | refine blk_drewN ?_ _ | refine blk_drew ?_ | refine blk_alloc ?_ _)); exact B_gc.out) hb_)
              clear HB B_gb B_gr B_gs B_gc
              have HB := n0_
              have B_gb := n_gb
              have B_gr := n_gr
              have B_gs := n_gs
              have B_gc := n_gc
              clear n0_ n_gb n_gr n_gs n_gc
              clear hb_
              have x_gc_0 : w7.cell? ⟨gc, 0, none⟩ = some (.int .i64 y.f0) := (blk_cell B_gc.out 0).trans rfl
              have x_gc_1 : w7.cell? ⟨gc, 1, none⟩ = some (.slice A1 y.f1.length c1) := (blk_cell B_gc.out 1).trans rfl
              have hcy : w7.cell? ⟨gs, y.f0.toNat, none⟩ = some (.bool ([b0, b1, b2, b3, b4, b5].getD y.f0.toNat false)) := (blk_cell B_gs.out y.f0.toNat).trans (bools_get b0 b1 b2 b3 b4 b5 y.f0.toNat hyn)
              rw [VF.out] at hcy
              have hfy := blk_frozen B_gs.out y.f0.toNat
              go_wp2
              obtain ⟨w8, hw_⟩ : ∃ w_ : World, w_ = (w7.setCell ⟨gs, y.f0.toNat, none⟩ (.bool true)) := ⟨_, rfl⟩
              rw [← hw_]
              clear x_gc_0 x_gc_1
              have m0_ := Aside0.mk (show Below w.heap.size w w8 by rw [hw_]; exact (below_set HB.out GE_gs.out))
              have m_gb := Aside0.mk (show w8.heap[gb]? = some (.cells #[.int .i64 a0, .int .i64 a1, .slice (some ad) l.length c] 30 (0, 0)) by rw [hw_]; exact (blk_far B_gb.out NE_gb_gs.out _))
              have m_gr := Aside0.mk (show w8.heap[gr]? = some (.cells #[.bool false, .bool false, .bool false, .bool false, .bool false, .bool false] 54 (0, 0)) by rw [hw_]; exact (blk_far B_gr.out NE_gr_gs.out _))
              have m_gs := Aside0.mk (show w8.heap[gs]? = some (.cells #[.bool d0, .bool d1, .bool d2, .bool d3, .bool d4, .bool d5] 54 (0, 0)) by rw [hw_]; exact blk_put (cs := #[.bool b0, .bool b1, .bool b2, .bool b3, .bool b4, .bool b5]) B_gs.out y.f0.toNat _ (bools_set b0 b1 b2 b3 b4 b5 y.f0.toNat d0 d1 d2 d3 d4 d5 ST.out))
              have m_gc := Aside0.mk (show w8.heap[gc]? = some (.cells #[.int .i64 y.f0, .slice A1 y.f1.length c1] 47 (0, 0)) by rw [hw_]; exact (blk_far B_gc.out (Ne.symm NE_gs_gc.out) _))
              clear HB hw_ B_gb B_gr B_gs B_gc
              have HB := m0_
              have B_gb := m_gb
              have B_gr := m_gr
              have B_gs := m_gs
              have B_gc := m_gc
              clear m0_ m_gb m_gr m_gs m_gc
              go_roundg (l.length - (kk + 1))
              case measure => have := L.out; omega
              case rel => exact ⟨kk + 1, _, _, _, _, _, _, true, by have := L.out; omega, by omega, by go_num, rfl, PN, ⟨CB2.out.1, fun _ => CB2.out.2 trivial⟩, B_gb, B_gr, B_gs, HB⟩
        · have hd : decide (kk < l.length) = false := decide_eq_false hlt
          have PE := Aside0.mk (show passC mk l (s0, false) = ([b0, b1, b2, b3, b4, b5], ag) by rw [PQ.out, List.drop_of_length_le (by omega)]; rfl)
          clear hlt
          cases n with
          | zero => exact absurd CN.out (Nat.not_lt_zero _)
          | succ n =>
            have FN := Aside0.mk (show closedF mk l = if ag = true then closeN mk l n [b0, b1, b2, b3, b4, b5] else [b0, b1, b2, b3, b4, b5] by rw [← CL.out]; show (if (passC mk l (s0, false)).2 = true then closeN mk l n (passC mk l (s0, false)).1 else (passC mk l (s0, false)).1) = _; rw [PE.out])
            go_wp2
            go_roundg n
            case measure => omega
            case rel => exact ⟨n, _, _, _, _, _, _, ag, rfl, Nat.le_refl _, ⟨fun h => ⟨by have h1 := CB.out.2 h; have h2 := CN.out; omega, by rw [FN.out, if_pos h]⟩⟩, ⟨fun h => by rw [FN.out, if_neg (by rw [h]; exact Bool.false_ne_true)]⟩, B_gb, B_gr, B_gs, HB⟩
end Go.Proofs.Ytohbdjdjjbieeaa.P

/-! Hnp -/
/- The program's nullable, productive, growing and listOf: what they answer, and that they answer it. -/
namespace Go.Proofs.Ytohbdjdjjbieeaa.P
open Go.RowKit Go.Proofs.YtohbdjdjjbieeaaW.PrintWords Go.Proofs.YtohbdjdjjbieeaaW.PrintLast Go.Proofs.YtohbdjdjjbieeaaW.PrintMore
set_option linter.unusedVariables false
set_option linter.unusedSimpArgs false

theorem goodG_ok {nons toks : Int} {l : List S47} (h : goodG nons toks l = true) (j : Nat) (hj : j < l.length) : okR nons toks (rd_T47 l j) = true := by
  have hr : rulesB nons toks l l.length = true := by
    unfold goodG at h
    simp only [Bool.and_eq_true] at h
    exact h.2.2.2
  cases hq : okR nons toks (rd_T47 l j) with
  | true => rfl
  | false => rw [rulesB_no nons toks l j l.length hj (.inl hq)] at hr; cases hr
theorem goodG_nons {nons toks : Int} {l : List S47} (h : goodG nons toks l = true) : (1 ≤ nons ∧ nons ≤ 6) ∧ (1 ≤ toks ∧ toks ≤ 4) ∧ l.length ≤ 16 := by
  unfold goodG at h
  simp only [Bool.and_eq_true, decide_eq_true_eq] at h
  exact ⟨h.1, h.2.1, h.2.2.1⟩
theorem okR_parts {nons toks : Int} {x : S47} (h1 : 1 ≤ nons) (h6 : nons ≤ 6) (h : okR nons toks x = true) : (0 ≤ x.f0 ∧ x.f0 < nons) ∧ x.f1.length ≤ 4 ∧ ∀ j : Nat, j < x.f1.length → wrap64 (-toks) ≤ rd x.f1 j ∧ rd x.f1 j < nons := by
  have hw : wrap64 (nons - 1) = nons - 1 := w64 (by omega) (by omega)
  unfold okR at h
  simp only [Bool.and_eq_true, decide_eq_true_eq, Bool.not_eq_true', List.any_eq_false] at h
  obtain ⟨⟨h2, h3⟩, h4⟩ := h
  rw [hw] at h2
  refine ⟨⟨h2.1, by omega⟩, h3, fun j hj => ?_⟩
  have := h4 (rd x.f1 j) (by unfold rd; rw [List.getD_eq_getElem?_getD, Int.toNat_natCast, List.getElem?_eq_getElem hj]; exact List.getElem_mem hj)
  unfold symB at this
  rw [hw] at this
  simp at this
  exact ⟨this.1, by omega⟩
theorem goodG_okR6 {nons toks : Int} {l : List S47} (h : goodG nons toks l = true) (j : Nat) (hj : j < l.length) : okR6 (rd_T47 l j) := by
  have hn := (goodG_nons h).1
  obtain ⟨h1, _, h2⟩ := okR_parts hn.1 hn.2 (goodG_ok h j hj)
  exact ⟨⟨h1.1, by omega⟩, fun i hi => by have := (h2 i hi).2; omega⟩

set_option maxHeartbeats 2000000 in
theorem pred_nul (b0 b1 b2 b3 b4 b5 : Bool) (B : Nat) (w : World) (hB : w.heap[B]? = some (.cells #[.bool b0, .bool b1, .bool b2, .bool b3, .bool b4, .bool b5] 54 (0, 0))) :
    PredID 71 #[.pointer (some ⟨B, 0, none⟩)] (fun x => x < 6) (fun x => decide (x < 0) || ![b0, b1, b2, b3, b4, b5].getD x.toNat false) w := fun W x hb hx => by
  have hB' := blk_below hB hb
  clear hb hB
  show Calls Try.prog 71 #[.int .i64 x, .pointer (some ⟨B, 0, none⟩)] W fun e w' => e = .returned (.bool (decide (x < 0) || ![b0, b1, b2, b3, b4, b5].getD x.toNat false)) ∧ Below W.heap.size W w'
  by_cases h0 : x < 0
  · have d1 : decide (x < 0) = true := decide_eq_true h0
    have d2 : decide (0 ≤ x) = false := decide_eq_false (by omega)
    clear h0 hB'
    go_enter Try.func71, Try.ntmps71
    go_wp2
    go_ret
    exact ⟨by simp [d1, d2], Below.refl _ _⟩
  · have d1 : decide (x < 0) = false := decide_eq_false h0
    have d2 : decide (0 ≤ x) = true := decide_eq_true (by omega)
    have h1 : 0 ≤ x := by omega
    have hn : x.toNat < 6 := by omega
    have hc : W.cell? ⟨B, x.toNat, none⟩ = some (.bool ([b0, b1, b2, b3, b4, b5].getD x.toNat false)) := (blk_cell hB' x.toNat).trans (bools_get b0 b1 b2 b3 b4 b5 x.toNat hn)
    have D := Aside0.mk (And.intro d1 d2)
    clear hB' h0
    generalize [b0, b1, b2, b3, b4, b5].getD x.toNat false = v at hc ⊢
    go_enter Try.func71, Try.ntmps71
    go_wp2
    go_ret
    exact ⟨by cases v <;> rfl, Below.refl _ _⟩

set_option maxHeartbeats 2000000 in
theorem pred_pro (b0 b1 b2 b3 b4 b5 : Bool) (B : Nat) (w : World) (hB : w.heap[B]? = some (.cells #[.bool b0, .bool b1, .bool b2, .bool b3, .bool b4, .bool b5] 54 (0, 0))) :
    PredID 73 #[.pointer (some ⟨B, 0, none⟩)] (fun x => x < 6) (fun x => decide (0 ≤ x) && ![b0, b1, b2, b3, b4, b5].getD x.toNat false) w := fun W x hb hx => by
  have hB' := blk_below hB hb
  clear hb hB
  show Calls Try.prog 73 #[.int .i64 x, .pointer (some ⟨B, 0, none⟩)] W fun e w' => e = .returned (.bool (decide (0 ≤ x) && ![b0, b1, b2, b3, b4, b5].getD x.toNat false)) ∧ Below W.heap.size W w'
  by_cases h0 : x < 0
  · have d1 : decide (x < 0) = true := decide_eq_true h0
    have d2 : decide (0 ≤ x) = false := decide_eq_false (by omega)
    clear h0 hB'
    go_enter Try.func73, Try.ntmps73
    go_wp2
    go_ret
    exact ⟨by simp [d1, d2], Below.refl _ _⟩
  · have d1 : decide (x < 0) = false := decide_eq_false h0
    have d2 : decide (0 ≤ x) = true := decide_eq_true (by omega)
    have h1 : 0 ≤ x := by omega
    have hn : x.toNat < 6 := by omega
    have hc : W.cell? ⟨B, x.toNat, none⟩ = some (.bool ([b0, b1, b2, b3, b4, b5].getD x.toNat false)) := (blk_cell hB' x.toNat).trans (bools_get b0 b1 b2 b3 b4 b5 x.toNat hn)
    have D := Aside0.mk (And.intro d1 d2)
    clear hB' h0
    generalize [b0, b1, b2, b3, b4, b5].getD x.toNat false = v at hc ⊢
    go_enter Try.func73, Try.ntmps73
    go_wp2
    go_ret
    exact ⟨by cases v <;> rfl, Below.refl _ _⟩

set_option maxHeartbeats 2000000 in
theorem pred_gr1 (b0 b1 b2 b3 b4 b5 : Bool) (B : Nat) (w : World) (hB : w.heap[B]? = some (.cells #[.bool b0, .bool b1, .bool b2, .bool b3, .bool b4, .bool b5] 54 (0, 0))) :
    PredID 75 #[.pointer (some ⟨B, 0, none⟩)] (fun x => x < 6) (fun x => decide (0 ≤ x) && ![b0, b1, b2, b3, b4, b5].getD x.toNat false) w := fun W x hb hx => by
  have hB' := blk_below hB hb
  clear hb hB
  show Calls Try.prog 75 #[.int .i64 x, .pointer (some ⟨B, 0, none⟩)] W fun e w' => e = .returned (.bool (decide (0 ≤ x) && ![b0, b1, b2, b3, b4, b5].getD x.toNat false)) ∧ Below W.heap.size W w'
  by_cases h0 : x < 0
  · have d1 : decide (x < 0) = true := decide_eq_true h0
    have d2 : decide (0 ≤ x) = false := decide_eq_false (by omega)
    clear h0 hB'
    go_enter Try.func75, Try.ntmps75
    go_wp2
    go_ret
    exact ⟨by simp [d1, d2], Below.refl _ _⟩
  · have d1 : decide (x < 0) = false := decide_eq_false h0
    have d2 : decide (0 ≤ x) = true := decide_eq_true (by omega)
    have h1 : 0 ≤ x := by omega
    have hn : x.toNat < 6 := by omega
    have hc : W.cell? ⟨B, x.toNat, none⟩ = some (.bool ([b0, b1, b2, b3, b4, b5].getD x.toNat false)) := (blk_cell hB' x.toNat).trans (bools_get b0 b1 b2 b3 b4 b5 x.toNat hn)
    have D := Aside0.mk (And.intro d1 d2)
    clear hB' h0
    generalize [b0, b1, b2, b3, b4, b5].getD x.toNat false = v at hc ⊢
    go_enter Try.func75, Try.ntmps75
    go_wp2
    go_ret
    exact ⟨by cases v <;> rfl, Below.refl _ _⟩

set_option maxHeartbeats 2000000 in
theorem pred_gr2 (b0 b1 b2 b3 b4 b5 : Bool) (B : Nat) (w : World) (hB : w.heap[B]? = some (.cells #[.bool b0, .bool b1, .bool b2, .bool b3, .bool b4, .bool b5] 54 (0, 0))) :
    PredID 76 #[.pointer (some ⟨B, 0, none⟩)] (fun x => x < 6) (fun x => decide (x < 0) || [b0, b1, b2, b3, b4, b5].getD x.toNat false) w := fun W x hb hx => by
  have hB' := blk_below hB hb
  clear hb hB
  show Calls Try.prog 76 #[.int .i64 x, .pointer (some ⟨B, 0, none⟩)] W fun e w' => e = .returned (.bool (decide (x < 0) || [b0, b1, b2, b3, b4, b5].getD x.toNat false)) ∧ Below W.heap.size W w'
  by_cases h0 : x < 0
  · have d1 : decide (x < 0) = true := decide_eq_true h0
    have d2 : decide (0 ≤ x) = false := decide_eq_false (by omega)
    clear h0 hB'
    go_enter Try.func76, Try.ntmps76
    go_wp2
    go_ret
    exact ⟨by simp [d1, d2], Below.refl _ _⟩
  · have d1 : decide (x < 0) = false := decide_eq_false h0
    have d2 : decide (0 ≤ x) = true := decide_eq_true (by omega)
    have h1 : 0 ≤ x := by omega
    have hn : x.toNat < 6 := by omega
    have hc : W.cell? ⟨B, x.toNat, none⟩ = some (.bool ([b0, b1, b2, b3, b4, b5].getD x.toNat false)) := (blk_cell hB' x.toNat).trans (bools_get b0 b1 b2 b3 b4 b5 x.toNat hn)
    have D := Aside0.mk (And.intro d1 d2)
    clear hB' h0
    generalize [b0, b1, b2, b3, b4, b5].getD x.toNat false = v at hc ⊢
    go_enter Try.func76, Try.ntmps76
    go_wp2
    go_ret
    exact ⟨by cases v <;> rfl, Below.refl _ _⟩

def nulP (s : List Bool) (x : Int) : Bool := decide (x < 0) || !s.getD x.toNat false
def proP (s : List Bool) (x : Int) : Bool := decide (0 ≤ x) && !s.getD x.toNat false
def groP (s : List Bool) (x : Int) : Bool := decide (x < 0) || s.getD x.toNat false
def mkNul (r : S47) (s : List Bool) : Bool := !(r.f1.any (nulP s))
def mkPro (r : S47) (s : List Bool) : Bool := !(r.f1.any (proP s))
def mkGro (pr : List Bool) (r : S47) (s : List Bool) : Bool := !(r.f1.any (proP pr)) && r.f1.any (groP s)

set_option maxHeartbeats 2000000 in
theorem predC_mkNul (w : World) : PredC 69 #[] mkNul w := fun W x A c b0 b1 b2 b3 b4 b5 hb hc hr ok => by
  show Calls Try.prog 69 #[.agg #[.int .i64 x.f0, .slice A x.f1.length c], .agg #[.bool b0, .bool b1, .bool b2, .bool b3, .bool b4, .bool b5]] W fun e w' => e = .returned (.bool (mkNul x [b0, b1, b2, b3, b4, b5])) ∧ Below W.heap.size W w'
  have eg : ∀ args w, (callFunc 71 args).run Try.prog w = .ok (.enter 71 args) w := enters_of Try.func71 (by kernel_rfl) rfl
  have CF := fun (V : World) (B : Nat) (hV : Below W.heap.size W V) (hB : V.heap[B]? = some (.cells #[.bool b0, .bool b1, .bool b2, .bool b3, .bool b4, .bool b5] 54 (0, 0))) =>
    containsFunc_intD _ #[.pointer (some ⟨B, 0, none⟩)] eg (nulP [b0, b1, b2, b3, b4, b5]) A c x.f1 V (Kd.C_below hr hV) hc (fun x => x < 6) ok.2 (pred_nul b0 b1 b2 b3 b4 b5 B V hB)
  unfold mkNul
  have HB := Aside0.mk (Below.refl W.heap.size W)
  clear hb hr ok eg
  generalize x.f1.any (nulP [b0, b1, b2, b3, b4, b5]) = v at CF ⊢
  go_enter Try.func69, Try.ntmps69
  go_wp2_with (first | ((with_reducible refine gate_dst (N := 2) rfl ?_); refine box_event ?hg (N := 2) ?hd (cs := #[.int .i64 x.f0, .slice A x.f1.length c]) (t := 47) ?hr ?_; (case hd => rfl); (case hg => rfl); (case hr => first | (go_simp; done) | (go_simp; rfl)); intro gr hg_ w1 hbox_ hb_; have GE_gr := Aside0.mk (show W.heap.size ≤ gr by rw [hg_]; exact below_size (by repeat (first | (with_reducible first | exact HB.out | apply below_alloc | apply pw_below_drewN | apply below_drew1) | exact HB.out))); have n0_ := Aside0.mk (below_step (by repeat (first | (with_reducible first | exact HB.out | apply below_alloc | apply pw_below_drewN | apply below_drew1) | exact HB.out)) hb_); clear HB; have HB := n0_; clear n0_; have B_gr := Aside0.mk hbox_; clear hb_ hbox_ hg_; have x_gr_0 : w1.cell? ⟨gr, 0, none⟩ = some (.int .i64 x.f0) := (blk_cell B_gr.out 0).trans rfl; have x_gr_1 : w1.cell? ⟨gr, 1, none⟩ = some (.slice A x.f1.length c) := (blk_cell B_gr.out 1).trans rfl) | ((with_reducible refine gate_dst (N := 3) rfl ?_); refine box_event ?hg (N := 3) ?hd (cs := #[.bool b0, .bool b1, .bool b2, .bool b3, .bool b4, .bool b5]) (t := 54) ?hr ?_; (case hd => rfl); (case hg => rfl); (case hr => first | (go_simp; done) | (go_simp; rfl)); intro gs hg_ w2 hbox_ hb_; have GE_gs := Aside0.mk (show W.heap.size ≤ gs by rw [hg_]; exact below_size (by repeat (first | (with_reducible first | exact HB.out | apply below_alloc | apply pw_below_drewN | apply below_drew1) | exact HB.out))); have NE_gr_gs := Aside0.mk (show gr ≠ gs by rw [hg_]; exact Nat.ne_of_lt (blk_lt (by (with_reducible repeat (first | refine blk_drewN ?_ _ | refine blk_drew ?_ | refine blk_alloc ?_ _)); exact B_gr.out))); clear x_gr_0 x_gr_1; have n0_ := Aside0.mk (below_step (by repeat (first | (with_reducible first | exact HB.out | apply below_alloc | apply pw_below_drewN | apply below_drew1) | exact HB.out)) hb_); have n_gr := Aside0.mk (blk_below (by (with_reducible repeat (first | refine blk_drewN ?_ _ | refine blk_drew ?_ | refine blk_alloc ?_ _)); exact B_gr.out) hb_); clear HB B_gr; have HB := n0_; have B_gr := n_gr; clear n0_ n_gr; have B_gs := Aside0.mk hbox_; clear hb_ hbox_ hg_; have x_gr_0 : w2.cell? ⟨gr, 0, none⟩ = some (.int .i64 x.f0) := (blk_cell B_gr.out 0).trans rfl; have x_gr_1 : w2.cell? ⟨gr, 1, none⟩ = some (.slice A x.f1.length c) := (blk_cell B_gr.out 1).trans rfl) | (go_at_call 70; (with_reducible refine (CF _ gs HB.out B_gs.out).mono ?_); rintro e w3 ⟨rfl, hb_⟩; clear x_gr_0 x_gr_1; have n0_ := Aside0.mk (below_step (by repeat (first | (with_reducible first | exact HB.out | apply below_alloc | apply pw_below_drewN | apply below_drew1) | exact HB.out)) hb_); have n_gr := Aside0.mk (blk_below (by (with_reducible repeat (first | refine blk_drewN ?_ _ | refine blk_drew ?_ | refine blk_alloc ?_ _)); exact B_gr.out) hb_); have n_gs := Aside0.mk (blk_below (by (with_reducible repeat (first | refine blk_drewN ?_ _ | refine blk_drew ?_ | refine blk_alloc ?_ _)); exact B_gs.out) hb_); clear HB B_gr B_gs; have HB := n0_; have B_gr := n_gr; have B_gs := n_gs; clear n0_ n_gr n_gs; clear hb_))
  go_ret
  exact ⟨rfl, HB.out⟩

set_option maxHeartbeats 2000000 in
theorem predC_mkPro (w : World) : PredC 72 #[] mkPro w := fun W x A c b0 b1 b2 b3 b4 b5 hb hc hr ok => by
  show Calls Try.prog 72 #[.agg #[.int .i64 x.f0, .slice A x.f1.length c], .agg #[.bool b0, .bool b1, .bool b2, .bool b3, .bool b4, .bool b5]] W fun e w' => e = .returned (.bool (mkPro x [b0, b1, b2, b3, b4, b5])) ∧ Below W.heap.size W w'
  have eg : ∀ args w, (callFunc 73 args).run Try.prog w = .ok (.enter 73 args) w := enters_of Try.func73 (by kernel_rfl) rfl
  have CF := fun (V : World) (B : Nat) (hV : Below W.heap.size W V) (hB : V.heap[B]? = some (.cells #[.bool b0, .bool b1, .bool b2, .bool b3, .bool b4, .bool b5] 54 (0, 0))) =>
    containsFunc_intD _ #[.pointer (some ⟨B, 0, none⟩)] eg (proP [b0, b1, b2, b3, b4, b5]) A c x.f1 V (Kd.C_below hr hV) hc (fun x => x < 6) ok.2 (pred_pro b0 b1 b2 b3 b4 b5 B V hB)
  unfold mkPro
  have HB := Aside0.mk (Below.refl W.heap.size W)
  clear hb hr ok eg
  generalize x.f1.any (proP [b0, b1, b2, b3, b4, b5]) = v at CF ⊢
  go_enter Try.func72, Try.ntmps72
  go_wp2_with (first | ((with_reducible refine gate_dst (N := 2) rfl ?_); refine box_event ?hg (N := 2) ?hd (cs := #[.int .i64 x.f0, .slice A x.f1.length c]) (t := 47) ?hr ?_; (case hd => rfl); (case hg => rfl); (case hr => first | (go_simp; done) | (go_simp; rfl)); intro gr hg_ w1 hbox_ hb_; have GE_gr := Aside0.mk (show W.heap.size ≤ gr by rw [hg_]; exact below_size (by repeat (first | (with_reducible first | exact HB.out | apply below_alloc | apply pw_below_drewN | apply below_drew1) | exact HB.out))); have n0_ := Aside0.mk (below_step (by repeat (first | (with_reducible first | exact HB.out | apply below_alloc | apply pw_below_drewN | apply below_drew1) | exact HB.out)) hb_); clear HB; have HB := n0_; clear n0_; have B_gr := Aside0.mk hbox_; clear hb_ hbox_ hg_; have x_gr_0 : w1.cell? ⟨gr, 0, none⟩ = some (.int .i64 x.f0) := (blk_cell B_gr.out 0).trans rfl; have x_gr_1 : w1.cell? ⟨gr, 1, none⟩ = some (.slice A x.f1.length c) := (blk_cell B_gr.out 1).trans rfl) | ((with_reducible refine gate_dst (N := 3) rfl ?_); refine box_event ?hg (N := 3) ?hd (cs := #[.bool b0, .bool b1, .bool b2, .bool b3, .bool b4, .bool b5]) (t := 54) ?hr ?_; (case hd => rfl); (case hg => rfl); (case hr => first | (go_simp; done) | (go_simp; rfl)); intro gs hg_ w2 hbox_ hb_; have GE_gs := Aside0.mk (show W.heap.size ≤ gs by rw [hg_]; exact below_size (by repeat (first | (with_reducible first | exact HB.out | apply below_alloc | apply pw_below_drewN | apply below_drew1) | exact HB.out))); have NE_gr_gs := Aside0.mk (show gr ≠ gs by rw [hg_]; exact Nat.ne_of_lt (blk_lt (by (with_reducible repeat (first | refine blk_drewN ?_ _ | refine blk_drew ?_ | refine blk_alloc ?_ _)); exact B_gr.out))); clear x_gr_0 x_gr_1; have n0_ := Aside0.mk (below_step (by repeat (first | (with_reducible first | exact HB.out | apply below_alloc | apply pw_below_drewN | apply below_drew1) | exact HB.out)) hb_); have n_gr := Aside0.mk (blk_below (by (with_reducible repeat (first | refine blk_drewN ?_ _ | refine blk_drew ?_ | refine blk_alloc ?_ _)); exact B_gr.out) hb_); clear HB B_gr; have HB := n0_; have B_gr := n_gr; clear n0_ n_gr; have B_gs := Aside0.mk hbox_; clear hb_ hbox_ hg_; have x_gr_0 : w2.cell? ⟨gr, 0, none⟩ = some (.int .i64 x.f0) := (blk_cell B_gr.out 0).trans rfl; have x_gr_1 : w2.cell? ⟨gr, 1, none⟩ = some (.slice A x.f1.length c) := (blk_cell B_gr.out 1).trans rfl) | (go_at_call 70; (with_reducible refine (CF _ gs HB.out B_gs.out).mono ?_); rintro e w3 ⟨rfl, hb_⟩; clear x_gr_0 x_gr_1; have n0_ := Aside0.mk (below_step (by repeat (first | (with_reducible first | exact HB.out | apply below_alloc | apply pw_below_drewN | apply below_drew1) | exact HB.out)) hb_); have n_gr := Aside0.mk (blk_below (by (with_reducible repeat (first | refine blk_drewN ?_ _ | refine blk_drew ?_ | refine blk_alloc ?_ _)); exact B_gr.out) hb_); have n_gs := Aside0.mk (blk_below (by (with_reducible repeat (first | refine blk_drewN ?_ _ | refine blk_drew ?_ | refine blk_alloc ?_ _)); exact B_gs.out) hb_); clear HB B_gr B_gs; have HB := n0_; have B_gr := n_gr; have B_gs := n_gs; clear n0_ n_gr n_gs; clear hb_))
  go_ret
  exact ⟨rfl, HB.out⟩

set_option maxHeartbeats 2000000 in
theorem predC_mkGro (p0 p1 p2 p3 p4 p5 : Bool) (gp : Nat) (w : World) (hP : w.heap[gp]? = some (.cells #[.bool p0, .bool p1, .bool p2, .bool p3, .bool p4, .bool p5] 54 (0, 0))) : PredC 74 #[.pointer (some ⟨gp, 0, none⟩)] (mkGro [p0, p1, p2, p3, p4, p5]) w := fun W x A c b0 b1 b2 b3 b4 b5 hb hc hr ok => by
  show Calls Try.prog 74 #[.agg #[.int .i64 x.f0, .slice A x.f1.length c], .agg #[.bool b0, .bool b1, .bool b2, .bool b3, .bool b4, .bool b5], .pointer (some ⟨gp, 0, none⟩)] W fun e w' => e = .returned (.bool (mkGro [p0, p1, p2, p3, p4, p5] x [b0, b1, b2, b3, b4, b5])) ∧ Below W.heap.size W w'
  have eg1 : ∀ args w, (callFunc 75 args).run Try.prog w = .ok (.enter 75 args) w := enters_of Try.func75 (by kernel_rfl) rfl
  have eg2 : ∀ args w, (callFunc 76 args).run Try.prog w = .ok (.enter 76 args) w := enters_of Try.func76 (by kernel_rfl) rfl
  have CF := fun (V : World) (B : Nat) (hV : Below W.heap.size W V) (hB : V.heap[B]? = some (.cells #[.bool p0, .bool p1, .bool p2, .bool p3, .bool p4, .bool p5] 54 (0, 0))) =>
    containsFunc_intD _ #[.pointer (some ⟨B, 0, none⟩)] eg1 (proP [p0, p1, p2, p3, p4, p5]) A c x.f1 V (Kd.C_below hr hV) hc (fun x => x < 6) ok.2 (pred_gr1 p0 p1 p2 p3 p4 p5 B V hB)
  have CG := fun (V : World) (B : Nat) (hV : Below W.heap.size W V) (hB : V.heap[B]? = some (.cells #[.bool b0, .bool b1, .bool b2, .bool b3, .bool b4, .bool b5] 54 (0, 0))) =>
    containsFunc_intD _ #[.pointer (some ⟨B, 0, none⟩)] eg2 (groP [b0, b1, b2, b3, b4, b5]) A c x.f1 V (Kd.C_below hr hV) hc (fun x => x < 6) ok.2 (pred_gr2 b0 b1 b2 b3 b4 b5 B V hB)
  unfold mkGro
  have HB := Aside0.mk (Below.refl W.heap.size W)
  have B_gp := Aside0.mk (blk_below hP hb)
  clear hb hr ok eg1 eg2 hP
  generalize x.f1.any (proP [p0, p1, p2, p3, p4, p5]) = u at CF ⊢
  generalize x.f1.any (groP [b0, b1, b2, b3, b4, b5]) = v at CG ⊢
  have tok1 : True := trivial
  cases u with
  | true =>
    clear CG
    go_enter Try.func74, Try.ntmps74
    go_wp2_with (first | ((with_reducible refine gate_dst (N := 3) rfl ?_); refine box_event ?hg (N := 3) ?hd (cs := #[.int .i64 x.f0, .slice A x.f1.length c]) (t := 47) ?hr ?_; (case hd => rfl); (case hg => rfl); (case hr => first | (go_simp; done) | (go_simp; rfl)); intro gr hg_ w1 hbox_ hb_; have GE_gr := Aside0.mk (show W.heap.size ≤ gr by rw [hg_]; exact below_size (by repeat (first | (with_reducible first | exact HB.out | apply below_alloc | apply pw_below_drewN | apply below_drew1) | exact HB.out))); have NE_gp_gr := Aside0.mk (show gp ≠ gr by rw [hg_]; exact Nat.ne_of_lt (blk_lt (by (with_reducible repeat (first | refine blk_drewN ?_ _ | refine blk_drew ?_ | refine blk_alloc ?_ _)); exact B_gp.out))); have n0_ := Aside0.mk (below_step (by repeat (first | (with_reducible first | exact HB.out | apply below_alloc | apply pw_below_drewN | apply below_drew1) | exact HB.out)) hb_); have n_gp := Aside0.mk (blk_below (by (with_reducible repeat (first | refine blk_drewN ?_ _ | refine blk_drew ?_ | refine blk_alloc ?_ _)); exact B_gp.out) hb_); clear HB B_gp; have HB := n0_; have B_gp := n_gp; clear n0_ n_gp; have B_gr := Aside0.mk hbox_; clear hb_ hbox_ hg_; have x_gr_0 : w1.cell? ⟨gr, 0, none⟩ = some (.int .i64 x.f0) := (blk_cell B_gr.out 0).trans rfl; have x_gr_1 : w1.cell? ⟨gr, 1, none⟩ = some (.slice A x.f1.length c) := (blk_cell B_gr.out 1).trans rfl) | ((with_reducible refine gate_dst (N := 4) rfl ?_); refine box_event ?hg (N := 4) ?hd (cs := #[.bool b0, .bool b1, .bool b2, .bool b3, .bool b4, .bool b5]) (t := 54) ?hr ?_; (case hd => rfl); (case hg => rfl); (case hr => first | (go_simp; done) | (go_simp; rfl)); intro gs hg_ w2 hbox_ hb_; have GE_gs := Aside0.mk (show W.heap.size ≤ gs by rw [hg_]; exact below_size (by repeat (first | (with_reducible first | exact HB.out | apply below_alloc | apply pw_below_drewN | apply below_drew1) | exact HB.out))); have NE_gp_gs := Aside0.mk (show gp ≠ gs by rw [hg_]; exact Nat.ne_of_lt (blk_lt (by (with_reducible repeat (first | refine blk_drewN ?_ _ | refine blk_drew ?_ | refine blk_alloc ?_ _)); exact B_gp.out))); have NE_gr_gs := Aside0.mk (show gr ≠ gs by rw [hg_]; exact Nat.ne_of_lt (blk_lt (by (with_reducible repeat (first | refine blk_drewN ?_ _ | refine blk_drew ?_ | refine blk_alloc ?_ _)); exact B_gr.out))); clear x_gr_0 x_gr_1; have n0_ := Aside0.mk (below_step (by repeat (first | (with_reducible first | exact HB.out | apply below_alloc | apply pw_below_drewN | apply below_drew1) | exact HB.out)) hb_); have n_gp := Aside0.mk (blk_below (by (with_reducible repeat (first | refine blk_drewN ?_ _ | refine blk_drew ?_ | refine blk_alloc ?_ _)); exact B_gp.out) hb_); have n_gr := Aside0.mk (blk_below (by (with_reducible repeat (first | refine blk_drewN ?_ _ | refine blk_drew ?_ | refine blk_alloc ?_ _)); exact B_gr.out) hb_); clear HB B_gp B_gr; have HB := n0_; have B_gp := n_gp; have B_gr := n_gr; clear n0_ n_gp n_gr; have B_gs := Aside0.mk hbox_; clear hb_ hbox_ hg_; have x_gr_0 : w2.cell? ⟨gr, 0, none⟩ = some (.int .i64 x.f0) := (blk_cell B_gr.out 0).trans rfl; have x_gr_1 : w2.cell? ⟨gr, 1, none⟩ = some (.slice A x.f1.length c) := (blk_cell B_gr.out 1).trans rfl) | (have _t := tok1; go_at_call 70; (with_reducible refine (CF _ gp HB.out B_gp.out).mono ?_); rintro e w3 ⟨rfl, hb_⟩; clear x_gr_0 x_gr_1; have n0_ := Aside0.mk (below_step (by repeat (first | (with_reducible first | exact HB.out | apply below_alloc | apply pw_below_drewN | apply below_drew1) | exact HB.out)) hb_); have n_gp := Aside0.mk (blk_below (by (with_reducible repeat (first | refine blk_drewN ?_ _ | refine blk_drew ?_ | refine blk_alloc ?_ _)); exact B_gp.out) hb_); have n_gr := Aside0.mk (blk_below (by (with_reducible repeat (first | refine blk_drewN ?_ _ | refine blk_drew ?_ | refine blk_alloc ?_ _)); exact B_gr.out) hb_); have n_gs := Aside0.mk (blk_below (by (with_reducible repeat (first | refine blk_drewN ?_ _ | refine blk_drew ?_ | refine blk_alloc ?_ _)); exact B_gs.out) hb_); clear HB B_gp B_gr B_gs; have HB := n0_; have B_gp := n_gp; have B_gr := n_gr; have B_gs := n_gs; clear n0_ n_gp n_gr n_gs; clear hb_; have x_gr_0 : w3.cell? ⟨gr, 0, none⟩ = some (.int .i64 x.f0) := (blk_cell B_gr.out 0).trans rfl; have x_gr_1 : w3.cell? ⟨gr, 1, none⟩ = some (.slice A x.f1.length c) := (blk_cell B_gr.out 1).trans rfl; clear CF; clear tok1; have tok2 : True := trivial))
    go_ret
    exact ⟨rfl, HB.out⟩
  | false =>
    go_enter Try.func74, Try.ntmps74
    go_wp2_with (first | ((with_reducible refine gate_dst (N := 3) rfl ?_); refine box_event ?hg (N := 3) ?hd (cs := #[.int .i64 x.f0, .slice A x.f1.length c]) (t := 47) ?hr ?_; (case hd => rfl); (case hg => rfl); (case hr => first | (go_simp; done) | (go_simp; rfl)); intro gr hg_ w1 hbox_ hb_; have GE_gr := Aside0.mk (show W.heap.size ≤ gr by rw [hg_]; exact below_size (by repeat (first | (with_reducible first | exact HB.out | apply below_alloc | apply pw_below_drewN | apply below_drew1) | exact HB.out))); have NE_gp_gr := Aside0.mk (show gp ≠ gr by rw [hg_]; exact Nat.ne_of_lt (blk_lt (by (with_reducible repeat (first | refine blk_drewN ?_ _ | refine blk_drew ?_ | refine blk_alloc ?_ _)); exact B_gp.out))); have n0_ := Aside0.mk (below_step (by repeat (first | (with_reducible first | exact HB.out | apply below_alloc | apply pw_below_drewN | apply below_drew1) | exact HB.out)) hb_); have n_gp := Aside0.mk (blk_below (by (with_reducible repeat (first | refine blk_drewN ?_ _ | refine blk_drew ?_ | refine blk_alloc ?_ _)); exact B_gp.out) hb_); clear HB B_gp; have HB := n0_; have B_gp := n_gp; clear n0_ n_gp; have B_gr := Aside0.mk hbox_; clear hb_ hbox_ hg_; have x_gr_0 : w1.cell? ⟨gr, 0, none⟩ = some (.int .i64 x.f0) := (blk_cell B_gr.out 0).trans rfl; have x_gr_1 : w1.cell? ⟨gr, 1, none⟩ = some (.slice A x.f1.length c) := (blk_cell B_gr.out 1).trans rfl) | ((with_reducible refine gate_dst (N := 4) rfl ?_); refine box_event ?hg (N := 4) ?hd (cs := #[.bool b0, .bool b1, .bool b2, .bool b3, .bool b4, .bool b5]) (t := 54) ?hr ?_; (case hd => rfl); (case hg => rfl); (case hr => first | (go_simp; done) | (go_simp; rfl)); intro gs hg_ w2 hbox_ hb_; have GE_gs := Aside0.mk (show W.heap.size ≤ gs by rw [hg_]; exact below_size (by repeat (first | (with_reducible first | exact HB.out | apply below_alloc | apply pw_below_drewN | apply below_drew1) | exact HB.out))); have NE_gp_gs := Aside0.mk (show gp ≠ gs by rw [hg_]; exact Nat.ne_of_lt (blk_lt (by (with_reducible repeat (first | refine blk_drewN ?_ _ | refine blk_drew ?_ | refine blk_alloc ?_ _)); exact B_gp.out))); have NE_gr_gs := Aside0.mk (show gr ≠ gs by rw [hg_]; exact Nat.ne_of_lt (blk_lt (by (with_reducible repeat (first | refine blk_drewN ?_ _ | refine blk_drew ?_ | refine blk_alloc ?_ _)); exact B_gr.out))); clear x_gr_0 x_gr_1; have n0_ := Aside0.mk (below_step (by repeat (first | (with_reducible first | exact HB.out | apply below_alloc | apply pw_below_drewN | apply below_drew1) | exact HB.out)) hb_); have n_gp := Aside0.mk (blk_below (by (with_reducible repeat (first | refine blk_drewN ?_ _ | refine blk_drew ?_ | refine blk_alloc ?_ _)); exact B_gp.out) hb_); have n_gr := Aside0.mk (blk_below (by (with_reducible repeat (first | refine blk_drewN ?_ _ | refine blk_drew ?_ | refine blk_alloc ?_ _)); exact B_gr.out) hb_); clear HB B_gp B_gr; have HB := n0_; have B_gp := n_gp; have B_gr := n_gr; clear n0_ n_gp n_gr; have B_gs := Aside0.mk hbox_; clear hb_ hbox_ hg_; have x_gr_0 : w2.cell? ⟨gr, 0, none⟩ = some (.int .i64 x.f0) := (blk_cell B_gr.out 0).trans rfl; have x_gr_1 : w2.cell? ⟨gr, 1, none⟩ = some (.slice A x.f1.length c) := (blk_cell B_gr.out 1).trans rfl) | (have _t := tok1; go_at_call 70; (with_reducible refine (CF _ gp HB.out B_gp.out).mono ?_); rintro e w3 ⟨rfl, hb_⟩; clear x_gr_0 x_gr_1; have n0_ := Aside0.mk (below_step (by repeat (first | (with_reducible first | exact HB.out | apply below_alloc | apply pw_below_drewN | apply below_drew1) | exact HB.out)) hb_); have n_gp := Aside0.mk (blk_below (by (with_reducible repeat (first | refine blk_drewN ?_ _ | refine blk_drew ?_ | refine blk_alloc ?_ _)); exact B_gp.out) hb_); have n_gr := Aside0.mk (blk_below (by (with_reducible repeat (first | refine blk_drewN ?_ _ | refine blk_drew ?_ | refine blk_alloc ?_ _)); exact B_gr.out) hb_); have n_gs := Aside0.mk (blk_below (by (with_reducible repeat (first | refine blk_drewN ?_ _ | refine blk_drew ?_ | refine blk_alloc ?_ _)); exact B_gs.out) hb_); clear HB B_gp B_gr B_gs; have HB := n0_; have B_gp := n_gp; have B_gr := n_gr; have B_gs := n_gs; clear n0_ n_gp n_gr n_gs; clear hb_; have x_gr_0 : w3.cell? ⟨gr, 0, none⟩ = some (.int .i64 x.f0) := (blk_cell B_gr.out 0).trans rfl; have x_gr_1 : w3.cell? ⟨gr, 1, none⟩ = some (.slice A x.f1.length c) := (blk_cell B_gr.out 1).trans rfl; clear CF; clear tok1; have tok2 : True := trivial) | (have _t := tok2; go_at_call 70; (with_reducible refine (CG _ gs HB.out B_gs.out).mono ?_); rintro e w4 ⟨rfl, hb_⟩; clear x_gr_0 x_gr_1; have n0_ := Aside0.mk (below_step (by repeat (first | (with_reducible first | exact HB.out | apply below_alloc | apply pw_below_drewN | apply below_drew1) | exact HB.out)) hb_); have n_gp := Aside0.mk (blk_below (by (with_reducible repeat (first | refine blk_drewN ?_ _ | refine blk_drew ?_ | refine blk_alloc ?_ _)); exact B_gp.out) hb_); have n_gr := Aside0.mk (blk_below (by (with_reducible repeat (first | refine blk_drewN ?_ _ | refine blk_drew ?_ | refine blk_alloc ?_ _)); exact B_gr.out) hb_); have n_gs := Aside0.mk (blk_below (by (with_reducible repeat (first | refine blk_drewN ?_ _ | refine blk_drew ?_ | refine blk_alloc ?_ _)); exact B_gs.out) hb_); clear HB B_gp B_gr B_gs; have HB := n0_; have B_gp := n_gp; have B_gr := n_gr; have B_gs := n_gs; clear n0_ n_gp n_gr n_gs; clear hb_))
    go_ret
    exact ⟨by cases v <;> rfl, HB.out⟩

set_option maxHeartbeats 2000000 in
theorem nullable_calls (a0 a1 : Int) (A : Option Addr) (c : Nat) (l : List S47) (w : World) (hr : Kd.C k47 w A l.length l) (hc : l.length ≤ c) (hok : ∀ j : Nat, j < l.length → okR6 (rd_T47 l j)) :
    Calls Try.prog 46 #[.agg #[.int .i64 a0, .int .i64 a1, .slice A l.length c]] w fun e w' => (∃ b0 b1 b2 b3 b4 b5, e = .returned (.agg #[.bool b0, .bool b1, .bool b2, .bool b3, .bool b4, .bool b5]) ∧ closedF mkNul l = [b0, b1, b2, b3, b4, b5]) ∧ Below w.heap.size w w' := by
  have hu := Try.underlying30
  have eg : ∀ args w, (callFunc 69 args).run Try.prog w = .ok (.enter 69 args) w := enters_of Try.func69 (by kernel_rfl) rfl
  have CL := fun (W : World) (hW : Below w.heap.size w W) => closed_calls 69 #[] eg mkNul a0 a1 A c l W (Kd.C_below hr hW) hc hok (predC_mkNul W)
  have HB := Aside0.mk (Below.refl w.heap.size w)
  clear hr hok eg
  go_enter Try.func46, Try.ntmps46
  go_wp2_with (first | ((with_reducible refine gate_dst (N := 1) rfl ?_); refine box_event ?hg (N := 1) ?hd (cs := #[.int .i64 a0, .int .i64 a1, .slice A l.length c]) (t := 30) ?hr ?_; (case hd => rfl); (case hg => rfl); (case hr => first | (go_simp; done) | (go_simp; rfl)); intro gb hg_ w1 hbox_ hb_; have GE_gb := Aside0.mk (show w.heap.size ≤ gb by rw [hg_]; exact below_size (by repeat (first | (with_reducible first | exact HB.out | apply below_alloc | apply pw_below_drewN | apply below_drew1) | exact HB.out))); have n0_ := Aside0.mk (below_step (by repeat (first | (with_reducible first | exact HB.out | apply below_alloc | apply pw_below_drewN | apply below_drew1) | exact HB.out)) hb_); clear HB; have HB := n0_; clear n0_; have B_gb := Aside0.mk hbox_; clear hb_ hbox_ hg_; have x_gb_0 : w1.cell? ⟨gb, 0, none⟩ = some (.int .i64 a0) := (blk_cell B_gb.out 0).trans rfl; have x_gb_1 : w1.cell? ⟨gb, 1, none⟩ = some (.int .i64 a1) := (blk_cell B_gb.out 1).trans rfl; have x_gb_2 : w1.cell? ⟨gb, 2, none⟩ = some (.slice A l.length c) := (blk_cell B_gb.out 2).trans rfl) | ((with_reducible refine gate_dst (N := 2) rfl ?_); refine box_event ?hg (N := 2) ?hd (cs := #[.bool false, .bool false, .bool false, .bool false, .bool false, .bool false]) (t := 54) ?hr ?_; (case hd => rfl); (case hg => rfl); (case hr => first | (go_simp; done) | (go_simp; rfl)); intro gr hg_ w2 hbox_ hb_; have GE_gr := Aside0.mk (show w.heap.size ≤ gr by rw [hg_]; exact below_size (by repeat (first | (with_reducible first | exact HB.out | apply below_alloc | apply pw_below_drewN | apply below_drew1) | exact HB.out))); have NE_gb_gr := Aside0.mk (show gb ≠ gr by rw [hg_]; exact Nat.ne_of_lt (blk_lt (by (with_reducible repeat (first | refine blk_drewN ?_ _ | refine blk_drew ?_ | refine blk_alloc ?_ _)); exact B_gb.out))); clear x_gb_0 x_gb_1 x_gb_2; have n0_ := Aside0.mk (below_step (by repeat (first | (with_reducible first | exact HB.out | apply below_alloc | apply pw_below_drewN | apply below_drew1) | exact HB.out)) hb_); have n_gb := Aside0.mk (blk_below (by (with_reducible repeat (first | refine blk_drewN ?_ _ | refine blk_drew ?_ | refine blk_alloc ?_ _)); exact B_gb.out) hb_); clear HB B_gb; have HB := n0_; have B_gb := n_gb; clear n0_ n_gb; have B_gr := Aside0.mk hbox_; clear hb_ hbox_ hg_; have x_gb_0 : w2.cell? ⟨gb, 0, none⟩ = some (.int .i64 a0) := (blk_cell B_gb.out 0).trans rfl; have x_gb_1 : w2.cell? ⟨gb, 1, none⟩ = some (.int .i64 a1) := (blk_cell B_gb.out 1).trans rfl; have x_gb_2 : w2.cell? ⟨gb, 2, none⟩ = some (.slice A l.length c) := (blk_cell B_gb.out 2).trans rfl) | (go_at_call 68; (with_reducible refine (CL _ HB.out).mono ?_); rintro e w3 ⟨⟨b0, b1, b2, b3, b4, b5, rfl, hF⟩, hb_⟩; clear x_gb_0 x_gb_1 x_gb_2; have n0_ := Aside0.mk (below_step (by repeat (first | (with_reducible first | exact HB.out | apply below_alloc | apply pw_below_drewN | apply below_drew1) | exact HB.out)) hb_); have n_gb := Aside0.mk (blk_below (by (with_reducible repeat (first | refine blk_drewN ?_ _ | refine blk_drew ?_ | refine blk_alloc ?_ _)); exact B_gb.out) hb_); have n_gr := Aside0.mk (blk_below (by (with_reducible repeat (first | refine blk_drewN ?_ _ | refine blk_drew ?_ | refine blk_alloc ?_ _)); exact B_gr.out) hb_); clear HB B_gb B_gr; have HB := n0_; have B_gb := n_gb; have B_gr := n_gr; clear n0_ n_gb n_gr; clear hb_; have x_gr_0 : w3.cell? ⟨gr, 0, none⟩ = some (.bool false) := (blk_cell B_gr.out 0).trans rfl; have f_gr_0 := blk_frozen B_gr.out 0; have x_gr_1 : w3.cell? ⟨gr, 1, none⟩ = some (.bool false) := (blk_cell B_gr.out 1).trans rfl; have f_gr_1 := blk_frozen B_gr.out 1; have x_gr_2 : w3.cell? ⟨gr, 2, none⟩ = some (.bool false) := (blk_cell B_gr.out 2).trans rfl; have f_gr_2 := blk_frozen B_gr.out 2; have x_gr_3 : w3.cell? ⟨gr, 3, none⟩ = some (.bool false) := (blk_cell B_gr.out 3).trans rfl; have f_gr_3 := blk_frozen B_gr.out 3; have x_gr_4 : w3.cell? ⟨gr, 4, none⟩ = some (.bool false) := (blk_cell B_gr.out 4).trans rfl; have f_gr_4 := blk_frozen B_gr.out 4; have x_gr_5 : w3.cell? ⟨gr, 5, none⟩ = some (.bool false) := (blk_cell B_gr.out 5).trans rfl; have f_gr_5 := blk_frozen B_gr.out 5; have FF := Aside0.mk hF; clear hF CL))
  obtain ⟨w9, hw_⟩ : ∃ w_ : World, w_ = ((((((w3.setCell ⟨gr, 0, none⟩ (.bool b0)).setCell ⟨gr, 1, none⟩ (.bool b1)).setCell ⟨gr, 2, none⟩ (.bool b2)).setCell ⟨gr, 3, none⟩ (.bool b3)).setCell ⟨gr, 4, none⟩ (.bool b4)).setCell ⟨gr, 5, none⟩ (.bool b5)) := ⟨_, rfl⟩
  rw [← hw_]
  clear x_gr_0 f_gr_0 x_gr_1 f_gr_1 x_gr_2 f_gr_2 x_gr_3 f_gr_3 x_gr_4 f_gr_4 x_gr_5 f_gr_5
  have m0_ := Aside0.mk (show Below w.heap.size w w9 by rw [hw_]; exact (below_set (below_set (below_set (below_set (below_set (below_set HB.out GE_gr.out) GE_gr.out) GE_gr.out) GE_gr.out) GE_gr.out) GE_gr.out))
  have m_gb := Aside0.mk (show w9.heap[gb]? = some (.cells #[.int .i64 a0, .int .i64 a1, .slice A l.length c] 30 (0, 0)) by rw [hw_]; exact (blk_far (blk_far (blk_far (blk_far (blk_far (blk_far B_gb.out NE_gb_gr.out _) NE_gb_gr.out _) NE_gb_gr.out _) NE_gb_gr.out _) NE_gb_gr.out _) NE_gb_gr.out _))
  have m_gr := Aside0.mk (show w9.heap[gr]? = some (.cells #[.bool b0, .bool b1, .bool b2, .bool b3, .bool b4, .bool b5] 54 (0, 0)) by rw [hw_]; exact (blk_put (cs := #[.bool b0, .bool b1, .bool b2, .bool b3, .bool b4, .bool false]) (blk_put (cs := #[.bool b0, .bool b1, .bool b2, .bool b3, .bool false, .bool false]) (blk_put (cs := #[.bool b0, .bool b1, .bool b2, .bool false, .bool false, .bool false]) (blk_put (cs := #[.bool b0, .bool b1, .bool false, .bool false, .bool false, .bool false]) (blk_put (cs := #[.bool b0, .bool false, .bool false, .bool false, .bool false, .bool false]) (blk_put (cs := #[.bool false, .bool false, .bool false, .bool false, .bool false, .bool false]) B_gr.out 0 _ rfl) 1 _ rfl) 2 _ rfl) 3 _ rfl) 4 _ rfl) 5 _ rfl))
  clear HB hw_ B_gb B_gr
  have HB := m0_
  have B_gb := m_gb
  have B_gr := m_gr
  clear m0_ m_gb m_gr
  have x_gr_0 : w9.cell? ⟨gr, 0, none⟩ = some (.bool b0) := (blk_cell B_gr.out 0).trans rfl
  have x_gr_1 : w9.cell? ⟨gr, 1, none⟩ = some (.bool b1) := (blk_cell B_gr.out 1).trans rfl
  have x_gr_2 : w9.cell? ⟨gr, 2, none⟩ = some (.bool b2) := (blk_cell B_gr.out 2).trans rfl
  have x_gr_3 : w9.cell? ⟨gr, 3, none⟩ = some (.bool b3) := (blk_cell B_gr.out 3).trans rfl
  have x_gr_4 : w9.cell? ⟨gr, 4, none⟩ = some (.bool b4) := (blk_cell B_gr.out 4).trans rfl
  have x_gr_5 : w9.cell? ⟨gr, 5, none⟩ = some (.bool b5) := (blk_cell B_gr.out 5).trans rfl
  refine bodyPost_ret (v := .agg #[.bool b0, .bool b1, .bool b2, .bool b3, .bool b4, .bool b5]) (by simp [results, Try.results46, go_sem, x_gr_0, x_gr_1, x_gr_2, x_gr_3, x_gr_4, x_gr_5]) rfl ⟨⟨b0, b1, b2, b3, b4, b5, rfl, FF.out⟩, HB.out⟩
set_option maxHeartbeats 2000000 in
theorem productive_calls (a0 a1 : Int) (A : Option Addr) (c : Nat) (l : List S47) (w : World) (hr : Kd.C k47 w A l.length l) (hc : l.length ≤ c) (hok : ∀ j : Nat, j < l.length → okR6 (rd_T47 l j)) :
    Calls Try.prog 47 #[.agg #[.int .i64 a0, .int .i64 a1, .slice A l.length c]] w fun e w' => (∃ b0 b1 b2 b3 b4 b5, e = .returned (.agg #[.bool b0, .bool b1, .bool b2, .bool b3, .bool b4, .bool b5]) ∧ closedF mkPro l = [b0, b1, b2, b3, b4, b5]) ∧ Below w.heap.size w w' := by
  have hu := Try.underlying30
  have eg : ∀ args w, (callFunc 72 args).run Try.prog w = .ok (.enter 72 args) w := enters_of Try.func72 (by kernel_rfl) rfl
  have CL := fun (W : World) (hW : Below w.heap.size w W) => closed_calls 72 #[] eg mkPro a0 a1 A c l W (Kd.C_below hr hW) hc hok (predC_mkPro W)
  have HB := Aside0.mk (Below.refl w.heap.size w)
  clear hr hok eg
  go_enter Try.func47, Try.ntmps47
  go_wp2_with (first | ((with_reducible refine gate_dst (N := 1) rfl ?_); refine box_event ?hg (N := 1) ?hd (cs := #[.int .i64 a0, .int .i64 a1, .slice A l.length c]) (t := 30) ?hr ?_; (case hd => rfl); (case hg => rfl); (case hr => first | (go_simp; done) | (go_simp; rfl)); intro gb hg_ w1 hbox_ hb_; have GE_gb := Aside0.mk (show w.heap.size ≤ gb by rw [hg_]; exact below_size (by repeat (first | (with_reducible first | exact HB.out | apply below_alloc | apply pw_below_drewN | apply below_drew1) | exact HB.out))); have n0_ := Aside0.mk (below_step (by repeat (first | (with_reducible first | exact HB.out | apply below_alloc | apply pw_below_drewN | apply below_drew1) | exact HB.out)) hb_); clear HB; have HB := n0_; clear n0_; have B_gb := Aside0.mk hbox_; clear hb_ hbox_ hg_; have x_gb_0 : w1.cell? ⟨gb, 0, none⟩ = some (.int .i64 a0) := (blk_cell B_gb.out 0).trans rfl; have x_gb_1 : w1.cell? ⟨gb, 1, none⟩ = some (.int .i64 a1) := (blk_cell B_gb.out 1).trans rfl; have x_gb_2 : w1.cell? ⟨gb, 2, none⟩ = some (.slice A l.length c) := (blk_cell B_gb.out 2).trans rfl) | ((with_reducible refine gate_dst (N := 2) rfl ?_); refine box_event ?hg (N := 2) ?hd (cs := #[.bool false, .bool false, .bool false, .bool false, .bool false, .bool false]) (t := 54) ?hr ?_; (case hd => rfl); (case hg => rfl); (case hr => first | (go_simp; done) | (go_simp; rfl)); intro gr hg_ w2 hbox_ hb_; have GE_gr := Aside0.mk (show w.heap.size ≤ gr by rw [hg_]; exact below_size (by repeat (first | (with_reducible first | exact HB.out | apply below_alloc | apply pw_below_drewN | apply below_drew1) | exact HB.out))); have NE_gb_gr := Aside0.mk (show gb ≠ gr by rw [hg_]; exact Nat.ne_of_lt (blk_lt (by (with_reducible repeat (first | refine blk_drewN ?_ _ | refine blk_drew ?_ | refine blk_alloc ?_ _)); exact B_gb.out))); clear x_gb_0 x_gb_1 x_gb_2; have n0_ := Aside0.mk (below_step (by repeat (first | (with_reducible first | exact HB.out | apply below_alloc | apply pw_below_drewN | apply below_drew1) | exact HB.out)) hb_); have n_gb := Aside0.mk (blk_below (by (with_reducible repeat (first | refine blk_drewN ?_ _ | refine blk_drew ?_ | refine blk_alloc ?_ _)); exact B_gb.out) hb_); clear HB B_gb; have HB := n0_; have B_gb := n_gb; clear n0_ n_gb; have B_gr := Aside0.mk hbox_; clear hb_ hbox_ hg_; have x_gb_0 : w2.cell? ⟨gb, 0, none⟩ = some (.int .i64 a0) := (blk_cell B_gb.out 0).trans rfl; have x_gb_1 : w2.cell? ⟨gb, 1, none⟩ = some (.int .i64 a1) := (blk_cell B_gb.out 1).trans rfl; have x_gb_2 : w2.cell? ⟨gb, 2, none⟩ = some (.slice A l.length c) := (blk_cell B_gb.out 2).trans rfl) | (go_at_call 68; (with_reducible refine (CL _ HB.out).mono ?_); rintro e w3 ⟨⟨b0, b1, b2, b3, b4, b5, rfl, hF⟩, hb_⟩; clear x_gb_0 x_gb_1 x_gb_2; have n0_ := Aside0.mk (below_step (by repeat (first | (with_reducible first | exact HB.out | apply below_alloc | apply pw_below_drewN | apply below_drew1) | exact HB.out)) hb_); have n_gb := Aside0.mk (blk_below (by (with_reducible repeat (first | refine blk_drewN ?_ _ | refine blk_drew ?_ | refine blk_alloc ?_ _)); exact B_gb.out) hb_); have n_gr := Aside0.mk (blk_below (by (with_reducible repeat (first | refine blk_drewN ?_ _ | refine blk_drew ?_ | refine blk_alloc ?_ _)); exact B_gr.out) hb_); clear HB B_gb B_gr; have HB := n0_; have B_gb := n_gb; have B_gr := n_gr; clear n0_ n_gb n_gr; clear hb_; have x_gr_0 : w3.cell? ⟨gr, 0, none⟩ = some (.bool false) := (blk_cell B_gr.out 0).trans rfl; have f_gr_0 := blk_frozen B_gr.out 0; have x_gr_1 : w3.cell? ⟨gr, 1, none⟩ = some (.bool false) := (blk_cell B_gr.out 1).trans rfl; have f_gr_1 := blk_frozen B_gr.out 1; have x_gr_2 : w3.cell? ⟨gr, 2, none⟩ = some (.bool false) := (blk_cell B_gr.out 2).trans rfl; have f_gr_2 := blk_frozen B_gr.out 2; have x_gr_3 : w3.cell? ⟨gr, 3, none⟩ = some (.bool false) := (blk_cell B_gr.out 3).trans rfl; have f_gr_3 := blk_frozen B_gr.out 3; have x_gr_4 : w3.cell? ⟨gr, 4, none⟩ = some (.bool false) := (blk_cell B_gr.out 4).trans rfl; have f_gr_4 := blk_frozen B_gr.out 4; have x_gr_5 : w3.cell? ⟨gr, 5, none⟩ = some (.bool false) := (blk_cell B_gr.out 5).trans rfl; have f_gr_5 := blk_frozen B_gr.out 5; have FF := Aside0.mk hF; clear hF CL))
  obtain ⟨w9, hw_⟩ : ∃ w_ : World, w_ = ((((((w3.setCell ⟨gr, 0, none⟩ (.bool b0)).setCell ⟨gr, 1, none⟩ (.bool b1)).setCell ⟨gr, 2, none⟩ (.bool b2)).setCell ⟨gr, 3, none⟩ (.bool b3)).setCell ⟨gr, 4, none⟩ (.bool b4)).setCell ⟨gr, 5, none⟩ (.bool b5)) := ⟨_, rfl⟩
  rw [← hw_]
  clear x_gr_0 f_gr_0 x_gr_1 f_gr_1 x_gr_2 f_gr_2 x_gr_3 f_gr_3 x_gr_4 f_gr_4 x_gr_5 f_gr_5
  have m0_ := Aside0.mk (show Below w.heap.size w w9 by rw [hw_]; exact (below_set (below_set (below_set (below_set (below_set (below_set HB.out GE_gr.out) GE_gr.out) GE_gr.out) GE_gr.out) GE_gr.out) GE_gr.out))
  have m_gb := Aside0.mk (show w9.heap[gb]? = some (.cells #[.int .i64 a0, .int .i64 a1, .slice A l.length c] 30 (0, 0)) by rw [hw_]; exact (blk_far (blk_far (blk_far (blk_far (blk_far (blk_far B_gb.out NE_gb_gr.out _) NE_gb_gr.out _) NE_gb_gr.out _) NE_gb_gr.out _) NE_gb_gr.out _) NE_gb_gr.out _))
  have m_gr := Aside0.mk (show w9.heap[gr]? = some (.cells #[.bool b0, .bool b1, .bool b2, .bool b3, .bool b4, .bool b5] 54 (0, 0)) by rw [hw_]; exact (blk_put (cs := #[.bool b0, .bool b1, .bool b2, .bool b3, .bool b4, .bool false]) (blk_put (cs := #[.bool b0, .bool b1, .bool b2, .bool b3, .bool false, .bool false]) (blk_put (cs := #[.bool b0, .bool b1, .bool b2, .bool false, .bool false, .bool false]) (blk_put (cs := #[.bool b0, .bool b1, .bool false, .bool false, .bool false, .bool false]) (blk_put (cs := #[.bool b0, .bool false, .bool false, .bool false, .bool false, .bool false]) (blk_put (cs := #[.bool false, .bool false, .bool false, .bool false, .bool false, .bool false]) B_gr.out 0 _ rfl) 1 _ rfl) 2 _ rfl) 3 _ rfl) 4 _ rfl) 5 _ rfl))
  clear HB hw_ B_gb B_gr
  have HB := m0_
  have B_gb := m_gb
  have B_gr := m_gr
  clear m0_ m_gb m_gr
  have x_gr_0 : w9.cell? ⟨gr, 0, none⟩ = some (.bool b0) := (blk_cell B_gr.out 0).trans rfl
  have x_gr_1 : w9.cell? ⟨gr, 1, none⟩ = some (.bool b1) := (blk_cell B_gr.out 1).trans rfl
  have x_gr_2 : w9.cell? ⟨gr, 2, none⟩ = some (.bool b2) := (blk_cell B_gr.out 2).trans rfl
  have x_gr_3 : w9.cell? ⟨gr, 3, none⟩ = some (.bool b3) := (blk_cell B_gr.out 3).trans rfl
  have x_gr_4 : w9.cell? ⟨gr, 4, none⟩ = some (.bool b4) := (blk_cell B_gr.out 4).trans rfl
  have x_gr_5 : w9.cell? ⟨gr, 5, none⟩ = some (.bool b5) := (blk_cell B_gr.out 5).trans rfl
  refine bodyPost_ret (v := .agg #[.bool b0, .bool b1, .bool b2, .bool b3, .bool b4, .bool b5]) (by simp [results, Try.results47, go_sem, x_gr_0, x_gr_1, x_gr_2, x_gr_3, x_gr_4, x_gr_5]) rfl ⟨⟨b0, b1, b2, b3, b4, b5, rfl, FF.out⟩, HB.out⟩
set_option maxHeartbeats 2000000 in
theorem growing_calls (a0 a1 : Int) (A : Option Addr) (c : Nat) (l : List S47) (w : World) (hr : Kd.C k47 w A l.length l) (hc : l.length ≤ c) (hok : ∀ j : Nat, j < l.length → okR6 (rd_T47 l j)) :
    Calls Try.prog 49 #[.agg #[.int .i64 a0, .int .i64 a1, .slice A l.length c]] w fun e w' => (∃ b0 b1 b2 b3 b4 b5, e = .returned (.agg #[.bool b0, .bool b1, .bool b2, .bool b3, .bool b4, .bool b5]) ∧ closedF (mkGro (closedF mkPro l)) l = [b0, b1, b2, b3, b4, b5]) ∧ Below w.heap.size w w' := by
  have hu := Try.underlying30
  have eg : ∀ args w, (callFunc 74 args).run Try.prog w = .ok (.enter 74 args) w := enters_of Try.func74 (by kernel_rfl) rfl
  have CP := fun (W : World) (hW : Below w.heap.size w W) => productive_calls a0 a1 A c l W (Kd.C_below hr hW) hc hok
  have CL := Aside0.mk fun (p0 p1 p2 p3 p4 p5 : Bool) (gp : Nat) (W : World) (hW : Below w.heap.size w W) (hP : W.heap[gp]? = some (.cells #[.bool p0, .bool p1, .bool p2, .bool p3, .bool p4, .bool p5] 54 (0, 0))) => closed_calls 74 #[.pointer (some ⟨gp, 0, none⟩)] eg (mkGro [p0, p1, p2, p3, p4, p5]) a0 a1 A c l W (Kd.C_below hr hW) hc hok (predC_mkGro p0 p1 p2 p3 p4 p5 gp W hP)
  have HB := Aside0.mk (Below.refl w.heap.size w)
  clear hr hok eg
  go_enter Try.func49, Try.ntmps49
  go_upto_region 2 with (first | ((with_reducible refine gate_dst (N := 1) rfl ?_); refine box_event ?hg (N := 1) ?hd (cs := #[.int .i64 a0, .int .i64 a1, .slice A l.length c]) (t := 30) ?hr ?_; (case hd => rfl); (case hg => rfl); (case hr => first | (go_simp; done) | (go_simp; rfl)); intro gb hg_ w1 hbox_ hb_; have GE_gb := Aside0.mk (show w.heap.size ≤ gb by rw [hg_]; exact below_size (by repeat (first | (with_reducible first | exact HB.out | apply below_alloc | apply pw_below_drewN | apply below_drew1) | exact HB.out))); have n0_ := Aside0.mk (below_step (by repeat (first | (with_reducible first | exact HB.out | apply below_alloc | apply pw_below_drewN | apply below_drew1) | exact HB.out)) hb_); clear HB; have HB := n0_; clear n0_; have B_gb := Aside0.mk hbox_; clear hb_ hbox_ hg_; have x_gb_0 : w1.cell? ⟨gb, 0, none⟩ = some (.int .i64 a0) := (blk_cell B_gb.out 0).trans rfl; have x_gb_1 : w1.cell? ⟨gb, 1, none⟩ = some (.int .i64 a1) := (blk_cell B_gb.out 1).trans rfl; have x_gb_2 : w1.cell? ⟨gb, 2, none⟩ = some (.slice A l.length c) := (blk_cell B_gb.out 2).trans rfl) | ((with_reducible refine gate_dst (N := 2) rfl ?_); refine box_event ?hg (N := 2) ?hd (cs := #[.bool false, .bool false, .bool false, .bool false, .bool false, .bool false]) (t := 54) ?hr ?_; (case hd => rfl); (case hg => rfl); (case hr => first | (go_simp; done) | (go_simp; rfl)); intro gr hg_ w2 hbox_ hb_; have GE_gr := Aside0.mk (show w.heap.size ≤ gr by rw [hg_]; exact below_size (by repeat (first | (with_reducible first | exact HB.out | apply below_alloc | apply pw_below_drewN | apply below_drew1) | exact HB.out))); have NE_gb_gr := Aside0.mk (show gb ≠ gr by rw [hg_]; exact Nat.ne_of_lt (blk_lt (by (with_reducible repeat (first | refine blk_drewN ?_ _ | refine blk_drew ?_ | refine blk_alloc ?_ _)); exact B_gb.out))); clear x_gb_0 x_gb_1 x_gb_2; have n0_ := Aside0.mk (below_step (by repeat (first | (with_reducible first | exact HB.out | apply below_alloc | apply pw_below_drewN | apply below_drew1) | exact HB.out)) hb_); have n_gb := Aside0.mk (blk_below (by (with_reducible repeat (first | refine blk_drewN ?_ _ | refine blk_drew ?_ | refine blk_alloc ?_ _)); exact B_gb.out) hb_); clear HB B_gb; have HB := n0_; have B_gb := n_gb; clear n0_ n_gb; have B_gr := Aside0.mk hbox_; clear hb_ hbox_ hg_; have x_gb_0 : w2.cell? ⟨gb, 0, none⟩ = some (.int .i64 a0) := (blk_cell B_gb.out 0).trans rfl; have x_gb_1 : w2.cell? ⟨gb, 1, none⟩ = some (.int .i64 a1) := (blk_cell B_gb.out 1).trans rfl; have x_gb_2 : w2.cell? ⟨gb, 2, none⟩ = some (.slice A l.length c) := (blk_cell B_gb.out 2).trans rfl) | (go_at_call 47; (with_reducible refine (CP _ HB.out).mono ?_); rintro e w3 ⟨⟨p0, p1, p2, p3, p4, p5, rfl, hP⟩, hb_⟩; clear x_gb_0 x_gb_1 x_gb_2; have n0_ := Aside0.mk (below_step (by repeat (first | (with_reducible first | exact HB.out | apply below_alloc | apply pw_below_drewN | apply below_drew1) | exact HB.out)) hb_); have n_gb := Aside0.mk (blk_below (by (with_reducible repeat (first | refine blk_drewN ?_ _ | refine blk_drew ?_ | refine blk_alloc ?_ _)); exact B_gb.out) hb_); have n_gr := Aside0.mk (blk_below (by (with_reducible repeat (first | refine blk_drewN ?_ _ | refine blk_drew ?_ | refine blk_alloc ?_ _)); exact B_gr.out) hb_); clear HB B_gb B_gr; have HB := n0_; have B_gb := n_gb; have B_gr := n_gr; clear n0_ n_gb n_gr; clear hb_; have x_gb_0 : w3.cell? ⟨gb, 0, none⟩ = some (.int .i64 a0) := (blk_cell B_gb.out 0).trans rfl; have x_gb_1 : w3.cell? ⟨gb, 1, none⟩ = some (.int .i64 a1) := (blk_cell B_gb.out 1).trans rfl; have x_gb_2 : w3.cell? ⟨gb, 2, none⟩ = some (.slice A l.length c) := (blk_cell B_gb.out 2).trans rfl; have PP := Aside0.mk hP; clear hP CP) | ((with_reducible refine gate_dst (N := 3) rfl ?_); refine box_event ?hg (N := 3) ?hd (cs := #[.bool false, .bool false, .bool false, .bool false, .bool false, .bool false]) (t := 54) ?hr ?_; (case hd => rfl); (case hg => rfl); (case hr => first | (go_simp; done) | (go_simp; rfl)); intro gp hg_ w4 hbox_ hb_; have GE_gp := Aside0.mk (show w.heap.size ≤ gp by rw [hg_]; exact below_size (by repeat (first | (with_reducible first | exact HB.out | apply below_alloc | apply pw_below_drewN | apply below_drew1) | exact HB.out))); have NE_gb_gp := Aside0.mk (show gb ≠ gp by rw [hg_]; exact Nat.ne_of_lt (blk_lt (by (with_reducible repeat (first | refine blk_drewN ?_ _ | refine blk_drew ?_ | refine blk_alloc ?_ _)); exact B_gb.out))); have NE_gr_gp := Aside0.mk (show gr ≠ gp by rw [hg_]; exact Nat.ne_of_lt (blk_lt (by (with_reducible repeat (first | refine blk_drewN ?_ _ | refine blk_drew ?_ | refine blk_alloc ?_ _)); exact B_gr.out))); clear x_gb_0 x_gb_1 x_gb_2; have n0_ := Aside0.mk (below_step (by repeat (first | (with_reducible first | exact HB.out | apply below_alloc | apply pw_below_drewN | apply below_drew1) | exact HB.out)) hb_); have n_gb := Aside0.mk (blk_below (by (with_reducible repeat (first | refine blk_drewN ?_ _ | refine blk_drew ?_ | refine blk_alloc ?_ _)); exact B_gb.out) hb_); have n_gr := Aside0.mk (blk_below (by (with_reducible repeat (first | refine blk_drewN ?_ _ | refine blk_drew ?_ | refine blk_alloc ?_ _)); exact B_gr.out) hb_); clear HB B_gb B_gr; have HB := n0_; have B_gb := n_gb; have B_gr := n_gr; clear n0_ n_gb n_gr; have B_gp := Aside0.mk hbox_; clear hb_ hbox_ hg_; have x_gb_0 : w4.cell? ⟨gb, 0, none⟩ = some (.int .i64 a0) := (blk_cell B_gb.out 0).trans rfl; have x_gb_1 : w4.cell? ⟨gb, 1, none⟩ = some (.int .i64 a1) := (blk_cell B_gb.out 1).trans rfl; have x_gb_2 : w4.cell? ⟨gb, 2, none⟩ = some (.slice A l.length c) := (blk_cell B_gb.out 2).trans rfl; have x_gp_0 : w4.cell? ⟨gp, 0, none⟩ = some (.bool false) := (blk_cell B_gp.out 0).trans rfl; have f_gp_0 := blk_frozen B_gp.out 0; have x_gp_1 : w4.cell? ⟨gp, 1, none⟩ = some (.bool false) := (blk_cell B_gp.out 1).trans rfl; have f_gp_1 := blk_frozen B_gp.out 1; have x_gp_2 : w4.cell? ⟨gp, 2, none⟩ = some (.bool false) := (blk_cell B_gp.out 2).trans rfl; have f_gp_2 := blk_frozen B_gp.out 2; have x_gp_3 : w4.cell? ⟨gp, 3, none⟩ = some (.bool false) := (blk_cell B_gp.out 3).trans rfl; have f_gp_3 := blk_frozen B_gp.out 3; have x_gp_4 : w4.cell? ⟨gp, 4, none⟩ = some (.bool false) := (blk_cell B_gp.out 4).trans rfl; have f_gp_4 := blk_frozen B_gp.out 4; have x_gp_5 : w4.cell? ⟨gp, 5, none⟩ = some (.bool false) := (blk_cell B_gp.out 5).trans rfl; have f_gp_5 := blk_frozen B_gp.out 5))
  obtain ⟨w5, hw_⟩ : ∃ w_ : World, w_ = ((((((w4.setCell ⟨gp, 0, none⟩ (.bool p0)).setCell ⟨gp, 1, none⟩ (.bool p1)).setCell ⟨gp, 2, none⟩ (.bool p2)).setCell ⟨gp, 3, none⟩ (.bool p3)).setCell ⟨gp, 4, none⟩ (.bool p4)).setCell ⟨gp, 5, none⟩ (.bool p5)) := ⟨_, rfl⟩
  rw [← hw_]
  clear x_gb_0 x_gb_1 x_gb_2 x_gp_0 f_gp_0 x_gp_1 f_gp_1 x_gp_2 f_gp_2 x_gp_3 f_gp_3 x_gp_4 f_gp_4 x_gp_5 f_gp_5
  have m0_ := Aside0.mk (show Below w.heap.size w w5 by rw [hw_]; exact (below_set (below_set (below_set (below_set (below_set (below_set HB.out GE_gp.out) GE_gp.out) GE_gp.out) GE_gp.out) GE_gp.out) GE_gp.out))
  have m_gb := Aside0.mk (show w5.heap[gb]? = some (.cells #[.int .i64 a0, .int .i64 a1, .slice A l.length c] 30 (0, 0)) by rw [hw_]; exact (blk_far (blk_far (blk_far (blk_far (blk_far (blk_far B_gb.out NE_gb_gp.out _) NE_gb_gp.out _) NE_gb_gp.out _) NE_gb_gp.out _) NE_gb_gp.out _) NE_gb_gp.out _))
  have m_gr := Aside0.mk (show w5.heap[gr]? = some (.cells #[.bool false, .bool false, .bool false, .bool false, .bool false, .bool false] 54 (0, 0)) by rw [hw_]; exact (blk_far (blk_far (blk_far (blk_far (blk_far (blk_far B_gr.out NE_gr_gp.out _) NE_gr_gp.out _) NE_gr_gp.out _) NE_gr_gp.out _) NE_gr_gp.out _) NE_gr_gp.out _))
  have m_gp := Aside0.mk (show w5.heap[gp]? = some (.cells #[.bool p0, .bool p1, .bool p2, .bool p3, .bool p4, .bool p5] 54 (0, 0)) by rw [hw_]; exact (blk_put (cs := #[.bool p0, .bool p1, .bool p2, .bool p3, .bool p4, .bool false]) (blk_put (cs := #[.bool p0, .bool p1, .bool p2, .bool p3, .bool false, .bool false]) (blk_put (cs := #[.bool p0, .bool p1, .bool p2, .bool false, .bool false, .bool false]) (blk_put (cs := #[.bool p0, .bool p1, .bool false, .bool false, .bool false, .bool false]) (blk_put (cs := #[.bool p0, .bool false, .bool false, .bool false, .bool false, .bool false]) (blk_put (cs := #[.bool false, .bool false, .bool false, .bool false, .bool false, .bool false]) B_gp.out 0 _ rfl) 1 _ rfl) 2 _ rfl) 3 _ rfl) 4 _ rfl) 5 _ rfl))
  clear HB hw_ B_gb B_gr B_gp
  have HB := m0_
  have B_gb := m_gb
  have B_gr := m_gr
  have B_gp := m_gp
  clear m0_ m_gb m_gr m_gp
  have x_gb_0 : w5.cell? ⟨gb, 0, none⟩ = some (.int .i64 a0) := (blk_cell B_gb.out 0).trans rfl
  have x_gb_1 : w5.cell? ⟨gb, 1, none⟩ = some (.int .i64 a1) := (blk_cell B_gb.out 1).trans rfl
  have x_gb_2 : w5.cell? ⟨gb, 2, none⟩ = some (.slice A l.length c) := (blk_cell B_gb.out 2).trans rfl
  have CG := CL.out p0 p1 p2 p3 p4 p5 gp w5 HB.out B_gp.out
  clear CL
  go_wp2_with fail
  refine CG.mono ?_
  rintro e w6 ⟨⟨b0, b1, b2, b3, b4, b5, rfl, hF⟩, hb_⟩
  have FF := Aside0.mk hF
  clear hF CG
  clear x_gb_0 x_gb_1 x_gb_2
  have n0_ := Aside0.mk (below_step (by repeat (first | (with_reducible first | exact HB.out | apply below_alloc | apply pw_below_drewN | apply below_drew1) | exact HB.out)) hb_)
  have n_gb := Aside0.mk (blk_below (by (with_reducible repeat (first | refine blk_drewN ?_ _ | refine blk_drew ?_ | refine blk_alloc ?_ _)); exact B_gb.out) hb_)
  have n_gr := Aside0.mk (blk_below (by (with_reducible repeat (first | refine blk_drewN ?_ _ | refine blk_drew ?_ | refine blk_alloc ?_ _)); exact B_gr.out) hb_)
  have n_gp := Aside0.mk (blk_below (by (with_reducible repeat (first | refine blk_drewN ?_ _ | refine blk_drew ?_ | refine blk_alloc ?_ _)); exact B_gp.out) hb_)
  clear HB B_gb B_gr B_gp
  have HB := n0_
  have B_gb := n_gb
  have B_gr := n_gr
  have B_gp := n_gp
  clear n0_ n_gb n_gr n_gp
  clear hb_
  have x_gr_0 : w6.cell? ⟨gr, 0, none⟩ = some (.bool false) := (blk_cell B_gr.out 0).trans rfl
  have f_gr_0 := blk_frozen B_gr.out 0
  have x_gr_1 : w6.cell? ⟨gr, 1, none⟩ = some (.bool false) := (blk_cell B_gr.out 1).trans rfl
  have f_gr_1 := blk_frozen B_gr.out 1
  have x_gr_2 : w6.cell? ⟨gr, 2, none⟩ = some (.bool false) := (blk_cell B_gr.out 2).trans rfl
  have f_gr_2 := blk_frozen B_gr.out 2
  have x_gr_3 : w6.cell? ⟨gr, 3, none⟩ = some (.bool false) := (blk_cell B_gr.out 3).trans rfl
  have f_gr_3 := blk_frozen B_gr.out 3
  have x_gr_4 : w6.cell? ⟨gr, 4, none⟩ = some (.bool false) := (blk_cell B_gr.out 4).trans rfl
  have f_gr_4 := blk_frozen B_gr.out 4
  have x_gr_5 : w6.cell? ⟨gr, 5, none⟩ = some (.bool false) := (blk_cell B_gr.out 5).trans rfl
  have f_gr_5 := blk_frozen B_gr.out 5
  go_wp2
  obtain ⟨w9, hw_⟩ : ∃ w_ : World, w_ = ((((((w6.setCell ⟨gr, 0, none⟩ (.bool b0)).setCell ⟨gr, 1, none⟩ (.bool b1)).setCell ⟨gr, 2, none⟩ (.bool b2)).setCell ⟨gr, 3, none⟩ (.bool b3)).setCell ⟨gr, 4, none⟩ (.bool b4)).setCell ⟨gr, 5, none⟩ (.bool b5)) := ⟨_, rfl⟩
  rw [← hw_]
  clear x_gr_0 f_gr_0 x_gr_1 f_gr_1 x_gr_2 f_gr_2 x_gr_3 f_gr_3 x_gr_4 f_gr_4 x_gr_5 f_gr_5
  have m0_ := Aside0.mk (show Below w.heap.size w w9 by rw [hw_]; exact (below_set (below_set (below_set (below_set (below_set (below_set HB.out GE_gr.out) GE_gr.out) GE_gr.out) GE_gr.out) GE_gr.out) GE_gr.out))
  have m_gb := Aside0.mk (show w9.heap[gb]? = some (.cells #[.int .i64 a0, .int .i64 a1, .slice A l.length c] 30 (0, 0)) by rw [hw_]; exact (blk_far (blk_far (blk_far (blk_far (blk_far (blk_far B_gb.out NE_gb_gr.out _) NE_gb_gr.out _) NE_gb_gr.out _) NE_gb_gr.out _) NE_gb_gr.out _) NE_gb_gr.out _))
  have m_gr := Aside0.mk (show w9.heap[gr]? = some (.cells #[.bool b0, .bool b1, .bool b2, .bool b3, .bool b4, .bool b5] 54 (0, 0)) by rw [hw_]; exact (blk_put (cs := #[.bool b0, .bool b1, .bool b2, .bool b3, .bool b4, .bool false]) (blk_put (cs := #[.bool b0, .bool b1, .bool b2, .bool b3, .bool false, .bool false]) (blk_put (cs := #[.bool b0, .bool b1, .bool b2, .bool false, .bool false, .bool false]) (blk_put (cs := #[.bool b0, .bool b1, .bool false, .bool false, .bool false, .bool false]) (blk_put (cs := #[.bool b0, .bool false, .bool false, .bool false, .bool false, .bool false]) (blk_put (cs := #[.bool false, .bool false, .bool false, .bool false, .bool false, .bool false]) B_gr.out 0 _ rfl) 1 _ rfl) 2 _ rfl) 3 _ rfl) 4 _ rfl) 5 _ rfl))
  have m_gp := Aside0.mk (show w9.heap[gp]? = some (.cells #[.bool p0, .bool p1, .bool p2, .bool p3, .bool p4, .bool p5] 54 (0, 0)) by rw [hw_]; exact (blk_far (blk_far (blk_far (blk_far (blk_far (blk_far B_gp.out (Ne.symm NE_gr_gp.out) _) (Ne.symm NE_gr_gp.out) _) (Ne.symm NE_gr_gp.out) _) (Ne.symm NE_gr_gp.out) _) (Ne.symm NE_gr_gp.out) _) (Ne.symm NE_gr_gp.out) _))
  clear HB hw_ B_gb B_gr B_gp
  have HB := m0_
  have B_gb := m_gb
  have B_gr := m_gr
  have B_gp := m_gp
  clear m0_ m_gb m_gr m_gp
  have x_gr_0 : w9.cell? ⟨gr, 0, none⟩ = some (.bool b0) := (blk_cell B_gr.out 0).trans rfl
  have x_gr_1 : w9.cell? ⟨gr, 1, none⟩ = some (.bool b1) := (blk_cell B_gr.out 1).trans rfl
  have x_gr_2 : w9.cell? ⟨gr, 2, none⟩ = some (.bool b2) := (blk_cell B_gr.out 2).trans rfl
  have x_gr_3 : w9.cell? ⟨gr, 3, none⟩ = some (.bool b3) := (blk_cell B_gr.out 3).trans rfl
  have x_gr_4 : w9.cell? ⟨gr, 4, none⟩ = some (.bool b4) := (blk_cell B_gr.out 4).trans rfl
  have x_gr_5 : w9.cell? ⟨gr, 5, none⟩ = some (.bool b5) := (blk_cell B_gr.out 5).trans rfl
  refine bodyPost_ret (v := .agg #[.bool b0, .bool b1, .bool b2, .bool b3, .bool b4, .bool b5]) (by simp [results, Try.results49, go_sem, x_gr_0, x_gr_1, x_gr_2, x_gr_3, x_gr_4, x_gr_5]) rfl ⟨⟨b0, b1, b2, b3, b4, b5, rfl, by rw [PP.out]; exact FF.out⟩, HB.out⟩
/-- The places of those that are so. -/
def placesF : Nat → List Bool → List Int
  | _, [] => []
  | i, b :: s => if b = true then (i : Int) :: placesF (i + 1) s else placesF (i + 1) s
theorem placesF_step (s : List Bool) (i : Nat) (hi : i < s.length) : placesF i (s.drop i) = (if s.getD i false = true then [(i : Int)] else []) ++ placesF (i + 1) (s.drop (i + 1)) := by
  rw [getD_drop s i false hi]
  show (if s.getD i false = true then (i : Int) :: placesF (i + 1) (s.drop (i + 1)) else placesF (i + 1) (s.drop (i + 1))) = _
  split <;> rfl
theorem placesF_len : ∀ (s : List Bool) (i : Nat), (placesF i s).length ≤ s.length := by
  intro s
  induction s with
  | nil => intro i; exact Nat.le_refl _
  | cons b s ih =>
    intro i
    have := ih (i + 1)
    simp only [placesF]
    split <;> simp only [List.length_cons] <;> omega
theorem index6 (b0 b1 b2 b3 b4 b5 : Bool) (k : Nat) (h : k < 6) : ∀ w, (Instr.index 54 (.agg #[.bool b0, .bool b1, .bool b2, .bool b3, .bool b4, .bool b5]) (.int .i64 k)).run Try.prog w = .ok (.bool ([b0, b1, b2, b3, b4, b5].getD k false)) w := by
  match k, h with
  | 0, _ => exact fun _ => by kernel_rfl
  | 1, _ => exact fun _ => by kernel_rfl
  | 2, _ => exact fun _ => by kernel_rfl
  | 3, _ => exact fun _ => by kernel_rfl
  | 4, _ => exact fun _ => by kernel_rfl
  | 5, _ => exact fun _ => by kernel_rfl
set_option maxHeartbeats 2000000 in
theorem listOf_calls (b0 b1 b2 b3 b4 b5 : Bool) (w : World) :
    Calls Try.prog 42 #[.agg #[.bool b0, .bool b1, .bool b2, .bool b3, .bool b4, .bool b5]] w fun e w' => ∃ v0_ : Value, e = .returned v0_ ∧ Kd.R (Kd.int .i64) 3 w' w.heap.size (fun _ => True) v0_ (placesF 0 [b0, b1, b2, b3, b4, b5]) ∧ Below w.heap.size w w' := by
  have HB := Aside0.mk (Below.refl w.heap.size w)
  go_enter Try.func42, Try.ntmps42
  go_wp2_with (first | ((with_reducible refine gate_dst (N := 1) rfl ?_); refine box_event ?hg (N := 1) ?hd (cs := #[.bool b0, .bool b1, .bool b2, .bool b3, .bool b4, .bool b5]) (t := 54) ?hr ?_; (case hd => rfl); (case hg => rfl); (case hr => first | (go_simp; done) | (go_simp; rfl)); intro gs hg_ w1 hbox_ hb_; have GE_gs := Aside0.mk (show w.heap.size ≤ gs by rw [hg_]; exact below_size (by repeat (first | (with_reducible first | exact HB.out | apply below_alloc | apply pw_below_drewN | apply below_drew1) | exact HB.out))); have n0_ := Aside0.mk (below_step (by repeat (first | (with_reducible first | exact HB.out | apply below_alloc | apply pw_below_drewN | apply below_drew1) | exact HB.out)) hb_); clear HB; have HB := n0_; clear n0_; have B_gs := Aside0.mk hbox_; clear hb_ hbox_ hg_) | ((with_reducible refine gate_dst (N := 6) rfl ?_); refine Kd.R_lit (Kd.int .i64) _ 3 ?hg (N := 6) ?hd (xs := ([] : List Int)) (inner := []) (ok := fun _ => True) (okp := fun _ => True) ?hr ?hp (fun _ hk => hk) trivial (Below.refl _ _) (Nat.le_refl _) (by simp) ?_; (case hd => rfl); (case hg => rfl); (case hr => first | (go_simp; done) | (go_simp; rfl)); (case hp => exact (Reps.none _ _)); intro v2 w2 ho3 hb hg_ hnew_; clear hg_ hnew_; have n0_ := Aside0.mk (Kd.R_lower ho3 (below_size (by repeat (first | (with_reducible first | exact HB.out | apply below_alloc | apply pw_below_drewN | apply below_drew1) | exact HB.out)))); have n1_ := Aside0.mk (below_step (by repeat (first | (with_reducible first | exact HB.out | apply below_alloc | apply pw_below_drewN | apply below_drew1) | exact HB.out)) hb); have n2_ := Aside0.mk (blk_below (by (with_reducible repeat (first | refine blk_drewN ?_ _ | refine blk_drew ?_ | refine blk_alloc ?_ _)); exact B_gs.out) hb); clear HB B_gs; have HO := n0_; have HB := n1_; have B_gs := n2_; clear n0_ n1_ n2_ hb ho3; have x_gs_0 : w2.cell? ⟨gs, 0, none⟩ = some (.bool b0) := (blk_cell B_gs.out 0).trans rfl; have x_gs_1 : w2.cell? ⟨gs, 1, none⟩ = some (.bool b1) := (blk_cell B_gs.out 1).trans rfl; have x_gs_2 : w2.cell? ⟨gs, 2, none⟩ = some (.bool b2) := (blk_cell B_gs.out 2).trans rfl; have x_gs_3 : w2.cell? ⟨gs, 3, none⟩ = some (.bool b3) := (blk_cell B_gs.out 3).trans rfl; have x_gs_4 : w2.cell? ⟨gs, 4, none⟩ = some (.bool b4) := (blk_cell B_gs.out 4).trans rfl; have x_gs_5 : w2.cell? ⟨gs, 5, none⟩ = some (.bool b5) := (blk_cell B_gs.out 5).trans rfl))
  clear x_gs_0 x_gs_1 x_gs_2 x_gs_3 x_gs_4 x_gs_5
  go_loopg [3, 8] 6 (fun gg s3 s8 wr => ∃ (kk : Nat) (xs : List Int), kk ≤ 6 ∧ 6 - kk ≤ gg ∧ s8 = .int .i64 kk ∧ Aside0 (placesF 0 [b0, b1, b2, b3, b4, b5] = xs ++ placesF kk ([b0, b1, b2, b3, b4, b5].drop kk)) ∧ Aside0 (xs.length ≤ kk) ∧ Aside0 (Kd.R (Kd.int .i64) 3 wr w.heap.size (fun _ => True) s3 xs) ∧ Aside0 (Below w.heap.size w wr))
  case atStart => exact ⟨0, [], Nat.zero_le _, by omega, rfl, ⟨rfl⟩, ⟨Nat.le_refl _⟩, HO, HB⟩
  case round =>
    clear HO HB B_gs
    obtain ⟨kk, xs, hkk, hg, rfl, PQ, XL, HO, HB⟩ := hrel
    by_cases hlt : kk < 6
    · have hd : decide (kk < 6) = true := decide_eq_true hlt
      have hix := index6 b0 b1 b2 b3 b4 b5 kk hlt
      have PS := Aside0.mk (placesF_step [b0, b1, b2, b3, b4, b5] kk hlt)
      generalize hv : [b0, b1, b2, b3, b4, b5].getD kk false = v at hix PS
      cases v with
      | true =>
        have PN := Aside0.mk (show placesF 0 [b0, b1, b2, b3, b4, b5] = (xs ++ [(kk : Int)]) ++ placesF (kk + 1) ([b0, b1, b2, b3, b4, b5].drop (kk + 1)) by rw [PQ.out, PS.out, if_pos rfl, List.append_assoc])
        clear hv
        go_wp2_with (first | ((with_reducible refine gate_builtin (b := .append) (xs := #[.tmp 13, .tmp 15]) rfl ?_); at_builtin; refine Kd.R_append (Kd.int .i64) (w0 := w) w.heap.size rfl (.tmp 13) (.tmp 15) 34 3 (.int .i64 0) 8 rfl Try.underlying34 info3 rfl (by decide) (by omega) u3 xs kk [.int .i64 kk] (fun _ => True) (fun _ => False) rfl rfl ?aP (fun _ hk => hk.elim) ?aF ?aO ?aB ?aS ?aL ?_; (case aP => exact rfl); (case aB => exact (by repeat (first | (with_reducible first | exact HB.out | apply below_alloc | apply pw_below_drewN | apply below_drew1) | exact HB.out))); (case aF => exact (fun _ _ => trivial)); (case aO => exact (by (with_reducible repeat (first | apply Kd.R_alloc | apply Kd.R_drewN | apply Kd.R_drew)); exact HO.out)); (case aS => exact (below_size (by repeat (first | (with_reducible first | exact HB.out | apply below_alloc | apply pw_below_drewN | apply below_drew1) | exact HB.out)))); (case aL => have := XL.out; omega); intro v10 w10 ho hb hg hat; have n0_ := Aside0.mk hb; have n1_ := Aside0.mk ho; clear HB HO; have HB := n0_; have HO := n1_; clear n0_ n1_ ho hb hg hat))
        go_roundg (6 - (kk + 1))
        case measure => omega
        case rel => exact ⟨kk + 1, xs ++ [(kk : Int)], by omega, by omega, by go_num, PN, ⟨by rw [List.length_append]; have := XL.out; simp; omega⟩, HO, HB⟩
      | false =>
        have PN := Aside0.mk (show placesF 0 [b0, b1, b2, b3, b4, b5] = xs ++ placesF (kk + 1) ([b0, b1, b2, b3, b4, b5].drop (kk + 1)) by rw [PQ.out, PS.out, if_neg (by decide)]; rfl)
        clear hv
        go_wp2
        go_roundg (6 - (kk + 1))
        case measure => omega
        case rel => exact ⟨kk + 1, xs, by omega, by omega, by go_num, PN, ⟨by have := XL.out; omega⟩, HO, HB⟩
    · have hd : decide (kk < 6) = false := decide_eq_false hlt
      have e : kk = 6 := by omega
      subst e
      have PN := Aside0.mk (show placesF 0 [b0, b1, b2, b3, b4, b5] = xs by rw [PQ.out]; show xs ++ [] = xs; rw [List.append_nil])
      clear hlt
      go_wp2
      go_ret
      exact ⟨_, rfl, by rw [PN.out]; exact HO.out, HB.out⟩

def impl_NullableOf.f (a0_0 a0_1 : Int) (l0_2 : List S47) : Option (List Int × Bool) := some (if goodG a0_0 a0_1 l0_2 = true then (placesF 0 (closedF mkNul l0_2), true) else ([], false))
set_option maxHeartbeats 2000000 in
theorem impl_NullableOf.calls (a0_0 a0_1 : Int) (A0_2 : Option Addr) (c0_2 : Nat) (l0_2 : List S47) (r1 : List Int) (r2 : Bool) (w : World) (hr0_2 : Kd.C k47 w A0_2 l0_2.length l0_2) (hc0_2 : l0_2.length ≤ c0_2) (h : impl_NullableOf.f a0_0 a0_1 l0_2 = some (r1, r2)) :
    Calls Try.prog 23 #[.agg #[.int .i64 a0_0, .int .i64 a0_1, .slice A0_2 l0_2.length c0_2]] w fun e w' => ∃ v0_ : Value, e = .returned (.tuple #[v0_, .bool r2]) ∧ Kd.R (Kd.int .i64) 3 w' w.heap.size (fun _ => True) v0_ r1 ∧ Below w.heap.size w w' := by
  have hu := Try.underlying30
  have CI := fun (W : World) (hW : Below w.heap.size w W) => impl_isGrammar.calls a0_0 a0_1 A0_2 c0_2 l0_2 (goodG a0_0 a0_1 l0_2) W (Kd.C_below hr0_2 hW) hc0_2 rfl
  have HB := Aside0.mk (Below.refl w.heap.size w)
  have tok1 : True := trivial
  cases hg : goodG a0_0 a0_1 l0_2 with
  | true =>
    rw [hg] at CI
    have CN := fun (W : World) (hW : Below w.heap.size w W) => nullable_calls a0_0 a0_1 A0_2 c0_2 l0_2 W (Kd.C_below hr0_2 hW) hc0_2 (fun j hj => goodG_okR6 hg j hj)
    have hf : (placesF 0 (closedF mkNul l0_2), true) = (r1, r2) := by unfold impl_NullableOf.f at h; rw [hg] at h; exact Option.some.inj h
    obtain ⟨e1, e2⟩ := Prod.mk.inj hf
    have E1 := Aside0.mk e1
    subst e2
    clear h hf hr0_2 e1
    go_enter Try.func23, Try.ntmps23
    go_wp2_with (first | ((with_reducible refine gate_dst (N := 1) rfl ?_); refine box_event ?hg (N := 1) ?hd (cs := #[.int .i64 a0_0, .int .i64 a0_1, .slice A0_2 l0_2.length c0_2]) (t := 30) ?hr ?_; (case hd => rfl); (case hg => rfl); (case hr => first | (go_simp; done) | (go_simp; rfl)); intro gb hg_ w1 hbox_ hb_; have GE_gb := Aside0.mk (show w.heap.size ≤ gb by rw [hg_]; exact below_size (by repeat (first | (with_reducible first | exact HB.out | apply below_alloc | apply pw_below_drewN | apply below_drew1) | exact HB.out))); have n0_ := Aside0.mk (below_step (by repeat (first | (with_reducible first | exact HB.out | apply below_alloc | apply pw_below_drewN | apply below_drew1) | exact HB.out)) hb_); clear HB; have HB := n0_; clear n0_; have B_gb := Aside0.mk hbox_; clear hb_ hbox_ hg_; have x_gb_0 : w1.cell? ⟨gb, 0, none⟩ = some (.int .i64 a0_0) := (blk_cell B_gb.out 0).trans rfl; have x_gb_1 : w1.cell? ⟨gb, 1, none⟩ = some (.int .i64 a0_1) := (blk_cell B_gb.out 1).trans rfl; have x_gb_2 : w1.cell? ⟨gb, 2, none⟩ = some (.slice A0_2 l0_2.length c0_2) := (blk_cell B_gb.out 2).trans rfl) | (have _t := tok1; go_at_call 38; (with_reducible refine (CI _ HB.out).mono ?_); rintro e w2 ⟨rfl, hb_⟩; clear x_gb_0 x_gb_1 x_gb_2; have n0_ := Aside0.mk (below_step (by repeat (first | (with_reducible first | exact HB.out | apply below_alloc | apply pw_below_drewN | apply below_drew1) | exact HB.out)) hb_); have n_gb := Aside0.mk (blk_below (by (with_reducible repeat (first | refine blk_drewN ?_ _ | refine blk_drew ?_ | refine blk_alloc ?_ _)); exact B_gb.out) hb_); clear HB B_gb; have HB := n0_; have B_gb := n_gb; clear n0_ n_gb; clear hb_; have x_gb_0 : w2.cell? ⟨gb, 0, none⟩ = some (.int .i64 a0_0) := (blk_cell B_gb.out 0).trans rfl; have x_gb_1 : w2.cell? ⟨gb, 1, none⟩ = some (.int .i64 a0_1) := (blk_cell B_gb.out 1).trans rfl; have x_gb_2 : w2.cell? ⟨gb, 2, none⟩ = some (.slice A0_2 l0_2.length c0_2) := (blk_cell B_gb.out 2).trans rfl; clear CI tok1) | (go_at_call 46; (with_reducible refine (CN _ HB.out).mono ?_); rintro e w3 ⟨⟨b0, b1, b2, b3, b4, b5, rfl, hF⟩, hb_⟩; clear x_gb_0 x_gb_1 x_gb_2; have n0_ := Aside0.mk (below_step (by repeat (first | (with_reducible first | exact HB.out | apply below_alloc | apply pw_below_drewN | apply below_drew1) | exact HB.out)) hb_); have n_gb := Aside0.mk (blk_below (by (with_reducible repeat (first | refine blk_drewN ?_ _ | refine blk_drew ?_ | refine blk_alloc ?_ _)); exact B_gb.out) hb_); clear HB B_gb; have HB := n0_; have B_gb := n_gb; clear n0_ n_gb; clear hb_; have FF := Aside0.mk hF; clear hF CN) | (go_at_call 42; (with_reducible refine (listOf_calls b0 b1 b2 b3 b4 b5 _).mono ?_); rintro e w4 ⟨v0_, rfl, ho_, hb_⟩; have HO := Aside0.mk (Kd.R_lower ho_ (below_size (by repeat (first | (with_reducible first | exact HB.out | apply below_alloc | apply pw_below_drewN | apply below_drew1) | exact HB.out)))); have n0_ := Aside0.mk (below_step (by repeat (first | (with_reducible first | exact HB.out | apply below_alloc | apply pw_below_drewN | apply below_drew1) | exact HB.out)) hb_); clear HB hb_ ho_; have HB := n0_; clear n0_))
    go_ret2
    exact ⟨v0_, rfl, by rw [← E1.out, FF.out]; exact HO.out, HB.out⟩
  | false =>
    rw [hg] at CI
    have hf : (([] : List Int), false) = (r1, r2) := by unfold impl_NullableOf.f at h; rw [hg] at h; exact Option.some.inj h
    obtain ⟨e1, e2⟩ := Prod.mk.inj hf
    subst e1 e2
    clear h hf hr0_2
    go_enter Try.func23, Try.ntmps23
    go_wp2_with (first | ((with_reducible refine gate_dst (N := 1) rfl ?_); refine box_event ?hg (N := 1) ?hd (cs := #[.int .i64 a0_0, .int .i64 a0_1, .slice A0_2 l0_2.length c0_2]) (t := 30) ?hr ?_; (case hd => rfl); (case hg => rfl); (case hr => first | (go_simp; done) | (go_simp; rfl)); intro gb hg_ w1 hbox_ hb_; have GE_gb := Aside0.mk (show w.heap.size ≤ gb by rw [hg_]; exact below_size (by repeat (first | (with_reducible first | exact HB.out | apply below_alloc | apply pw_below_drewN | apply below_drew1) | exact HB.out))); have n0_ := Aside0.mk (below_step (by repeat (first | (with_reducible first | exact HB.out | apply below_alloc | apply pw_below_drewN | apply below_drew1) | exact HB.out)) hb_); clear HB; have HB := n0_; clear n0_; have B_gb := Aside0.mk hbox_; clear hb_ hbox_ hg_; have x_gb_0 : w1.cell? ⟨gb, 0, none⟩ = some (.int .i64 a0_0) := (blk_cell B_gb.out 0).trans rfl; have x_gb_1 : w1.cell? ⟨gb, 1, none⟩ = some (.int .i64 a0_1) := (blk_cell B_gb.out 1).trans rfl; have x_gb_2 : w1.cell? ⟨gb, 2, none⟩ = some (.slice A0_2 l0_2.length c0_2) := (blk_cell B_gb.out 2).trans rfl) | (have _t := tok1; go_at_call 38; (with_reducible refine (CI _ HB.out).mono ?_); rintro e w2 ⟨rfl, hb_⟩; clear x_gb_0 x_gb_1 x_gb_2; have n0_ := Aside0.mk (below_step (by repeat (first | (with_reducible first | exact HB.out | apply below_alloc | apply pw_below_drewN | apply below_drew1) | exact HB.out)) hb_); have n_gb := Aside0.mk (blk_below (by (with_reducible repeat (first | refine blk_drewN ?_ _ | refine blk_drew ?_ | refine blk_alloc ?_ _)); exact B_gb.out) hb_); clear HB B_gb; have HB := n0_; have B_gb := n_gb; clear n0_ n_gb; clear hb_; have x_gb_0 : w2.cell? ⟨gb, 0, none⟩ = some (.int .i64 a0_0) := (blk_cell B_gb.out 0).trans rfl; have x_gb_1 : w2.cell? ⟨gb, 1, none⟩ = some (.int .i64 a0_1) := (blk_cell B_gb.out 1).trans rfl; have x_gb_2 : w2.cell? ⟨gb, 2, none⟩ = some (.slice A0_2 l0_2.length c0_2) := (blk_cell B_gb.out 2).trans rfl; clear CI tok1))
    go_ret2
    exact ⟨_, rfl, Kd.R_nil _ _ _ _ _, HB.out⟩

def impl_ProductiveOf.f (a0_0 a0_1 : Int) (l0_2 : List S47) : Option (List Int × Bool) := some (if goodG a0_0 a0_1 l0_2 = true then (placesF 0 (closedF mkPro l0_2), true) else ([], false))
set_option maxHeartbeats 2000000 in
theorem impl_ProductiveOf.calls (a0_0 a0_1 : Int) (A0_2 : Option Addr) (c0_2 : Nat) (l0_2 : List S47) (r1 : List Int) (r2 : Bool) (w : World) (hr0_2 : Kd.C k47 w A0_2 l0_2.length l0_2) (hc0_2 : l0_2.length ≤ c0_2) (h : impl_ProductiveOf.f a0_0 a0_1 l0_2 = some (r1, r2)) :
    Calls Try.prog 25 #[.agg #[.int .i64 a0_0, .int .i64 a0_1, .slice A0_2 l0_2.length c0_2]] w fun e w' => ∃ v0_ : Value, e = .returned (.tuple #[v0_, .bool r2]) ∧ Kd.R (Kd.int .i64) 3 w' w.heap.size (fun _ => True) v0_ r1 ∧ Below w.heap.size w w' := by
  have hu := Try.underlying30
  have CI := fun (W : World) (hW : Below w.heap.size w W) => impl_isGrammar.calls a0_0 a0_1 A0_2 c0_2 l0_2 (goodG a0_0 a0_1 l0_2) W (Kd.C_below hr0_2 hW) hc0_2 rfl
  have HB := Aside0.mk (Below.refl w.heap.size w)
  have tok1 : True := trivial
  cases hg : goodG a0_0 a0_1 l0_2 with
  | true =>
    rw [hg] at CI
    have CN := fun (W : World) (hW : Below w.heap.size w W) => productive_calls a0_0 a0_1 A0_2 c0_2 l0_2 W (Kd.C_below hr0_2 hW) hc0_2 (fun j hj => goodG_okR6 hg j hj)
    have hf : (placesF 0 (closedF mkPro l0_2), true) = (r1, r2) := by unfold impl_ProductiveOf.f at h; rw [hg] at h; exact Option.some.inj h
    obtain ⟨e1, e2⟩ := Prod.mk.inj hf
    have E1 := Aside0.mk e1
    subst e2
    clear h hf hr0_2 e1
    go_enter Try.func25, Try.ntmps25
    go_wp2_with (first | ((with_reducible refine gate_dst (N := 1) rfl ?_); refine box_event ?hg (N := 1) ?hd (cs := #[.int .i64 a0_0, .int .i64 a0_1, .slice A0_2 l0_2.length c0_2]) (t := 30) ?hr ?_; (case hd => rfl); (case hg => rfl); (case hr => first | (go_simp; done) | (go_simp; rfl)); intro gb hg_ w1 hbox_ hb_; have GE_gb := Aside0.mk (show w.heap.size ≤ gb by rw [hg_]; exact below_size (by repeat (first | (with_reducible first | exact HB.out | apply below_alloc | apply pw_below_drewN | apply below_drew1) | exact HB.out))); have n0_ := Aside0.mk (below_step (by repeat (first | (with_reducible first | exact HB.out | apply below_alloc | apply pw_below_drewN | apply below_drew1) | exact HB.out)) hb_); clear HB; have HB := n0_; clear n0_; have B_gb := Aside0.mk hbox_; clear hb_ hbox_ hg_; have x_gb_0 : w1.cell? ⟨gb, 0, none⟩ = some (.int .i64 a0_0) := (blk_cell B_gb.out 0).trans rfl; have x_gb_1 : w1.cell? ⟨gb, 1, none⟩ = some (.int .i64 a0_1) := (blk_cell B_gb.out 1).trans rfl; have x_gb_2 : w1.cell? ⟨gb, 2, none⟩ = some (.slice A0_2 l0_2.length c0_2) := (blk_cell B_gb.out 2).trans rfl) | (have _t := tok1; go_at_call 38; (with_reducible refine (CI _ HB.out).mono ?_); rintro e w2 ⟨rfl, hb_⟩; clear x_gb_0 x_gb_1 x_gb_2; have n0_ := Aside0.mk (below_step (by repeat (first | (with_reducible first | exact HB.out | apply below_alloc | apply pw_below_drewN | apply below_drew1) | exact HB.out)) hb_); have n_gb := Aside0.mk (blk_below (by (with_reducible repeat (first | refine blk_drewN ?_ _ | refine blk_drew ?_ | refine blk_alloc ?_ _)); exact B_gb.out) hb_); clear HB B_gb; have HB := n0_; have B_gb := n_gb; clear n0_ n_gb; clear hb_; have x_gb_0 : w2.cell? ⟨gb, 0, none⟩ = some (.int .i64 a0_0) := (blk_cell B_gb.out 0).trans rfl; have x_gb_1 : w2.cell? ⟨gb, 1, none⟩ = some (.int .i64 a0_1) := (blk_cell B_gb.out 1).trans rfl; have x_gb_2 : w2.cell? ⟨gb, 2, none⟩ = some (.slice A0_2 l0_2.length c0_2) := (blk_cell B_gb.out 2).trans rfl; clear CI tok1) | (go_at_call 47; (with_reducible refine (CN _ HB.out).mono ?_); rintro e w3 ⟨⟨b0, b1, b2, b3, b4, b5, rfl, hF⟩, hb_⟩; clear x_gb_0 x_gb_1 x_gb_2; have n0_ := Aside0.mk (below_step (by repeat (first | (with_reducible first | exact HB.out | apply below_alloc | apply pw_below_drewN | apply below_drew1) | exact HB.out)) hb_); have n_gb := Aside0.mk (blk_below (by (with_reducible repeat (first | refine blk_drewN ?_ _ | refine blk_drew ?_ | refine blk_alloc ?_ _)); exact B_gb.out) hb_); clear HB B_gb; have HB := n0_; have B_gb := n_gb; clear n0_ n_gb; clear hb_; have FF := Aside0.mk hF; clear hF CN) | (go_at_call 42; (with_reducible refine (listOf_calls b0 b1 b2 b3 b4 b5 _).mono ?_); rintro e w4 ⟨v0_, rfl, ho_, hb_⟩; have HO := Aside0.mk (Kd.R_lower ho_ (below_size (by repeat (first | (with_reducible first | exact HB.out | apply below_alloc | apply pw_below_drewN | apply below_drew1) | exact HB.out)))); have n0_ := Aside0.mk (below_step (by repeat (first | (with_reducible first | exact HB.out | apply below_alloc | apply pw_below_drewN | apply below_drew1) | exact HB.out)) hb_); clear HB hb_ ho_; have HB := n0_; clear n0_))
    go_ret2
    exact ⟨v0_, rfl, by rw [← E1.out, FF.out]; exact HO.out, HB.out⟩
  | false =>
    rw [hg] at CI
    have hf : (([] : List Int), false) = (r1, r2) := by unfold impl_ProductiveOf.f at h; rw [hg] at h; exact Option.some.inj h
    obtain ⟨e1, e2⟩ := Prod.mk.inj hf
    subst e1 e2
    clear h hf hr0_2
    go_enter Try.func25, Try.ntmps25
    go_wp2_with (first | ((with_reducible refine gate_dst (N := 1) rfl ?_); refine box_event ?hg (N := 1) ?hd (cs := #[.int .i64 a0_0, .int .i64 a0_1, .slice A0_2 l0_2.length c0_2]) (t := 30) ?hr ?_; (case hd => rfl); (case hg => rfl); (case hr => first | (go_simp; done) | (go_simp; rfl)); intro gb hg_ w1 hbox_ hb_; have GE_gb := Aside0.mk (show w.heap.size ≤ gb by rw [hg_]; exact below_size (by repeat (first | (with_reducible first | exact HB.out | apply below_alloc | apply pw_below_drewN | apply below_drew1) | exact HB.out))); have n0_ := Aside0.mk (below_step (by repeat (first | (with_reducible first | exact HB.out | apply below_alloc | apply pw_below_drewN | apply below_drew1) | exact HB.out)) hb_); clear HB; have HB := n0_; clear n0_; have B_gb := Aside0.mk hbox_; clear hb_ hbox_ hg_; have x_gb_0 : w1.cell? ⟨gb, 0, none⟩ = some (.int .i64 a0_0) := (blk_cell B_gb.out 0).trans rfl; have x_gb_1 : w1.cell? ⟨gb, 1, none⟩ = some (.int .i64 a0_1) := (blk_cell B_gb.out 1).trans rfl; have x_gb_2 : w1.cell? ⟨gb, 2, none⟩ = some (.slice A0_2 l0_2.length c0_2) := (blk_cell B_gb.out 2).trans rfl) | (have _t := tok1; go_at_call 38; (with_reducible refine (CI _ HB.out).mono ?_); rintro e w2 ⟨rfl, hb_⟩; clear x_gb_0 x_gb_1 x_gb_2; have n0_ := Aside0.mk (below_step (by repeat (first | (with_reducible first | exact HB.out | apply below_alloc | apply pw_below_drewN | apply below_drew1) | exact HB.out)) hb_); have n_gb := Aside0.mk (blk_below (by (with_reducible repeat (first | refine blk_drewN ?_ _ | refine blk_drew ?_ | refine blk_alloc ?_ _)); exact B_gb.out) hb_); clear HB B_gb; have HB := n0_; have B_gb := n_gb; clear n0_ n_gb; clear hb_; have x_gb_0 : w2.cell? ⟨gb, 0, none⟩ = some (.int .i64 a0_0) := (blk_cell B_gb.out 0).trans rfl; have x_gb_1 : w2.cell? ⟨gb, 1, none⟩ = some (.int .i64 a0_1) := (blk_cell B_gb.out 1).trans rfl; have x_gb_2 : w2.cell? ⟨gb, 2, none⟩ = some (.slice A0_2 l0_2.length c0_2) := (blk_cell B_gb.out 2).trans rfl; clear CI tok1))
    go_ret2
    exact ⟨_, rfl, Kd.R_nil _ _ _ _ _, HB.out⟩

def impl_GrowingOf.f (a0_0 a0_1 : Int) (l0_2 : List S47) : Option (List Int × Bool) := some (if goodG a0_0 a0_1 l0_2 = true then (placesF 0 (closedF (mkGro (closedF mkPro l0_2)) l0_2), true) else ([], false))
set_option maxHeartbeats 2000000 in
theorem impl_GrowingOf.calls (a0_0 a0_1 : Int) (A0_2 : Option Addr) (c0_2 : Nat) (l0_2 : List S47) (r1 : List Int) (r2 : Bool) (w : World) (hr0_2 : Kd.C k47 w A0_2 l0_2.length l0_2) (hc0_2 : l0_2.length ≤ c0_2) (h : impl_GrowingOf.f a0_0 a0_1 l0_2 = some (r1, r2)) :
    Calls Try.prog 27 #[.agg #[.int .i64 a0_0, .int .i64 a0_1, .slice A0_2 l0_2.length c0_2]] w fun e w' => ∃ v0_ : Value, e = .returned (.tuple #[v0_, .bool r2]) ∧ Kd.R (Kd.int .i64) 3 w' w.heap.size (fun _ => True) v0_ r1 ∧ Below w.heap.size w w' := by
  have hu := Try.underlying30
  have CI := fun (W : World) (hW : Below w.heap.size w W) => impl_isGrammar.calls a0_0 a0_1 A0_2 c0_2 l0_2 (goodG a0_0 a0_1 l0_2) W (Kd.C_below hr0_2 hW) hc0_2 rfl
  have HB := Aside0.mk (Below.refl w.heap.size w)
  have tok1 : True := trivial
  cases hg : goodG a0_0 a0_1 l0_2 with
  | true =>
    rw [hg] at CI
    have CN := fun (W : World) (hW : Below w.heap.size w W) => growing_calls a0_0 a0_1 A0_2 c0_2 l0_2 W (Kd.C_below hr0_2 hW) hc0_2 (fun j hj => goodG_okR6 hg j hj)
    have hf : (placesF 0 (closedF (mkGro (closedF mkPro l0_2)) l0_2), true) = (r1, r2) := by unfold impl_GrowingOf.f at h; rw [hg] at h; exact Option.some.inj h
    obtain ⟨e1, e2⟩ := Prod.mk.inj hf
    have E1 := Aside0.mk e1
    subst e2
    clear h hf hr0_2 e1
    go_enter Try.func27, Try.ntmps27
    go_wp2_with (first | ((with_reducible refine gate_dst (N := 1) rfl ?_); refine box_event ?hg (N := 1) ?hd (cs := #[.int .i64 a0_0, .int .i64 a0_1, .slice A0_2 l0_2.length c0_2]) (t := 30) ?hr ?_; (case hd => rfl); (case hg => rfl); (case hr => first | (go_simp; done) | (go_simp; rfl)); intro gb hg_ w1 hbox_ hb_; have GE_gb := Aside0.mk (show w.heap.size ≤ gb by rw [hg_]; exact below_size (by repeat (first | (with_reducible first | exact HB.out | apply below_alloc | apply pw_below_drewN | apply below_drew1) | exact HB.out))); have n0_ := Aside0.mk (below_step (by repeat (first | (with_reducible first | exact HB.out | apply below_alloc | apply pw_below_drewN | apply below_drew1) | exact HB.out)) hb_); clear HB; have HB := n0_; clear n0_; have B_gb := Aside0.mk hbox_; clear hb_ hbox_ hg_; have x_gb_0 : w1.cell? ⟨gb, 0, none⟩ = some (.int .i64 a0_0) := (blk_cell B_gb.out 0).trans rfl; have x_gb_1 : w1.cell? ⟨gb, 1, none⟩ = some (.int .i64 a0_1) := (blk_cell B_gb.out 1).trans rfl; have x_gb_2 : w1.cell? ⟨gb, 2, none⟩ = some (.slice A0_2 l0_2.length c0_2) := (blk_cell B_gb.out 2).trans rfl) | (have _t := tok1; go_at_call 38; (with_reducible refine (CI _ HB.out).mono ?_); rintro e w2 ⟨rfl, hb_⟩; clear x_gb_0 x_gb_1 x_gb_2; have n0_ := Aside0.mk (below_step (by repeat (first | (with_reducible first | exact HB.out | apply below_alloc | apply pw_below_drewN | apply below_drew1) | exact HB.out)) hb_); have n_gb := Aside0.mk (blk_below (by (with_reducible repeat (first | refine blk_drewN ?_ _ | refine blk_drew ?_ | refine blk_alloc ?_ _)); exact B_gb.out) hb_); clear HB B_gb; have HB := n0_; have B_gb := n_gb; clear n0_ n_gb; clear hb_; have x_gb_0 : w2.cell? ⟨gb, 0, none⟩ = some (.int .i64 a0_0) := (blk_cell B_gb.out 0).trans rfl; have x_gb_1 : w2.cell? ⟨gb, 1, none⟩ = some (.int .i64 a0_1) := (blk_cell B_gb.out 1).trans rfl; have x_gb_2 : w2.cell? ⟨gb, 2, none⟩ = some (.slice A0_2 l0_2.length c0_2) := (blk_cell B_gb.out 2).trans rfl; clear CI tok1) | (go_at_call 49; (with_reducible refine (CN _ HB.out).mono ?_); rintro e w3 ⟨⟨b0, b1, b2, b3, b4, b5, rfl, hF⟩, hb_⟩; clear x_gb_0 x_gb_1 x_gb_2; have n0_ := Aside0.mk (below_step (by repeat (first | (with_reducible first | exact HB.out | apply below_alloc | apply pw_below_drewN | apply below_drew1) | exact HB.out)) hb_); have n_gb := Aside0.mk (blk_below (by (with_reducible repeat (first | refine blk_drewN ?_ _ | refine blk_drew ?_ | refine blk_alloc ?_ _)); exact B_gb.out) hb_); clear HB B_gb; have HB := n0_; have B_gb := n_gb; clear n0_ n_gb; clear hb_; have FF := Aside0.mk hF; clear hF CN) | (go_at_call 42; (with_reducible refine (listOf_calls b0 b1 b2 b3 b4 b5 _).mono ?_); rintro e w4 ⟨v0_, rfl, ho_, hb_⟩; have HO := Aside0.mk (Kd.R_lower ho_ (below_size (by repeat (first | (with_reducible first | exact HB.out | apply below_alloc | apply pw_below_drewN | apply below_drew1) | exact HB.out)))); have n0_ := Aside0.mk (below_step (by repeat (first | (with_reducible first | exact HB.out | apply below_alloc | apply pw_below_drewN | apply below_drew1) | exact HB.out)) hb_); clear HB hb_ ho_; have HB := n0_; clear n0_))
    go_ret2
    exact ⟨v0_, rfl, by rw [← E1.out, FF.out]; exact HO.out, HB.out⟩
  | false =>
    rw [hg] at CI
    have hf : (([] : List Int), false) = (r1, r2) := by unfold impl_GrowingOf.f at h; rw [hg] at h; exact Option.some.inj h
    obtain ⟨e1, e2⟩ := Prod.mk.inj hf
    subst e1 e2
    clear h hf hr0_2
    go_enter Try.func27, Try.ntmps27
    go_wp2_with (first | ((with_reducible refine gate_dst (N := 1) rfl ?_); refine box_event ?hg (N := 1) ?hd (cs := #[.int .i64 a0_0, .int .i64 a0_1, .slice A0_2 l0_2.length c0_2]) (t := 30) ?hr ?_; (case hd => rfl); (case hg => rfl); (case hr => first | (go_simp; done) | (go_simp; rfl)); intro gb hg_ w1 hbox_ hb_; have GE_gb := Aside0.mk (show w.heap.size ≤ gb by rw [hg_]; exact below_size (by repeat (first | (with_reducible first | exact HB.out | apply below_alloc | apply pw_below_drewN | apply below_drew1) | exact HB.out))); have n0_ := Aside0.mk (below_step (by repeat (first | (with_reducible first | exact HB.out | apply below_alloc | apply pw_below_drewN | apply below_drew1) | exact HB.out)) hb_); clear HB; have HB := n0_; clear n0_; have B_gb := Aside0.mk hbox_; clear hb_ hbox_ hg_; have x_gb_0 : w1.cell? ⟨gb, 0, none⟩ = some (.int .i64 a0_0) := (blk_cell B_gb.out 0).trans rfl; have x_gb_1 : w1.cell? ⟨gb, 1, none⟩ = some (.int .i64 a0_1) := (blk_cell B_gb.out 1).trans rfl; have x_gb_2 : w1.cell? ⟨gb, 2, none⟩ = some (.slice A0_2 l0_2.length c0_2) := (blk_cell B_gb.out 2).trans rfl) | (have _t := tok1; go_at_call 38; (with_reducible refine (CI _ HB.out).mono ?_); rintro e w2 ⟨rfl, hb_⟩; clear x_gb_0 x_gb_1 x_gb_2; have n0_ := Aside0.mk (below_step (by repeat (first | (with_reducible first | exact HB.out | apply below_alloc | apply pw_below_drewN | apply below_drew1) | exact HB.out)) hb_); have n_gb := Aside0.mk (blk_below (by (with_reducible repeat (first | refine blk_drewN ?_ _ | refine blk_drew ?_ | refine blk_alloc ?_ _)); exact B_gb.out) hb_); clear HB B_gb; have HB := n0_; have B_gb := n_gb; clear n0_ n_gb; clear hb_; have x_gb_0 : w2.cell? ⟨gb, 0, none⟩ = some (.int .i64 a0_0) := (blk_cell B_gb.out 0).trans rfl; have x_gb_1 : w2.cell? ⟨gb, 1, none⟩ = some (.int .i64 a0_1) := (blk_cell B_gb.out 1).trans rfl; have x_gb_2 : w2.cell? ⟨gb, 2, none⟩ = some (.slice A0_2 l0_2.length c0_2) := (blk_cell B_gb.out 2).trans rfl; clear CI tok1))
    go_ret2
    exact ⟨_, rfl, Kd.R_nil _ _ _ _ _, HB.out⟩

end Go.Proofs.Ytohbdjdjjbieeaa.P

/-! F66 -/
namespace Go.Proofs.Ytohbdjdjjbieeaa.P
open Go.RowKit Go.Proofs.YtohbdjdjjbieeaaW.PrintWords Go.Proofs.YtohbdjdjjbieeaaW.PrintLast Go.Proofs.YtohbdjdjjbieeaaW.PrintMore
attribute [local go_sem] max2_int min2_int max_two min_two max_three min_three max_four min_four   -- for this text's walks alone
set_option linter.unusedVariables false
set_option linter.unusedSimpArgs false

/-! ### spec_l1Has: function 66 -/
def spec_l1Has.l0 : Nat → Int → List Int → Int → Int → Option (Bool)
  | 0, _, _, _, _ => none
  | k + 1, x1, x7, x8, x9 => if x9 < x8 then (if 0 ≤ x9 then (if x9 < (x7.length : Int) then (if (rd x7 x9) = x1 then (some true) else (spec_l1Has.l0 k x1 x7 x8 (wrap64 (x9 + 1)))) else (none)) else (none)) else (some false)
def spec_l1Has.f (k : Nat) (l0 : List Int) (a1 : Int) : Option (Bool) := spec_l1Has.l0 k a1 l0 (l0.length : Int) 0
theorem spec_l1Has.mono_l : ∀ k, (∀ y0 y1 y2 y3, LeO (spec_l1Has.l0 k y0 y1 y2 y3) (spec_l1Has.l0 (k + 1) y0 y1 y2 y3))
  | 0 => fun _ _ _ _ r h => by simp [spec_l1Has.l0] at h
  | k + 1 => by
    have ih0 := spec_l1Has.mono_l k
    · intro y0 y1 y2 y3
      unfold spec_l1Has.l0
      repeat' first
      | (with_reducible exact ih0 _ _ _ _)
      | (with_reducible exact LeO.refl _)
      | (with_reducible exact LeO.none _)
      | (with_reducible refine LeO.ite ?_ ?_)
      | (with_reducible refine LeO.bind ?_ (fun _ => ?_))
      | exact ih0 _ _ _ _
      | exact LeO.none _
      | refine LeO.ite ?_ ?_
      | refine LeO.bind ?_ (fun _ => ?_)
theorem spec_l1Has.mono : ∀ a0 a1 k, LeO (spec_l1Has.f k a0 a1) (spec_l1Has.f (k + 1) a0 a1) := by
  intro a0 a1 k
  have ih0 := spec_l1Has.mono_l k
  unfold spec_l1Has.f
  repeat' first
      | (with_reducible exact ih0 _ _ _ _)
      | (with_reducible exact LeO.refl _)
      | (with_reducible exact LeO.none _)
      | (with_reducible refine LeO.ite ?_ ?_)
      | (with_reducible refine LeO.bind ?_ (fun _ => ?_))
      | exact ih0 _ _ _ _
      | exact LeO.none _
      | refine LeO.ite ?_ ?_
      | refine LeO.bind ?_ (fun _ => ?_)
set_option maxHeartbeats 8000000 in
set_option maxRecDepth 100000 in
theorem spec_l1Has.calls (k : Nat) (A0 : Option Addr) (c0 : Nat) (l0 : List Int) (a1 : Int) (r : Bool) (w : World) (hr0 : Kd.C (Kd.int .i64) w A0 l0.length l0) (hc0 : l0.length ≤ c0) (h : spec_l1Has.f k l0 a1 = some r) :
    Calls Try.prog 66 #[.slice A0 l0.length c0, .int .i64 a1] w fun e w' => e = .returned (.bool r) ∧ Drawn0 w w' := by
  have HR0 := Aside0.mk hr0
  have HC0 := Aside0.mk hc0
  clear hr0 hc0
  have H : (spec_l1Has.l0 k a1 l0 (l0.length : Int) 0) = some r := h
  clear h
  have H' := Aside0.mk H
  clear H
  go_enter Try.func66, Try.ntmps66
  go_wp2
  go_loopg [9] k (fun kq v9 w' => ∃ (x9_1 : Int), v9 = .int .i64 x9_1 ∧ Aside0 (spec_l1Has.l0 kq a1 l0 (l0.length : Int) x9_1 = some r) ∧ Aside0 (kq ≤ k) ∧ Drawn0 w w')
  case atStart => exact ⟨(0), (by first | rfl | (simp; done) | (simp [*]; done)), H', ⟨Nat.le_refl _⟩, by repeat (first | exact Drawn0.refl _ | apply Drawn0.step)⟩
  case round =>
    clear H'
    try clear p2
    obtain ⟨x9_1, rfl, HA, HK1, ⟨m1, rfl⟩⟩ := hrel
    cases gk with
    | zero => exact absurd HA.out (by simp [spec_l1Has.l0])
    | succ k1 =>
      have H := HA.out
      clear HA
      simp only [spec_l1Has.l0] at H
      by_cases c3 : x9_1 < (l0.length : Int)
      · rw [if_pos c3] at H
        have c3b0 : decide (x9_1 < (l0.length : Int)) = true := decide_eq_true c3
        clear c3
        by_cases c4 : 0 ≤ x9_1
        · rw [if_pos c4] at H
          have c4b0 : decide (0 ≤ x9_1) = true := decide_eq_true c4
          clear c4
          by_cases c5 : x9_1 < (l0.length : Int)
          · rw [if_pos c5] at H
            have c5b0 : decide (x9_1 < (l0.length : Int)) = true := decide_eq_true c5
            clear c5
            by_cases c6 : (rd l0 x9_1) = a1
            · rw [if_pos c6] at H
              have c6b0 : ((rd l0 x9_1) == a1) = true := beq_iff_eq.mpr c6
              have c6b1 : ((rd l0 x9_1) != a1) = false := bne_eq_false_iff_eq.mpr c6
              clear c6
              obtain rfl := Option.some.inj H
              have p101 : 0 ≤ (x9_1 : Int) := of_decide_eq_true (by first | (with_reducible assumption) | assumption)
              have q101 : x9_1 < (l0.length : Int) := of_decide_eq_true (by first | (with_reducible assumption) | assumption)
              obtain ⟨ad101, e101, hx101_0⟩ := Kd.at_int HR0.out x9_1 p101 q101
              cases e101
              replace p101 := eq_true p101
              replace q101 := eq_true q101
              go_wp2
              go_ret
              exact ⟨by first | rfl | (simp; done) | (simp [*]; done), by repeat (first | exact Drawn0.refl _ | apply Drawn0.step)⟩
            · rw [if_neg c6] at H
              have c6b0 : ((rd l0 x9_1) == a1) = false := beq_eq_false_iff_ne.mpr c6
              have c6b1 : ((rd l0 x9_1) != a1) = true := bne_iff_ne.mpr c6
              have H' := Aside0.mk H
              clear H
              have p101 : 0 ≤ (x9_1 : Int) := of_decide_eq_true (by first | (with_reducible assumption) | assumption)
              have q101 : x9_1 < (l0.length : Int) := of_decide_eq_true (by first | (with_reducible assumption) | assumption)
              obtain ⟨ad101, e101, hx101_0⟩ := Kd.at_int HR0.out x9_1 p101 q101
              cases e101
              replace p101 := eq_true p101
              replace q101 := eq_true q101
              go_wp2
              go_roundg k1
              case measure => have := HK1.out; omega
              case rel => exact ⟨(wrap64 (x9_1 + 1)), (by first | rfl | (simp; done) | (simp [*]; done)), H', ⟨by have := HK1.out; omega⟩, by repeat (first | exact Drawn0.refl _ | apply Drawn0.step)⟩
          · rw [if_neg c5] at H
            exact absurd H (by simp)
        · rw [if_neg c4] at H
          exact absurd H (by simp)
      · rw [if_neg c3] at H
        have c3b0 : decide (x9_1 < (l0.length : Int)) = false := decide_eq_false c3
        clear c3
        obtain rfl := Option.some.inj H
        go_wp2
        go_ret
        exact ⟨by first | rfl | (simp; done) | (simp [*]; done), by repeat (first | exact Drawn0.refl _ | apply Drawn0.step)⟩

end Go.Proofs.Ytohbdjdjjbieeaa.P

/-! F67 -/
namespace Go.Proofs.Ytohbdjdjjbieeaa.P
open Go.RowKit Go.Proofs.YtohbdjdjjbieeaaW.PrintWords Go.Proofs.YtohbdjdjjbieeaaW.PrintLast Go.Proofs.YtohbdjdjjbieeaaW.PrintMore
attribute [local go_sem] max2_int min2_int max_two min_two max_three min_three max_four min_four   -- for this text's walks alone
set_option linter.unusedVariables false
set_option linter.unusedSimpArgs false

/-! ### spec_l1Put: function 67 -/
def spec_l1Put.l0 : Nat → List Int → Int → Int → Option (List Int)
  | 0, _, _, _ => none
  | k + 1, x0, x1, x5 => if x5 < (x0.length : Int) then (if 0 ≤ x5 then (if (rd x0 x5) < x1 then (spec_l1Put.l0 k x0 x1 (wrap64 (x5 + 1))) else (if (rd x0 x5) = x1 then (some x0) else ((some (([] : List Int) : List Int)).bind fun y103 => (if x5 ≤ (x0.length : Int) then ((some (x0.take (x5 : Int).toNat : List Int)).bind fun y106 => (if y103.length + y106.length < 17592186044416 then ((some (y103 ++ y106 : List Int)).bind fun y110 => (if y110.length < 17592186044416 then ((some (y110 ++ [x1] : List Int)).bind fun y113 => ((some (x0.drop (x5 : Int).toNat : List Int)).bind fun y116 => (if y113.length + y116.length < 17592186044416 then (some (y113 ++ y116)) else (none)))) else (none))) else (none))) else (none))))) else (none)) else ((some (([] : List Int) : List Int)).bind fun y123 => (if 0 ≤ x5 then (if x5 ≤ (x0.length : Int) then ((some (x0.take (x5 : Int).toNat : List Int)).bind fun y126 => (if y123.length + y126.length < 17592186044416 then ((some (y123 ++ y126 : List Int)).bind fun y130 => (if y130.length < 17592186044416 then ((some (y130 ++ [x1] : List Int)).bind fun y133 => ((some (x0.drop (x5 : Int).toNat : List Int)).bind fun y136 => (if y133.length + y136.length < 17592186044416 then (some (y133 ++ y136)) else (none)))) else (none))) else (none))) else (none)) else (none)))
def spec_l1Put.f (k : Nat) (l0 : List Int) (a1 : Int) : Option (List Int) := spec_l1Put.l0 k l0 a1 0
theorem spec_l1Put.mono_l : ∀ k, (∀ y0 y1 y2, LeO (spec_l1Put.l0 k y0 y1 y2) (spec_l1Put.l0 (k + 1) y0 y1 y2))
  | 0 => fun _ _ _ r h => by simp [spec_l1Put.l0] at h
  | k + 1 => by
    have ih0 := spec_l1Put.mono_l k
    · intro y0 y1 y2
      unfold spec_l1Put.l0
      repeat' first
      | (with_reducible exact ih0 _ _ _)
      | (with_reducible exact LeO.refl _)
      | (with_reducible exact LeO.none _)
      | (with_reducible refine LeO.ite ?_ ?_)
      | (with_reducible refine LeO.bind ?_ (fun _ => ?_))
      | exact ih0 _ _ _
      | exact LeO.none _
      | refine LeO.ite ?_ ?_
      | refine LeO.bind ?_ (fun _ => ?_)
theorem spec_l1Put.mono : ∀ a0 a1 k, LeO (spec_l1Put.f k a0 a1) (spec_l1Put.f (k + 1) a0 a1) := by
  intro a0 a1 k
  have ih0 := spec_l1Put.mono_l k
  unfold spec_l1Put.f
  repeat' first
      | (with_reducible exact ih0 _ _ _)
      | (with_reducible exact LeO.refl _)
      | (with_reducible exact LeO.none _)
      | (with_reducible refine LeO.ite ?_ ?_)
      | (with_reducible refine LeO.bind ?_ (fun _ => ?_))
      | exact ih0 _ _ _
      | exact LeO.none _
      | refine LeO.ite ?_ ?_
      | refine LeO.bind ?_ (fun _ => ?_)
set_option maxHeartbeats 8000000 in
set_option maxRecDepth 100000 in
theorem spec_l1Put.calls (k : Nat) (P0_ : Nat → Prop) (u9000_ : Value) (l0 : List Int) (a1 : Int) (r : List Int) (w0 w : World) (hB : Below w0.heap.size w0 w) (ho0 : Kd.R (Kd.int .i64) 3 w w0.heap.size P0_ u9000_ l0) (h : spec_l1Put.f k l0 a1 = some r) :
    Calls Try.prog 67 #[u9000_, .int .i64 a1] w fun e w' => ∃ v0_ : Value, e = .returned (v0_) ∧ Kd.R (Kd.int .i64) 3 w' w0.heap.size (fun k_ => (P0_ k_ ∨ w.heap.size ≤ k_)) v0_ r ∧ Below w0.heap.size w0 w' ∧ Kept w w' (fun k_ => P0_ k_) := by
  have HO0 := Aside0.mk (show Kd.R (Kd.int .i64) 3 w w0.heap.size (fun k_ => (P0_ k_ ∨ w.heap.size ≤ k_)) u9000_ l0 from Kd.R_mono ho0 (fun k_ hk => (.inl hk)))
  have HK := Aside0.mk (Kept.refl w (fun k_ => P0_ k_))
  have HW0 := Aside0.mk hB.size
  have HB := Aside0.mk hB
  clear hB
  have H : (spec_l1Put.l0 k l0 a1 0) = some r := h
  clear h
  have H' := Aside0.mk H
  clear H
  go_enter Try.func67, Try.ntmps67
  go_wp2
  go_loopg [5] k (fun kq v5 w' => ∃ (x5_1 : Int), v5 = .int .i64 x5_1 ∧ Aside0 (spec_l1Put.l0 kq l0 a1 x5_1 = some r) ∧ Aside0 (kq ≤ k) ∧ Aside0 (Kd.R (Kd.int .i64) 3 w' w0.heap.size (fun k_ => (P0_ k_ ∨ w.heap.size ≤ k_)) u9000_ l0) ∧ Aside0 (Kept w w' (fun k_ => P0_ k_)) ∧ Aside0 (Below w0.heap.size w0 w'))
  case atStart => exact ⟨(0), (by first | rfl | (simp; done) | (simp [*]; done)), H', ⟨Nat.le_refl _⟩, ⟨by (with_reducible repeat (first | apply Kd.R_alloc | apply Kd.R_drewN | apply Kd.R_drew)); exact HO0.out⟩, ⟨by repeat (first | (with_reducible first | exact HK.out | apply Kept.alloc | apply Kept.drewN | apply Kept.drew) | exact HK.out)⟩, ⟨by repeat (first | (with_reducible first | exact HB.out | apply below_alloc | apply pw_below_drewN | apply below_drew1) | exact HB.out)⟩⟩
  case round =>
    clear H'
    try clear p2
    obtain ⟨x5_1, rfl, HA, HK1, HO_0, HK, HB⟩ := hrel
    cases gk with
    | zero => exact absurd HA.out (by simp [spec_l1Put.l0])
    | succ k1 =>
      have H := HA.out
      clear HA
      simp only [spec_l1Put.l0] at H
      by_cases c3 : x5_1 < (l0.length : Int)
      · rw [if_pos c3] at H
        have c3b0 : decide (x5_1 < (l0.length : Int)) = true := decide_eq_true c3
        clear c3
        by_cases c4 : 0 ≤ x5_1
        · rw [if_pos c4] at H
          have c4b0 : decide (0 ≤ x5_1) = true := decide_eq_true c4
          clear c4
          by_cases c5 : (rd l0 x5_1) < a1
          · rw [if_pos c5] at H
            have c5b0 : decide ((rd l0 x5_1) < a1) = true := decide_eq_true c5
            clear c5
            have H' := Aside0.mk H
            clear H
            obtain ⟨Ao6, co6, eo6⟩ := Kd.R_slice HO_0.out
            subst eo6
            have p101 : 0 ≤ (x5_1 : Int) := of_decide_eq_true (by first | (with_reducible assumption) | assumption)
            have q101 : x5_1 < (l0.length : Int) := of_decide_eq_true (by first | (with_reducible assumption) | assumption)
            obtain ⟨ad101, e101, hx101_0⟩ := Kd.at_int (Kd.R_reads' HO_0.out).2.2 x5_1 p101 q101
            cases e101
            replace p101 := eq_true p101
            replace q101 := eq_true q101
            go_wp2
            go_roundg k1
            case measure => have := HK1.out; omega
            case rel => exact ⟨(wrap64 (x5_1 + 1)), (by first | rfl | (simp; done) | (simp [*]; done)), H', ⟨by have := HK1.out; omega⟩, ⟨by (with_reducible repeat (first | apply Kd.R_alloc | apply Kd.R_drewN | apply Kd.R_drew)); exact HO_0.out⟩, ⟨by repeat (first | (with_reducible first | exact HK.out | apply Kept.alloc | apply Kept.drewN | apply Kept.drew) | exact HK.out)⟩, ⟨by repeat (first | (with_reducible first | exact HB.out | apply below_alloc | apply pw_below_drewN | apply below_drew1) | exact HB.out)⟩⟩
          · rw [if_neg c5] at H
            have c5b0 : decide ((rd l0 x5_1) < a1) = false := decide_eq_false c5
            clear c5
            by_cases c7 : (rd l0 x5_1) = a1
            · rw [if_pos c7] at H
              have c7b0 : ((rd l0 x5_1) == a1) = true := beq_iff_eq.mpr c7
              have c7b1 : ((rd l0 x5_1) != a1) = false := bne_eq_false_iff_eq.mpr c7
              clear c7
              obtain rfl := Option.some.inj H
              obtain ⟨Ao8, co8, eo8⟩ := Kd.R_slice HO_0.out
              subst eo8
              have p101 : 0 ≤ (x5_1 : Int) := of_decide_eq_true (by first | (with_reducible assumption) | assumption)
              have q101 : x5_1 < (l0.length : Int) := of_decide_eq_true (by first | (with_reducible assumption) | assumption)
              obtain ⟨ad101, e101, hx101_0⟩ := Kd.at_int (Kd.R_reads' HO_0.out).2.2 x5_1 p101 q101
              cases e101
              replace p101 := eq_true p101
              replace q101 := eq_true q101
              have p102 : 0 ≤ (x5_1 : Int) := of_decide_eq_true (by first | (with_reducible assumption) | assumption)
              have q102 : x5_1 < (l0.length : Int) := of_decide_eq_true (by first | (with_reducible assumption) | assumption)
              obtain ⟨ad102, e102, hx102_0⟩ := Kd.at_int (Kd.R_reads' HO_0.out).2.2 x5_1 p102 q102
              obtain rfl : ad101 = ad102 := (by injection e102)
              replace p102 := eq_true p102
              replace q102 := eq_true q102
              go_wp2
              go_ret
              exact ⟨_, by first | rfl | (simp [errW_none, errW_some] <;> rfl) | (simp [*, errW_none, errW_some] <;> rfl), by (with_reducible repeat (first | apply Kd.R_alloc | apply Kd.R_drewN | apply Kd.R_drew)); exact HO_0.out, by repeat (first | (with_reducible first | exact HB.out | apply below_alloc | apply pw_below_drewN | apply below_drew1) | exact HB.out), by repeat (first | (with_reducible first | exact HK.out | apply Kept.alloc | apply Kept.drewN | apply Kept.drew) | exact HK.out)⟩
            · rw [if_neg c7] at H
              have c7b0 : ((rd l0 x5_1) == a1) = false := beq_eq_false_iff_ne.mpr c7
              have c7b1 : ((rd l0 x5_1) != a1) = true := bne_iff_ne.mpr c7
              obtain ⟨y103, hy103⟩ : ∃ y_ : List Int, y_ = (([] : List Int)) := ⟨_, rfl⟩
              replace H : (if x5_1 ≤ (l0.length : Int) then ((some (l0.take (x5_1 : Int).toNat : List Int)).bind fun y106 => (if y103.length + y106.length < 17592186044416 then ((some (y103 ++ y106 : List Int)).bind fun y110 => (if y110.length < 17592186044416 then ((some (y110 ++ [a1] : List Int)).bind fun y113 => ((some (l0.drop (x5_1 : Int).toNat : List Int)).bind fun y116 => (if y113.length + y116.length < 17592186044416 then (some (y113 ++ y116)) else (none)))) else (none))) else (none))) else (none)) = some r := by first | (rw [hy103]; with_reducible exact H) | (have H2_ := (Option.bind_some _ _).symm.trans H; rw [hy103]; with_reducible exact H2_) | (have H2_ := (Option.bind_some _ _).symm.trans H; with_reducible exact H2_) | with_reducible exact H | (rw [hy103]; exact H) | exact H
              have Ny103 := Aside0.mk hy103
              clear hy103
              have c9b0 := eq_true (of_decide_eq_true (by first | (with_reducible assumption) | assumption) : 0 ≤ x5_1)
              by_cases c10 : x5_1 ≤ (l0.length : Int)
              · rw [if_pos c10] at H
                have c10b0 := eq_true c10
                have c10b1 : decide (x5_1 ≤ (l0.length : Int)) = true := decide_eq_true c10
                clear c10
                obtain ⟨y106, hy106⟩ : ∃ y_ : List Int, y_ = (l0.take (x5_1 : Int).toNat) := ⟨_, rfl⟩
                replace H : (if y103.length + y106.length < 17592186044416 then ((some (y103 ++ y106 : List Int)).bind fun y110 => (if y110.length < 17592186044416 then ((some (y110 ++ [a1] : List Int)).bind fun y113 => ((some (l0.drop (x5_1 : Int).toNat : List Int)).bind fun y116 => (if y113.length + y116.length < 17592186044416 then (some (y113 ++ y116)) else (none)))) else (none))) else (none)) = some r := by first | (rw [hy106]; with_reducible exact H) | (have H2_ := (Option.bind_some _ _).symm.trans H; rw [hy106]; with_reducible exact H2_) | (have H2_ := (Option.bind_some _ _).symm.trans H; with_reducible exact H2_) | with_reducible exact H | (rw [hy106]; exact H) | exact H
                have Ny106 := Aside0.mk hy106
                clear hy106
                by_cases c11 : y103.length + y106.length < 17592186044416
                · rw [if_pos c11] at H
                  have LMc11 := Aside0.mk c11
                  clear c11
                  obtain ⟨y110, hy110⟩ : ∃ y_ : List Int, y_ = (y103 ++ y106) := ⟨_, rfl⟩
                  replace H : (if y110.length < 17592186044416 then ((some (y110 ++ [a1] : List Int)).bind fun y113 => ((some (l0.drop (x5_1 : Int).toNat : List Int)).bind fun y116 => (if y113.length + y116.length < 17592186044416 then (some (y113 ++ y116)) else (none)))) else (none)) = some r := by first | (rw [hy110]; with_reducible exact H) | (have H2_ := (Option.bind_some _ _).symm.trans H; rw [hy110]; with_reducible exact H2_) | (have H2_ := (Option.bind_some _ _).symm.trans H; with_reducible exact H2_) | with_reducible exact H | (rw [hy110]; exact H) | exact H
                  have Ny110 := Aside0.mk hy110
                  clear hy110
                  by_cases c12 : y110.length < 17592186044416
                  · rw [if_pos c12] at H
                    have LMc12 := Aside0.mk c12
                    clear c12
                    obtain ⟨y113, hy113⟩ : ∃ y_ : List Int, y_ = (y110 ++ [a1]) := ⟨_, rfl⟩
                    replace H : ((some (l0.drop (x5_1 : Int).toNat : List Int)).bind fun y116 => (if y113.length + y116.length < 17592186044416 then (some (y113 ++ y116)) else (none))) = some r := by first | (rw [hy113]; with_reducible exact H) | (have H2_ := (Option.bind_some _ _).symm.trans H; rw [hy113]; with_reducible exact H2_) | (have H2_ := (Option.bind_some _ _).symm.trans H; with_reducible exact H2_) | with_reducible exact H | (rw [hy113]; exact H) | exact H
                    have Ny113 := Aside0.mk hy113
                    clear hy113
                    have c13b0 := eq_true (of_decide_eq_true (by first | (with_reducible assumption) | assumption) : 0 ≤ x5_1)
                    have c14b0 := eq_true (of_decide_eq_true (by first | (with_reducible assumption) | assumption) : x5_1 ≤ (l0.length : Int))
                    obtain ⟨y116, hy116⟩ : ∃ y_ : List Int, y_ = (l0.drop (x5_1 : Int).toNat) := ⟨_, rfl⟩
                    replace H : (if y113.length + y116.length < 17592186044416 then (some (y113 ++ y116)) else (none)) = some r := by first | (rw [hy116]; with_reducible exact H) | (have H2_ := (Option.bind_some _ _).symm.trans H; rw [hy116]; with_reducible exact H2_) | (have H2_ := (Option.bind_some _ _).symm.trans H; with_reducible exact H2_) | with_reducible exact H | (rw [hy116]; exact H) | exact H
                    have Ny116 := Aside0.mk hy116
                    clear hy116
                    by_cases c15 : y113.length + y116.length < 17592186044416
                    · rw [if_pos c15] at H
                      have LMc15 := Aside0.mk c15
                      clear c15
                      obtain ⟨y120, hy120⟩ : ∃ y_ : List Int, y_ = (y113 ++ y116) := ⟨_, rfl⟩
                      replace H : (some y120) = some r := by first | (rw [hy120]; with_reducible exact H) | (have H2_ := (Option.bind_some _ _).symm.trans H; rw [hy120]; with_reducible exact H2_) | (have H2_ := (Option.bind_some _ _).symm.trans H; with_reducible exact H2_) | with_reducible exact H | (rw [hy120]; exact H) | exact H
                      have Ny120 := Aside0.mk hy120
                      clear hy120
                      obtain rfl := Option.some.inj H
                      obtain ⟨Ao16, co16, eo16⟩ := Kd.R_slice HO_0.out
                      subst eo16
                      have p101 : 0 ≤ (x5_1 : Int) := of_decide_eq_true (by first | (with_reducible assumption) | assumption)
                      have q101 : x5_1 < (l0.length : Int) := of_decide_eq_true (by first | (with_reducible assumption) | assumption)
                      obtain ⟨ad101, e101, hx101_0⟩ := Kd.at_int (Kd.R_reads' HO_0.out).2.2 x5_1 p101 q101
                      cases e101
                      replace p101 := eq_true p101
                      replace q101 := eq_true q101
                      have p102 : 0 ≤ (x5_1 : Int) := of_decide_eq_true (by first | (with_reducible assumption) | assumption)
                      have q102 : x5_1 < (l0.length : Int) := of_decide_eq_true (by first | (with_reducible assumption) | assumption)
                      obtain ⟨ad102, e102, hx102_0⟩ := Kd.at_int (Kd.R_reads' HO_0.out).2.2 x5_1 p102 q102
                      obtain rfl : ad101 = ad102 := (by injection e102)
                      replace p102 := eq_true p102
                      replace q102 := eq_true q102
                      go_wp2_with (first | ((with_reducible refine gate_dst (N := 34) rfl ?_); refine Kd.R_lit (Kd.int .i64) _ 3 ?hg (N := 34) ?hd (xs := ([] : List Int)) (inner := []) (ok := fun _ => True) (okp := fun _ => True) ?hr ?hp (fun _ hk => hk) trivial (Below.refl _ _) (Nat.le_refl _) (by simp) ?_; (case hd => rfl); (case hg => rfl); (case hr => first | (go_simp; done) | (go_simp; rfl)); (case hp => exact (Reps.none _ _)); intro v104 w17 ho18 hb hg_ hnew_; clear hg_ hnew_; (first | rw [← Ny103.out] at ho18 | (simp only [Int.reduceToNat] at ho18; rw [← Ny103.out] at ho18)); have n0_ := Aside0.mk (Kd.R_elder' (by (with_reducible repeat (first | apply Kd.R_alloc | apply Kd.R_drewN | apply Kd.R_drew)); exact HO_0.out) (Kd.R_base ho18) hb); have n1_ := Aside0.mk (Kd.R_lower (Kd.R_new' (Kd.R_newM (M := fun k_ => (P0_ k_ ∨ w.heap.size ≤ k_)) ho18 (by first | exact HK.out.1 | exact (show Kept w _ (fun k_ => P0_ k_) from by repeat (first | (with_reducible first | exact HK.out | apply Kept.alloc | apply Kept.drewN | apply Kept.drew) | exact HK.out)).1) (fun k_ h_ => .inr h_)) (Kd.R_lt (by (with_reducible repeat (first | apply Kd.R_alloc | apply Kd.R_drewN | apply Kd.R_drew)); exact HO_0.out))) (below_size (by repeat (first | (with_reducible first | exact HB.out | apply below_alloc | apply pw_below_drewN | apply below_drew1) | exact HB.out)))); have n2_ := Aside0.mk (Kept.below (S := (fun k_ => P0_ k_)) (by repeat (first | (with_reducible first | exact HK.out | apply Kept.alloc | apply Kept.drewN | apply Kept.drew) | exact HK.out)) hb); have n3_ := Aside0.mk (below_step (by repeat (first | (with_reducible first | exact HB.out | apply below_alloc | apply pw_below_drewN | apply below_drew1) | exact HB.out)) hb); clear HO_0; clear HK; clear HB; have HO_0 := n0_; have HO105 := n1_; have HK := n2_; have HB := n3_; clear n0_ n1_ n2_ n3_; clear hb ho18; have q19 : (x5_1 : Int) ≤ ((l0.length : Int) : Int) := of_decide_eq_true (by first | (with_reducible assumption) | assumption); obtain ⟨i019, hi019, _, hsz19, _⟩ := info_parts info3; have hroom19 : l0.length ≤ co16 := (Kd.R_reads' HO_0.out).2.1; have hC19 : Kd.C (Kd.int .i64) _ (some ad101) l0.length l0 := (Kd.R_reads' HO_0.out).2.2; have hcut19 := cut_to (P := Try.prog) 34 3 .i64 Try.underlying34 hi019 (some ad101) l0.length co16 x5_1 (of_decide_eq_true (by first | (with_reducible assumption) | assumption)) q19 hroom19; have hr19 := Kd.C_take (m := (x5_1 : Int).toNat) hC19 (by omega); have hy19 : y106.length = (x5_1 : Int).toNat := (by rw [Ny106.out, List.length_take]; omega); rw [← Ny106.out] at hr19; rw [← hy19] at hcut19; have HR109 := Aside0.mk hr19; have HC109 := Aside0.mk (show y106.length ≤ co16 from by omega); clear hr19 hC19 hroom19 hi019 hsz19; have KY19 := Aside0.mk hy19; clear hy19; have KL19 := Aside0.mk (show (x5_1 : Int).toNat ≤ l0.length from by omega); replace q19 := eq_true q19) | ((with_reducible refine gate_builtin (b := .append) (xs := #[.tmp 34, .tmp 37]) rfl ?_); at_builtin; refine Kd.R_append_rows (Kd.int .i64) (w0 := w0) w0.heap.size rfl (.tmp 34) (.tmp 37) 34 3 (.int .i64 0) 8 rfl Try.underlying34 info3 rfl (by decide) (by omega) v104 y103 y106 _ _ _ (fun k_ => (P0_ k_ ∨ w.heap.size ≤ k_) ∧ some k_ ≠ (.slice (some ad101) l0.length co16 : Value).ownBlock) (fun _ => False) rfl rfl ?aO ?aR (fun _ _ h => h) (fun _ h => h.elim) ?aF ?aB ?aS ?aL ?_; (case aR => repeat (first | exact (by repeat (first | (with_reducible exact HR109.out) | (with_reducible refine Kd.C_alloc ?_ _) | (with_reducible refine Kd.C_drewN ?_ _) | (with_reducible refine Kd.C_drew ?_) | exact HR109.out)) | (with_reducible refine Kd.C_alloc ?_ _) | (with_reducible refine Kd.C_drewN ?_ _) | (with_reducible refine Kd.C_drew ?_))); (case aB => exact (by repeat (first | (with_reducible first | exact HB.out | apply below_alloc | apply pw_below_drewN | apply below_drew1) | exact HB.out))); (case aF => exact (fun k_ hk => ⟨(.inr (Nat.le_trans (by first | exact HK.out.1 | exact (show Kept w _ (fun k_ => P0_ k_) from by repeat (first | (with_reducible first | exact HK.out | apply Kept.alloc | apply Kept.drewN | apply Kept.drew) | exact HK.out)).1) hk)), Kd.fresh' (Kd.R_lt (by (with_reducible repeat (first | apply Kd.R_alloc | apply Kd.R_drewN | apply Kd.R_drew)); exact HO_0.out)) k_ hk⟩)); (case aO => exact (by (with_reducible repeat (first | apply Kd.R_alloc | apply Kd.R_drewN | apply Kd.R_drew)); exact Kd.R_mono HO105.out (fun _ hk => ⟨hk.1.1, hk.2⟩))); (case aS => exact (below_size (by repeat (first | (with_reducible first | exact HB.out | apply below_alloc | apply pw_below_drewN | apply below_drew1) | exact HB.out)))); (case aL => have := LMc11.out; omega); intro v111 w20 ho hb hg hat; rw [← Ny110.out] at ho; have n0_ := Aside0.mk (Kd.R_after (ok := (fun k_ => (P0_ k_ ∨ w.heap.size ≤ k_))) (by (with_reducible repeat (first | apply Kd.R_alloc | apply Kd.R_drewN | apply Kd.R_drew)); exact HO_0.out) hg hat); have n1_ := Aside0.mk (hb); have n2_ := Aside0.mk (Kept.of_grown (S := (fun k_ => P0_ k_)) hg (by repeat (first | (with_reducible first | exact HK.out | apply Kept.alloc | apply Kept.drewN | apply Kept.drew) | exact HK.out)) (fun k_ e_ => (HO105.out.1 k_ e_).1.1)); have n3_ := Aside0.mk ((show Kd.C (Kd.int .i64) w20 (some ad101) y106.length y106 from by rw [Ny106.out]; exact Kd.C_take (m := (x5_1 : Int).toNat) ((Kd.R_reads' (Kd.R_after (ok := (fun k_ => (P0_ k_ ∨ w.heap.size ≤ k_))) (by (with_reducible repeat (first | apply Kd.R_alloc | apply Kd.R_drewN | apply Kd.R_drew)); exact HO_0.out) hg hat)).2.2) KL19.out)); have n4_ := Aside0.mk (ho); clear HO_0; clear HB; clear HK; clear HR109; clear HO105; have HO_0 := n0_; have HB := n1_; have HK := n2_; have HR109 := n3_; have HO112 := n4_; clear n0_ n1_ n2_ n3_ n4_; clear ho hb hg hat) | ((with_reducible refine gate_builtin (b := .append) (xs := #[.tmp 39, .tmp 41]) rfl ?_); at_builtin; refine Kd.R_append (Kd.int .i64) (w0 := w0) w0.heap.size rfl (.tmp 39) (.tmp 41) 34 3 (.int .i64 0) 8 rfl Try.underlying34 info3 rfl (by decide) (by omega) v111 y110 a1 [.int .i64 a1] (fun k_ => (P0_ k_ ∨ w.heap.size ≤ k_) ∧ some k_ ≠ (.slice (some ad101) l0.length co16 : Value).ownBlock) (fun _ => False) rfl rfl ?aP (fun _ hk => hk.elim) ?aF ?aO ?aB ?aS ?aL ?_; (case aP => exact rfl); (case aB => exact (by repeat (first | (with_reducible first | exact HB.out | apply below_alloc | apply pw_below_drewN | apply below_drew1) | exact HB.out))); (case aF => exact (fun k_ hk => ⟨(.inr (Nat.le_trans (by first | exact HK.out.1 | exact (show Kept w _ (fun k_ => P0_ k_) from by repeat (first | (with_reducible first | exact HK.out | apply Kept.alloc | apply Kept.drewN | apply Kept.drew) | exact HK.out)).1) hk)), Kd.fresh' (Kd.R_lt (by (with_reducible repeat (first | apply Kd.R_alloc | apply Kd.R_drewN | apply Kd.R_drew)); exact HO_0.out)) k_ hk⟩)); (case aO => exact (by (with_reducible repeat (first | apply Kd.R_alloc | apply Kd.R_drewN | apply Kd.R_drew)); exact HO112.out)); (case aS => exact (below_size (by repeat (first | (with_reducible first | exact HB.out | apply below_alloc | apply pw_below_drewN | apply below_drew1) | exact HB.out)))); (case aL => have := LMc12.out; omega); intro v114 w21 ho hb hg hat; rw [← Ny113.out] at ho; have n0_ := Aside0.mk (Kd.R_after (ok := (fun k_ => (P0_ k_ ∨ w.heap.size ≤ k_))) (by (with_reducible repeat (first | apply Kd.R_alloc | apply Kd.R_drewN | apply Kd.R_drew)); exact HO_0.out) hg hat); have n1_ := Aside0.mk (hb); have n2_ := Aside0.mk (Kept.of_grown (S := (fun k_ => P0_ k_)) hg (by repeat (first | (with_reducible first | exact HK.out | apply Kept.alloc | apply Kept.drewN | apply Kept.drew) | exact HK.out)) (fun k_ e_ => (HO112.out.1 k_ e_).1)); have n3_ := Aside0.mk ((show Kd.C (Kd.int .i64) w21 (some ad101) y106.length y106 from by rw [Ny106.out]; exact Kd.C_take (m := (x5_1 : Int).toNat) ((Kd.R_reads' (Kd.R_after (ok := (fun k_ => (P0_ k_ ∨ w.heap.size ≤ k_))) (by (with_reducible repeat (first | apply Kd.R_alloc | apply Kd.R_drewN | apply Kd.R_drew)); exact HO_0.out) hg hat)).2.2) KL19.out)); have n4_ := Aside0.mk (ho); clear HO_0; clear HB; clear HK; clear HR109; clear HO112; have HO_0 := n0_; have HB := n1_; have HK := n2_; have HR109 := n3_; have HO115 := n4_; clear n0_ n1_ n2_ n3_ n4_; clear ho hb hg hat; have q22 : (x5_1 : Int) ≤ ((l0.length : Int) : Int) := of_decide_eq_true (by first | (with_reducible assumption) | assumption); obtain ⟨i022, hi022, _, hsz22, _⟩ := info_parts info3; have hroom22 : l0.length ≤ co16 := (Kd.R_reads' HO_0.out).2.1; have hC22 : Kd.C (Kd.int .i64) _ (some ad101) l0.length l0 := (Kd.R_reads' HO_0.out).2.2; have q022 : (0 : Int) ≤ (x5_1 : Int) := of_decide_eq_true (by first | (with_reducible assumption) | assumption); have hcut22 := cut_from (P := Try.prog) 34 3 .i64 Try.underlying34 hi022 1 hsz22 (some ad101) l0.length co16 x5_1 q022 q22; have hr22 := Kd.C_drop (m := (x5_1 : Int).toNat) (c := co16) hC22 (by omega) hroom22; obtain ⟨A22, hA22⟩ : ∃ A1, A1 = (if co16 = (x5_1 : Int).toNat then (some ad101) else ((some ad101) : Option Addr).map (·.add ((x5_1 : Int).toNat * 1))) := ⟨_, rfl⟩; obtain ⟨c22, hc22⟩ : ∃ c1, c1 = co16 - (x5_1 : Int).toNat := ⟨_, rfl⟩; have hy22 : y116.length = l0.length - (x5_1 : Int).toNat := (by rw [Ny116.out, List.length_drop] <;> omega); rw [show (l0).drop (x5_1 : Int).toNat = y116 from Ny116.out.symm] at hr22; replace hr22 : Kd.C (Kd.int .i64) _ A22 y116.length y116 := (by rw [hA22]; exact hr22); rw [← hy22, ← hA22, ← hc22] at hcut22; have HR119 := Aside0.mk hr22; have HC119 := Aside0.mk (show y116.length ≤ c22 from by rw [hy22, hc22]; exact Nat.sub_le_sub_right hroom22 _); clear hr22 hC22 hroom22 hi022 hsz22 hc22; have KY22 := Aside0.mk hy22; have KA22 := Aside0.mk hA22; clear hy22 hA22; have KL22 := Aside0.mk (show (x5_1 : Int).toNat ≤ l0.length from by omega); replace q22 := eq_true q22) | ((with_reducible refine gate_builtin (b := .append) (xs := #[.tmp 43, .tmp 46]) rfl ?_); at_builtin; refine Kd.R_append_rows (Kd.int .i64) (w0 := w0) w0.heap.size rfl (.tmp 43) (.tmp 46) 34 3 (.int .i64 0) 8 rfl Try.underlying34 info3 rfl (by decide) (by omega) v114 y113 y116 _ _ _ (fun k_ => (P0_ k_ ∨ w.heap.size ≤ k_) ∧ some k_ ≠ (.slice (some ad101) l0.length co16 : Value).ownBlock) (fun _ => False) rfl rfl ?aO ?aR (fun _ _ h => h) (fun _ h => h.elim) ?aF ?aB ?aS ?aL ?_; (case aR => repeat (first | exact (by repeat (first | (with_reducible exact HR119.out) | (with_reducible refine Kd.C_alloc ?_ _) | (with_reducible refine Kd.C_drewN ?_ _) | (with_reducible refine Kd.C_drew ?_) | exact HR119.out)) | (with_reducible refine Kd.C_alloc ?_ _) | (with_reducible refine Kd.C_drewN ?_ _) | (with_reducible refine Kd.C_drew ?_))); (case aB => exact (by repeat (first | (with_reducible first | exact HB.out | apply below_alloc | apply pw_below_drewN | apply below_drew1) | exact HB.out))); (case aF => exact (fun k_ hk => ⟨(.inr (Nat.le_trans (by first | exact HK.out.1 | exact (show Kept w _ (fun k_ => P0_ k_) from by repeat (first | (with_reducible first | exact HK.out | apply Kept.alloc | apply Kept.drewN | apply Kept.drew) | exact HK.out)).1) hk)), Kd.fresh' (Kd.R_lt (by (with_reducible repeat (first | apply Kd.R_alloc | apply Kd.R_drewN | apply Kd.R_drew)); exact HO_0.out)) k_ hk⟩)); (case aO => exact (by (with_reducible repeat (first | apply Kd.R_alloc | apply Kd.R_drewN | apply Kd.R_drew)); exact HO115.out)); (case aS => exact (below_size (by repeat (first | (with_reducible first | exact HB.out | apply below_alloc | apply pw_below_drewN | apply below_drew1) | exact HB.out)))); (case aL => have := LMc15.out; omega); intro v121 w23 ho hb hg hat; rw [← Ny120.out] at ho; have n0_ := Aside0.mk (Kd.R_after (ok := (fun k_ => (P0_ k_ ∨ w.heap.size ≤ k_))) (by (with_reducible repeat (first | apply Kd.R_alloc | apply Kd.R_drewN | apply Kd.R_drew)); exact HO_0.out) hg hat); have n1_ := Aside0.mk (hb); have n2_ := Aside0.mk (Kept.of_grown (S := (fun k_ => P0_ k_)) hg (by repeat (first | (with_reducible first | exact HK.out | apply Kept.alloc | apply Kept.drewN | apply Kept.drew) | exact HK.out)) (fun k_ e_ => (HO115.out.1 k_ e_).1)); have n3_ := Aside0.mk ((show Kd.C (Kd.int .i64) w23 (some ad101) y106.length y106 from by rw [Ny106.out]; exact Kd.C_take (m := (x5_1 : Int).toNat) ((Kd.R_reads' (Kd.R_after (ok := (fun k_ => (P0_ k_ ∨ w.heap.size ≤ k_))) (by (with_reducible repeat (first | apply Kd.R_alloc | apply Kd.R_drewN | apply Kd.R_drew)); exact HO_0.out) hg hat)).2.2) KL19.out)); have n4_ := Aside0.mk ((show Kd.C (Kd.int .i64) w23 A22 y116.length y116 from by rw [Ny116.out, KA22.out]; exact Kd.C_drop (m := (x5_1 : Int).toNat) (c := co16) ((Kd.R_reads' (Kd.R_after (ok := (fun k_ => (P0_ k_ ∨ w.heap.size ≤ k_))) (by (with_reducible repeat (first | apply Kd.R_alloc | apply Kd.R_drewN | apply Kd.R_drew)); exact HO_0.out) hg hat)).2.2) KL22.out ((Kd.R_reads' (Kd.R_after (ok := (fun k_ => (P0_ k_ ∨ w.heap.size ≤ k_))) (by (with_reducible repeat (first | apply Kd.R_alloc | apply Kd.R_drewN | apply Kd.R_drew)); exact HO_0.out) hg hat)).2.1))); have n5_ := Aside0.mk (ho); clear HO_0; clear HB; clear HK; clear HR109; clear HR119; clear HO115; have HO_0 := n0_; have HB := n1_; have HK := n2_; have HR109 := n3_; have HR119 := n4_; have HO122 := n5_; clear n0_ n1_ n2_ n3_ n4_ n5_; clear ho hb hg hat))
                      go_ret
                      exact ⟨_, by first | rfl | (simp [errW_none, errW_some] <;> rfl) | (simp [*, errW_none, errW_some] <;> rfl), by (with_reducible repeat (first | apply Kd.R_alloc | apply Kd.R_drewN | apply Kd.R_drew)); exact Kd.R_mono HO122.out (fun _ hk => hk.1), by repeat (first | (with_reducible first | exact HB.out | apply below_alloc | apply pw_below_drewN | apply below_drew1) | exact HB.out), by repeat (first | (with_reducible first | exact HK.out | apply Kept.alloc | apply Kept.drewN | apply Kept.drew) | exact HK.out)⟩
                    · rw [if_neg c15] at H
                      exact absurd H (by simp)
                  · rw [if_neg c12] at H
                    exact absurd H (by simp)
                · rw [if_neg c11] at H
                  exact absurd H (by simp)
              · rw [if_neg c10] at H
                exact absurd H (by simp)
        · rw [if_neg c4] at H
          exact absurd H (by simp)
      · rw [if_neg c3] at H
        have c3b0 : decide (x5_1 < (l0.length : Int)) = false := decide_eq_false c3
        clear c3
        obtain ⟨y123, hy123⟩ : ∃ y_ : List Int, y_ = (([] : List Int)) := ⟨_, rfl⟩
        replace H : (if 0 ≤ x5_1 then (if x5_1 ≤ (l0.length : Int) then ((some (l0.take (x5_1 : Int).toNat : List Int)).bind fun y126 => (if y123.length + y126.length < 17592186044416 then ((some (y123 ++ y126 : List Int)).bind fun y130 => (if y130.length < 17592186044416 then ((some (y130 ++ [a1] : List Int)).bind fun y133 => ((some (l0.drop (x5_1 : Int).toNat : List Int)).bind fun y136 => (if y133.length + y136.length < 17592186044416 then (some (y133 ++ y136)) else (none)))) else (none))) else (none))) else (none)) else (none)) = some r := by first | (rw [hy123]; with_reducible exact H) | (have H2_ := (Option.bind_some _ _).symm.trans H; rw [hy123]; with_reducible exact H2_) | (have H2_ := (Option.bind_some _ _).symm.trans H; with_reducible exact H2_) | with_reducible exact H | (rw [hy123]; exact H) | exact H
        have Ny123 := Aside0.mk hy123
        clear hy123
        by_cases c24 : 0 ≤ x5_1
        · rw [if_pos c24] at H
          have c24b0 := eq_true c24
          have c24b1 : decide (0 ≤ x5_1) = true := decide_eq_true c24
          clear c24
          by_cases c25 : x5_1 ≤ (l0.length : Int)
          · rw [if_pos c25] at H
            have c25b0 := eq_true c25
            have c25b1 : decide (x5_1 ≤ (l0.length : Int)) = true := decide_eq_true c25
            clear c25
            obtain ⟨y126, hy126⟩ : ∃ y_ : List Int, y_ = (l0.take (x5_1 : Int).toNat) := ⟨_, rfl⟩
            replace H : (if y123.length + y126.length < 17592186044416 then ((some (y123 ++ y126 : List Int)).bind fun y130 => (if y130.length < 17592186044416 then ((some (y130 ++ [a1] : List Int)).bind fun y133 => ((some (l0.drop (x5_1 : Int).toNat : List Int)).bind fun y136 => (if y133.length + y136.length < 17592186044416 then (some (y133 ++ y136)) else (none)))) else (none))) else (none)) = some r := by first | (rw [hy126]; with_reducible exact H) | (have H2_ := (Option.bind_some _ _).symm.trans H; rw [hy126]; with_reducible exact H2_) | (have H2_ := (Option.bind_some _ _).symm.trans H; with_reducible exact H2_) | with_reducible exact H | (rw [hy126]; exact H) | exact H
            have Ny126 := Aside0.mk hy126
            clear hy126
            by_cases c26 : y123.length + y126.length < 17592186044416
            · rw [if_pos c26] at H
              have LMc26 := Aside0.mk c26
              clear c26
              obtain ⟨y130, hy130⟩ : ∃ y_ : List Int, y_ = (y123 ++ y126) := ⟨_, rfl⟩
              replace H : (if y130.length < 17592186044416 then ((some (y130 ++ [a1] : List Int)).bind fun y133 => ((some (l0.drop (x5_1 : Int).toNat : List Int)).bind fun y136 => (if y133.length + y136.length < 17592186044416 then (some (y133 ++ y136)) else (none)))) else (none)) = some r := by first | (rw [hy130]; with_reducible exact H) | (have H2_ := (Option.bind_some _ _).symm.trans H; rw [hy130]; with_reducible exact H2_) | (have H2_ := (Option.bind_some _ _).symm.trans H; with_reducible exact H2_) | with_reducible exact H | (rw [hy130]; exact H) | exact H
              have Ny130 := Aside0.mk hy130
              clear hy130
              by_cases c27 : y130.length < 17592186044416
              · rw [if_pos c27] at H
                have LMc27 := Aside0.mk c27
                clear c27
                obtain ⟨y133, hy133⟩ : ∃ y_ : List Int, y_ = (y130 ++ [a1]) := ⟨_, rfl⟩
                replace H : ((some (l0.drop (x5_1 : Int).toNat : List Int)).bind fun y136 => (if y133.length + y136.length < 17592186044416 then (some (y133 ++ y136)) else (none))) = some r := by first | (rw [hy133]; with_reducible exact H) | (have H2_ := (Option.bind_some _ _).symm.trans H; rw [hy133]; with_reducible exact H2_) | (have H2_ := (Option.bind_some _ _).symm.trans H; with_reducible exact H2_) | with_reducible exact H | (rw [hy133]; exact H) | exact H
                have Ny133 := Aside0.mk hy133
                clear hy133
                have c28b0 := eq_true (of_decide_eq_true (by first | (with_reducible assumption) | assumption) : 0 ≤ x5_1)
                have c29b0 := eq_true (of_decide_eq_true (by first | (with_reducible assumption) | assumption) : x5_1 ≤ (l0.length : Int))
                obtain ⟨y136, hy136⟩ : ∃ y_ : List Int, y_ = (l0.drop (x5_1 : Int).toNat) := ⟨_, rfl⟩
                replace H : (if y133.length + y136.length < 17592186044416 then (some (y133 ++ y136)) else (none)) = some r := by first | (rw [hy136]; with_reducible exact H) | (have H2_ := (Option.bind_some _ _).symm.trans H; rw [hy136]; with_reducible exact H2_) | (have H2_ := (Option.bind_some _ _).symm.trans H; with_reducible exact H2_) | with_reducible exact H | (rw [hy136]; exact H) | exact H
                have Ny136 := Aside0.mk hy136
                clear hy136
                by_cases c30 : y133.length + y136.length < 17592186044416
                · rw [if_pos c30] at H
                  have LMc30 := Aside0.mk c30
                  clear c30
                  obtain ⟨y140, hy140⟩ : ∃ y_ : List Int, y_ = (y133 ++ y136) := ⟨_, rfl⟩
                  replace H : (some y140) = some r := by first | (rw [hy140]; with_reducible exact H) | (have H2_ := (Option.bind_some _ _).symm.trans H; rw [hy140]; with_reducible exact H2_) | (have H2_ := (Option.bind_some _ _).symm.trans H; with_reducible exact H2_) | with_reducible exact H | (rw [hy140]; exact H) | exact H
                  have Ny140 := Aside0.mk hy140
                  clear hy140
                  obtain rfl := Option.some.inj H
                  obtain ⟨Ao31, co31, eo31⟩ := Kd.R_slice HO_0.out
                  subst eo31
                  go_wp2_with (first | ((with_reducible refine gate_dst (N := 34) rfl ?_); refine Kd.R_lit (Kd.int .i64) _ 3 ?hg (N := 34) ?hd (xs := ([] : List Int)) (inner := []) (ok := fun _ => True) (okp := fun _ => True) ?hr ?hp (fun _ hk => hk) trivial (Below.refl _ _) (Nat.le_refl _) (by simp) ?_; (case hd => rfl); (case hg => rfl); (case hr => first | (go_simp; done) | (go_simp; rfl)); (case hp => exact (Reps.none _ _)); intro v124 w32 ho33 hb hg_ hnew_; clear hg_ hnew_; (first | rw [← Ny123.out] at ho33 | (simp only [Int.reduceToNat] at ho33; rw [← Ny123.out] at ho33)); have n0_ := Aside0.mk (Kd.R_elder' (by (with_reducible repeat (first | apply Kd.R_alloc | apply Kd.R_drewN | apply Kd.R_drew)); exact HO_0.out) (Kd.R_base ho33) hb); have n1_ := Aside0.mk (Kd.R_lower (Kd.R_new' (Kd.R_newM (M := fun k_ => (P0_ k_ ∨ w.heap.size ≤ k_)) ho33 (by first | exact HK.out.1 | exact (show Kept w _ (fun k_ => P0_ k_) from by repeat (first | (with_reducible first | exact HK.out | apply Kept.alloc | apply Kept.drewN | apply Kept.drew) | exact HK.out)).1) (fun k_ h_ => .inr h_)) (Kd.R_lt (by (with_reducible repeat (first | apply Kd.R_alloc | apply Kd.R_drewN | apply Kd.R_drew)); exact HO_0.out))) (below_size (by repeat (first | (with_reducible first | exact HB.out | apply below_alloc | apply pw_below_drewN | apply below_drew1) | exact HB.out)))); have n2_ := Aside0.mk (Kept.below (S := (fun k_ => P0_ k_)) (by repeat (first | (with_reducible first | exact HK.out | apply Kept.alloc | apply Kept.drewN | apply Kept.drew) | exact HK.out)) hb); have n3_ := Aside0.mk (below_step (by repeat (first | (with_reducible first | exact HB.out | apply below_alloc | apply pw_below_drewN | apply below_drew1) | exact HB.out)) hb); clear HO_0; clear HK; clear HB; have HO_0 := n0_; have HO125 := n1_; have HK := n2_; have HB := n3_; clear n0_ n1_ n2_ n3_; clear hb ho33; have q34 : (x5_1 : Int) ≤ ((l0.length : Int) : Int) := of_decide_eq_true (by first | (with_reducible assumption) | assumption); obtain ⟨i034, hi034, _, hsz34, _⟩ := info_parts info3; have hroom34 : l0.length ≤ co31 := (Kd.R_reads' HO_0.out).2.1; have hC34 : Kd.C (Kd.int .i64) _ Ao31 l0.length l0 := (Kd.R_reads' HO_0.out).2.2; have hcut34 := cut_to (P := Try.prog) 34 3 .i64 Try.underlying34 hi034 Ao31 l0.length co31 x5_1 (of_decide_eq_true (by first | (with_reducible assumption) | assumption)) q34 hroom34; have hr34 := Kd.C_take (m := (x5_1 : Int).toNat) hC34 (by omega); have hy34 : y126.length = (x5_1 : Int).toNat := (by rw [Ny126.out, List.length_take]; omega); rw [← Ny126.out] at hr34; rw [← hy34] at hcut34; have HR129 := Aside0.mk hr34; have HC129 := Aside0.mk (show y126.length ≤ co31 from by omega); clear hr34 hC34 hroom34 hi034 hsz34; have KY34 := Aside0.mk hy34; clear hy34; have KL34 := Aside0.mk (show (x5_1 : Int).toNat ≤ l0.length from by omega); replace q34 := eq_true q34) | ((with_reducible refine gate_builtin (b := .append) (xs := #[.tmp 34, .tmp 37]) rfl ?_); at_builtin; refine Kd.R_append_rows (Kd.int .i64) (w0 := w0) w0.heap.size rfl (.tmp 34) (.tmp 37) 34 3 (.int .i64 0) 8 rfl Try.underlying34 info3 rfl (by decide) (by omega) v124 y123 y126 _ _ _ (fun k_ => (P0_ k_ ∨ w.heap.size ≤ k_) ∧ some k_ ≠ (.slice Ao31 l0.length co31 : Value).ownBlock) (fun _ => False) rfl rfl ?aO ?aR (fun _ _ h => h) (fun _ h => h.elim) ?aF ?aB ?aS ?aL ?_; (case aR => repeat (first | exact (by repeat (first | (with_reducible exact HR129.out) | (with_reducible refine Kd.C_alloc ?_ _) | (with_reducible refine Kd.C_drewN ?_ _) | (with_reducible refine Kd.C_drew ?_) | exact HR129.out)) | (with_reducible refine Kd.C_alloc ?_ _) | (with_reducible refine Kd.C_drewN ?_ _) | (with_reducible refine Kd.C_drew ?_))); (case aB => exact (by repeat (first | (with_reducible first | exact HB.out | apply below_alloc | apply pw_below_drewN | apply below_drew1) | exact HB.out))); (case aF => exact (fun k_ hk => ⟨(.inr (Nat.le_trans (by first | exact HK.out.1 | exact (show Kept w _ (fun k_ => P0_ k_) from by repeat (first | (with_reducible first | exact HK.out | apply Kept.alloc | apply Kept.drewN | apply Kept.drew) | exact HK.out)).1) hk)), Kd.fresh' (Kd.R_lt (by (with_reducible repeat (first | apply Kd.R_alloc | apply Kd.R_drewN | apply Kd.R_drew)); exact HO_0.out)) k_ hk⟩)); (case aO => exact (by (with_reducible repeat (first | apply Kd.R_alloc | apply Kd.R_drewN | apply Kd.R_drew)); exact Kd.R_mono HO125.out (fun _ hk => ⟨hk.1.1, hk.2⟩))); (case aS => exact (below_size (by repeat (first | (with_reducible first | exact HB.out | apply below_alloc | apply pw_below_drewN | apply below_drew1) | exact HB.out)))); (case aL => have := LMc26.out; omega); intro v131 w35 ho hb hg hat; rw [← Ny130.out] at ho; have n0_ := Aside0.mk (Kd.R_after (ok := (fun k_ => (P0_ k_ ∨ w.heap.size ≤ k_))) (by (with_reducible repeat (first | apply Kd.R_alloc | apply Kd.R_drewN | apply Kd.R_drew)); exact HO_0.out) hg hat); have n1_ := Aside0.mk (hb); have n2_ := Aside0.mk (Kept.of_grown (S := (fun k_ => P0_ k_)) hg (by repeat (first | (with_reducible first | exact HK.out | apply Kept.alloc | apply Kept.drewN | apply Kept.drew) | exact HK.out)) (fun k_ e_ => (HO125.out.1 k_ e_).1.1)); have n3_ := Aside0.mk ((show Kd.C (Kd.int .i64) w35 Ao31 y126.length y126 from by rw [Ny126.out]; exact Kd.C_take (m := (x5_1 : Int).toNat) ((Kd.R_reads' (Kd.R_after (ok := (fun k_ => (P0_ k_ ∨ w.heap.size ≤ k_))) (by (with_reducible repeat (first | apply Kd.R_alloc | apply Kd.R_drewN | apply Kd.R_drew)); exact HO_0.out) hg hat)).2.2) KL34.out)); have n4_ := Aside0.mk (ho); clear HO_0; clear HB; clear HK; clear HR129; clear HO125; have HO_0 := n0_; have HB := n1_; have HK := n2_; have HR129 := n3_; have HO132 := n4_; clear n0_ n1_ n2_ n3_ n4_; clear ho hb hg hat) | ((with_reducible refine gate_builtin (b := .append) (xs := #[.tmp 39, .tmp 41]) rfl ?_); at_builtin; refine Kd.R_append (Kd.int .i64) (w0 := w0) w0.heap.size rfl (.tmp 39) (.tmp 41) 34 3 (.int .i64 0) 8 rfl Try.underlying34 info3 rfl (by decide) (by omega) v131 y130 a1 [.int .i64 a1] (fun k_ => (P0_ k_ ∨ w.heap.size ≤ k_) ∧ some k_ ≠ (.slice Ao31 l0.length co31 : Value).ownBlock) (fun _ => False) rfl rfl ?aP (fun _ hk => hk.elim) ?aF ?aO ?aB ?aS ?aL ?_; (case aP => exact rfl); (case aB => exact (by repeat (first | (with_reducible first | exact HB.out | apply below_alloc | apply pw_below_drewN | apply below_drew1) | exact HB.out))); (case aF => exact (fun k_ hk => ⟨(.inr (Nat.le_trans (by first | exact HK.out.1 | exact (show Kept w _ (fun k_ => P0_ k_) from by repeat (first | (with_reducible first | exact HK.out | apply Kept.alloc | apply Kept.drewN | apply Kept.drew) | exact HK.out)).1) hk)), Kd.fresh' (Kd.R_lt (by (with_reducible repeat (first | apply Kd.R_alloc | apply Kd.R_drewN | apply Kd.R_drew)); exact HO_0.out)) k_ hk⟩)); (case aO => exact (by (with_reducible repeat (first | apply Kd.R_alloc | apply Kd.R_drewN | apply Kd.R_drew)); exact HO132.out)); (case aS => exact (below_size (by repeat (first | (with_reducible first | exact HB.out | apply below_alloc | apply pw_below_drewN | apply below_drew1) | exact HB.out)))); (case aL => have := LMc27.out; omega); intro v134 w36 ho hb hg hat; rw [← Ny133.out] at ho; have n0_ := Aside0.mk (Kd.R_after (ok := (fun k_ => (P0_ k_ ∨ w.heap.size ≤ k_))) (by (with_reducible repeat (first | apply Kd.R_alloc | apply Kd.R_drewN | apply Kd.R_drew)); exact HO_0.out) hg hat); have n1_ := Aside0.mk (hb); have n2_ := Aside0.mk (Kept.of_grown (S := (fun k_ => P0_ k_)) hg (by repeat (first | (with_reducible first | exact HK.out | apply Kept.alloc | apply Kept.drewN | apply Kept.drew) | exact HK.out)) (fun k_ e_ => (HO132.out.1 k_ e_).1)); have n3_ := Aside0.mk ((show Kd.C (Kd.int .i64) w36 Ao31 y126.length y126 from by rw [Ny126.out]; exact Kd.C_take (m := (x5_1 : Int).toNat) ((Kd.R_reads' (Kd.R_after (ok := (fun k_ => (P0_ k_ ∨ w.heap.size ≤ k_))) (by (with_reducible repeat (first | apply Kd.R_alloc | apply Kd.R_drewN | apply Kd.R_drew)); exact HO_0.out) hg hat)).2.2) KL34.out)); have n4_ := Aside0.mk (ho); clear HO_0; clear HB; clear HK; clear HR129; clear HO132; have HO_0 := n0_; have HB := n1_; have HK := n2_; have HR129 := n3_; have HO135 := n4_; clear n0_ n1_ n2_ n3_ n4_; clear ho hb hg hat; have q37 : (x5_1 : Int) ≤ ((l0.length : Int) : Int) := of_decide_eq_true (by first | (with_reducible assumption) | assumption); obtain ⟨i037, hi037, _, hsz37, _⟩ := info_parts info3; have hroom37 : l0.length ≤ co31 := (Kd.R_reads' HO_0.out).2.1; have hC37 : Kd.C (Kd.int .i64) _ Ao31 l0.length l0 := (Kd.R_reads' HO_0.out).2.2; have q037 : (0 : Int) ≤ (x5_1 : Int) := of_decide_eq_true (by first | (with_reducible assumption) | assumption); have hcut37 := cut_from (P := Try.prog) 34 3 .i64 Try.underlying34 hi037 1 hsz37 Ao31 l0.length co31 x5_1 q037 q37; have hr37 := Kd.C_drop (m := (x5_1 : Int).toNat) (c := co31) hC37 (by omega) hroom37; obtain ⟨A37, hA37⟩ : ∃ A1, A1 = (if co31 = (x5_1 : Int).toNat then Ao31 else (Ao31 : Option Addr).map (·.add ((x5_1 : Int).toNat * 1))) := ⟨_, rfl⟩; obtain ⟨c37, hc37⟩ : ∃ c1, c1 = co31 - (x5_1 : Int).toNat := ⟨_, rfl⟩; have hy37 : y136.length = l0.length - (x5_1 : Int).toNat := (by rw [Ny136.out, List.length_drop] <;> omega); rw [show (l0).drop (x5_1 : Int).toNat = y136 from Ny136.out.symm] at hr37; replace hr37 : Kd.C (Kd.int .i64) _ A37 y136.length y136 := (by rw [hA37]; exact hr37); rw [← hy37, ← hA37, ← hc37] at hcut37; have HR139 := Aside0.mk hr37; have HC139 := Aside0.mk (show y136.length ≤ c37 from by rw [hy37, hc37]; exact Nat.sub_le_sub_right hroom37 _); clear hr37 hC37 hroom37 hi037 hsz37 hc37; have KY37 := Aside0.mk hy37; have KA37 := Aside0.mk hA37; clear hy37 hA37; have KL37 := Aside0.mk (show (x5_1 : Int).toNat ≤ l0.length from by omega); replace q37 := eq_true q37) | ((with_reducible refine gate_builtin (b := .append) (xs := #[.tmp 43, .tmp 46]) rfl ?_); at_builtin; refine Kd.R_append_rows (Kd.int .i64) (w0 := w0) w0.heap.size rfl (.tmp 43) (.tmp 46) 34 3 (.int .i64 0) 8 rfl Try.underlying34 info3 rfl (by decide) (by omega) v134 y133 y136 _ _ _ (fun k_ => (P0_ k_ ∨ w.heap.size ≤ k_) ∧ some k_ ≠ (.slice Ao31 l0.length co31 : Value).ownBlock) (fun _ => False) rfl rfl ?aO ?aR (fun _ _ h => h) (fun _ h => h.elim) ?aF ?aB ?aS ?aL ?_; (case aR => repeat (first | exact (by repeat (first | (with_reducible exact HR139.out) | (with_reducible refine Kd.C_alloc ?_ _) | (with_reducible refine Kd.C_drewN ?_ _) | (with_reducible refine Kd.C_drew ?_) | exact HR139.out)) | (with_reducible refine Kd.C_alloc ?_ _) | (with_reducible refine Kd.C_drewN ?_ _) | (with_reducible refine Kd.C_drew ?_))); (case aB => exact (by repeat (first | (with_reducible first | exact HB.out | apply below_alloc | apply pw_below_drewN | apply below_drew1) | exact HB.out))); (case aF => exact (fun k_ hk => ⟨(.inr (Nat.le_trans (by first | exact HK.out.1 | exact (show Kept w _ (fun k_ => P0_ k_) from by repeat (first | (with_reducible first | exact HK.out | apply Kept.alloc | apply Kept.drewN | apply Kept.drew) | exact HK.out)).1) hk)), Kd.fresh' (Kd.R_lt (by (with_reducible repeat (first | apply Kd.R_alloc | apply Kd.R_drewN | apply Kd.R_drew)); exact HO_0.out)) k_ hk⟩)); (case aO => exact (by (with_reducible repeat (first | apply Kd.R_alloc | apply Kd.R_drewN | apply Kd.R_drew)); exact HO135.out)); (case aS => exact (below_size (by repeat (first | (with_reducible first | exact HB.out | apply below_alloc | apply pw_below_drewN | apply below_drew1) | exact HB.out)))); (case aL => have := LMc30.out; omega); intro v141 w38 ho hb hg hat; rw [← Ny140.out] at ho; have n0_ := Aside0.mk (Kd.R_after (ok := (fun k_ => (P0_ k_ ∨ w.heap.size ≤ k_))) (by (with_reducible repeat (first | apply Kd.R_alloc | apply Kd.R_drewN | apply Kd.R_drew)); exact HO_0.out) hg hat); have n1_ := Aside0.mk (hb); have n2_ := Aside0.mk (Kept.of_grown (S := (fun k_ => P0_ k_)) hg (by repeat (first | (with_reducible first | exact HK.out | apply Kept.alloc | apply Kept.drewN | apply Kept.drew) | exact HK.out)) (fun k_ e_ => (HO135.out.1 k_ e_).1)); have n3_ := Aside0.mk ((show Kd.C (Kd.int .i64) w38 Ao31 y126.length y126 from by rw [Ny126.out]; exact Kd.C_take (m := (x5_1 : Int).toNat) ((Kd.R_reads' (Kd.R_after (ok := (fun k_ => (P0_ k_ ∨ w.heap.size ≤ k_))) (by (with_reducible repeat (first | apply Kd.R_alloc | apply Kd.R_drewN | apply Kd.R_drew)); exact HO_0.out) hg hat)).2.2) KL34.out)); have n4_ := Aside0.mk ((show Kd.C (Kd.int .i64) w38 A37 y136.length y136 from by rw [Ny136.out, KA37.out]; exact Kd.C_drop (m := (x5_1 : Int).toNat) (c := co31) ((Kd.R_reads' (Kd.R_after (ok := (fun k_ => (P0_ k_ ∨ w.heap.size ≤ k_))) (by (with_reducible repeat (first | apply Kd.R_alloc | apply Kd.R_drewN | apply Kd.R_drew)); exact HO_0.out) hg hat)).2.2) KL37.out ((Kd.R_reads' (Kd.R_after (ok := (fun k_ => (P0_ k_ ∨ w.heap.size ≤ k_))) (by (with_reducible repeat (first | apply Kd.R_alloc | apply Kd.R_drewN | apply Kd.R_drew)); exact HO_0.out) hg hat)).2.1))); have n5_ := Aside0.mk (ho); clear HO_0; clear HB; clear HK; clear HR129; clear HR139; clear HO135; have HO_0 := n0_; have HB := n1_; have HK := n2_; have HR129 := n3_; have HR139 := n4_; have HO142 := n5_; clear n0_ n1_ n2_ n3_ n4_ n5_; clear ho hb hg hat))
                  go_ret
                  exact ⟨_, by first | rfl | (simp [errW_none, errW_some] <;> rfl) | (simp [*, errW_none, errW_some] <;> rfl), by (with_reducible repeat (first | apply Kd.R_alloc | apply Kd.R_drewN | apply Kd.R_drew)); exact Kd.R_mono HO142.out (fun _ hk => hk.1), by repeat (first | (with_reducible first | exact HB.out | apply below_alloc | apply pw_below_drewN | apply below_drew1) | exact HB.out), by repeat (first | (with_reducible first | exact HK.out | apply Kept.alloc | apply Kept.drewN | apply Kept.drew) | exact HK.out)⟩
                · rw [if_neg c30] at H
                  exact absurd H (by simp)
              · rw [if_neg c27] at H
                exact absurd H (by simp)
            · rw [if_neg c26] at H
              exact absurd H (by simp)
          · rw [if_neg c25] at H
            exact absurd H (by simp)
        · rw [if_neg c24] at H
          exact absurd H (by simp)

end Go.Proofs.Ytohbdjdjjbieeaa.P

