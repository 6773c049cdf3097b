/- A part of the proof of the law FnExactSpansOf (words of the print and texts of this session, without what this law does not use). -/
import Derived.Below
import Derived.Deep.Draws
import Derived.Deep.AppendLies
import Derived.Maps.AppendAt
import Derived.OwnWalk
import Derived.Laws.BytesArg
import Derived.Laws.MakeOwn
import Derived.Laws.OwnMore
import Derived.Deep.OwnRows
import Derived.Tactics
import Derived.Lib.ConvBytes
import Derived.Laws.Slices
import Derived.WalkKit
import Derived.KernelRfl
import Derived.RowKit3
import Derived.Deep.LoopGhost
import Derived.Deep.QuietTactic
import Derived.BigQuiet
import Derived.WideLaws
import Derived.Deep.DeepCutAuto
import Derived.Deep.CutBlock
import Derived.Deep.RegionHeld3
import Derived.Laws.Rows
import Derived.Lib.AppendStr
import Derived.ArgAppend
import Derived.Laws.IdiomCopy
import Derived.RowKit
import Derived.OrdersHeld
import Derived.Laws.BitsLemmas
import Derived.Laws.StructEq
import Derived.Test.YtekoclhnfhbmeaaProg
import Derived.DataReads
import Derived.Deep.Slices
import Derived.OpenShut
import Derived.Shelf.Abstract
import Derived.StillTailTactics
import Derived.Test.YtekoclhnfhbmeaaRows
import Derived.ProofKit
import Derived.ShutString
import Derived.ChangeOld
import Derived.SizedLaws
import Derived.Test.YtekoclhnfhbmeaaTFnExactSpansOfp2
namespace Go.Proofs.Ytekoclhnfhbmeaa.P
open Go.RowKit Go.Proofs.YtekoclhnfhbmeaaW.PrintWords Go.Proofs.YtekoclhnfhbmeaaW.PrintLast Go.Proofs.YtekoclhnfhbmeaaW.PrintMore
attribute [local go_sem] max2_int min2_int max_two min_two max_three min_three max_four min_four
set_option linter.unusedVariables false
set_option linter.unusedSimpArgs false
def impl_symbolOf.f (a0 : Int) : Option (Int) := some (wrap64 ((-1) - a0))
set_option maxHeartbeats 8000000 in
set_option maxRecDepth 100000 in
theorem impl_symbolOf.calls (a0 : Int) (r : Int) (w : World) (h : impl_symbolOf.f a0 = some r) :
    Calls Try.prog 112 #[.int .i64 a0] w fun e w' => e = .returned (.int .i64 r) ∧ Drawn0 w w' := by
  have H : (some (wrap64 ((-1) - a0))) = some r := h
  clear h
  obtain rfl := Option.some.inj H
  go_enter Try.func112, Try.ntmps112
  go_wp2
  go_ret
  exact ⟨by first | rfl | (simp; done) | (simp [*]; done), by repeat (first | exact Drawn0.refl _ | apply Drawn0.step)⟩
end Go.Proofs.Ytekoclhnfhbmeaa.P
namespace Go.Proofs.Ytekoclhnfhbmeaa.P
open Go.RowKit Go.Proofs.YtekoclhnfhbmeaaW.PrintWords Go.Proofs.YtekoclhnfhbmeaaW.PrintLast Go.Proofs.YtekoclhnfhbmeaaW.PrintMore
set_option linter.unusedVariables false
set_option linter.unusedSimpArgs false
def tcs (A : Option Addr) (n c : Nat) (t : List Bool) : Array Value := (Value.slice A n c :: t.map Value.bool).toArray
theorem tcs_get {A : Option Addr} {n c : Nat} {t : List Bool} (i : Nat) (hi : i < t.length) : (tcs A n c t)[i + 1]? = some (.bool (t.getD i false)) := by
  unfold tcs
  rw [List.getElem?_toArray, List.getElem?_cons_succ, List.getElem?_map, List.getD_eq_getElem?_getD, List.getElem?_eq_getElem hi]; rfl
theorem tcs_set {A : Option Addr} {n c : Nat} {t : List Bool} (i : Nat) : (tcs A n c t).setIfInBounds (i + 1) (.bool true) = tcs A n c (t.set i true) := by
  unfold tcs
  rw [List.setIfInBounds_toArray, List.set_cons_succ, List.map_set]
def tix (x from_ z : Nat) : Nat := x * 121 + from_ * 11 + z
def tat (t : List Bool) (x from_ z : Nat) : Bool := t.getD (tix x from_ z) false
theorem tix_lt {x f m : Nat} (hx : x < 6) (hf : f ≤ 10) (hm : m ≤ 10) : tix x f m < 726 := by unfold tix; omega
def anyUp (p : Nat → Bool) (i : Nat) : Nat → Bool
  | 0 => false
  | n + 1 => p i || anyUp p (i + 1) n
def seqF (t : List Bool) (ws : List Int) : List Int → Nat → Nat → Bool
  | [], f, z => decide (f = z)
  | x :: r, f, z => if x < 0 then decide (f < z) && (decide (-1 - ws.getD f 0 = x) && seqF t ws r (f + 1) z) else anyUp (fun m => tat t x.toNat f m && seqF t ws r m z) f (z + 1 - f)
set_option maxHeartbeats 4000000 in
set_option maxRecDepth 100000 in
theorem sequence_calls (t : List Bool) (ht : t.length = 726) (gt : Nat) (A : Option Addr) (c : Nat) (ws : List Int) (hw10 : ws.length ≤ 10) (hwb : ∀ j : Nat, j < ws.length → 0 ≤ rd ws j ∧ rd ws j ≤ 3) :
    ∀ (right : List Int) (B : Option Addr) (d f z : Nat) (w : World), w.heap[gt]? = some (.cells (tcs A ws.length c t) 76 (0, 0)) → Kd.C (Kd.int .i64) w A ws.length ws → ws.length ≤ c → Kd.C (Kd.int .i64) w B right.length right → right.length ≤ d →
      (∀ x, x ∈ right → x < 6) → f ≤ z → z ≤ ws.length →
    Calls Try.prog 72 #[.pointer (some ⟨gt, 0, none⟩), .slice B right.length d, .int .i64 f, .int .i64 z] w fun e w' => e = .returned (.bool (seqF t ws right f z)) ∧ Drawn0 w w' := by
  intro right
  induction right with
  | nil =>
    intro B d f z w hT hW hc hR hd hx hft htw
    have e1 : seqF t ws [] f z = decide (f = z) := rfl
    rw [e1]
    clear hT hW hR hx e1
    have e2 : decide (f = z) = ((f : Int) == (z : Int)) := by rw [Bool.eq_iff_iff]; simp; omega
    rw [e2]
    clear e2
    show Calls Try.prog 72 #[.pointer (some ⟨gt, 0, none⟩), .slice B 0 d, .int .i64 f, .int .i64 z] w fun e w' => e = .returned (.bool ((f : Int) == (z : Int))) ∧ Drawn0 w w'
    go_enter Try.func72, Try.ntmps72
    go_wp2
    go_ret
    exact ⟨rfl, Drawn0.refl _⟩
  | cons x r ih =>
    intro B d f z w hT hW hc hR hd hx hft htw
    have hx6 := hx x List.mem_cons_self
    have e1 : seqF t ws (x :: r) f z = if x < 0 then decide (f < z) && (decide (-1 - ws.getD f 0 = x) && seqF t ws r (f + 1) z) else anyUp (fun m => tat t x.toNat f m && seqF t ws r m z) f (z + 1 - f) := rfl
    rw [e1]
    clear e1
    have IH : ∀ (B : Option Addr) (d f : Nat) (W : World), Below w.heap.size w W → Kd.C (Kd.int .i64) w B r.length r → r.length ≤ d → f ≤ z →
      Calls Try.prog 72 #[.pointer (some ⟨gt, 0, none⟩), .slice B r.length d, .int .i64 f, .int .i64 z] W fun e w' => e = .returned (.bool (seqF t ws r f z)) ∧ Drawn0 W w' := fun B d f W hb hr hd hf => ih B d f z W (blk_below hT hb) (Kd.C_below hW hb) hc (Kd.C_below hr hb) hd (fun y hy => hx y (List.mem_cons_of_mem _ hy)) hf htw
    clear ih hx
    obtain ⟨l, hl⟩ : ∃ l, l = x :: r := ⟨_, rfl⟩
    have hr : l.drop 1 = r := by rw [hl]; rfl
    have hx0 : rd l 0 = x := by rw [hl]; rfl
    have hL : 0 < l.length := by rw [hl]; simp
    rw [← hl] at hR hd ⊢
    rw [← hr] at IH ⊢
    rw [← hx0] at hx6 ⊢
    clear hl hr hx0
    generalize hs : seqF t ws (l.drop 1) = S at IH ⊢
    clear hs
    have hLi : (0 : Int) < (l.length : Int) := by omega
    have c0 : ((l.length : Int) == 0) = false := beq_eq_false_iff_ne.mpr (by omega)
    obtain ⟨ad, hB, hx1⟩ := Kd.at_int hR 0 (by omega) hLi
    cases hB
    have qi : (0 < l.length) = True := eq_true hL
    (try rw [show ((0 : Int)).toNat = 0 from rfl] at hx1)
    (try rw [Addr.add_zero'] at hx1)
    obtain ⟨i0, hi0, hju1, hsz0, hju2⟩ := info_parts info3
    obtain ⟨A1, hcut, hA1, hC1⟩ := print_drop_of (P := Try.prog) (Value.int .i64) 0 37 3 .i64 Try.underlying37 hi0 hsz0 (some ad) d l 1 (by omega) (by omega) hd
    rw [show (1 : Int).toNat = 1 from rfl] at hcut hA1 hC1
    have IC := fun (f : Nat) (W : World) (hb : Below w.heap.size w W) (hf : f ≤ z) => IH A1 (d - 1) f W hb (Kd.C_of_reads (h1 := fun _ => rfl) (hA1 _ (Kd.reads_of_C hR))) hC1 hf
    have HC1 := Aside0.mk hC1
    have hdl : (l.drop 1).length = l.length - 1 := List.length_drop
    simp only [hdl] at IC hcut
    clear hdl
    have HRR := Aside0.mk hR
    have HA1 := Aside0.mk hA1
    clear hC1 hi0 hsz0 IH hju1 hju2 hLi hR hA1
    have HW := Aside0.mk hW
    clear hW
    have hw0 : w.cell? ⟨gt, 0, none⟩ = some (.slice A ws.length c) := (blk_cell hT 0).trans rfl
    by_cases h0 : rd l 0 < 0
    · rw [if_pos h0]
      have d0 : decide (rd l 0 < 0) = true := decide_eq_true h0
      clear h0
      have HT := Aside0.mk hT
      clear hT
      by_cases hfz : f < z
      · have d1 : decide ((f : Int) < (z : Int)) = true := decide_eq_true (by omega)
        have d1n : decide (f < z) = true := decide_eq_true hfz
        rw [decide_eq_true hfz, Bool.true_and]
        have hfw : (f : Int) < (ws.length : Int) := by omega
        obtain ⟨aw, hA, hw1⟩ := Kd.at_int HW.out (f : Int) (by omega) hfw
        cases hA
        have hb := hwb f (by omega)
        rw [Int.toNat_natCast] at hw1
        have SY : ∀ W : World, Calls Try.prog 112 #[.int .i64 (rd ws f)] W fun e w' => e = .returned (.int .i64 (-1 - rd ws f)) ∧ Drawn0 W w' := fun W => impl_symbolOf.calls _ _ W (by unfold impl_symbolOf.f; rw [w64 (by omega) (by omega)])
        have hrd : rd ws (f : Int) = ws.getD f 0 := by unfold rd; rw [Int.toNat_natCast]
        have hfl : (f < ws.length) = True := eq_true (by omega)
        have e2 : decide (-1 - ws.getD f 0 = rd l 0) = ((-1 - rd ws f : Int) == rd l 0) := by rw [hrd, Bool.eq_iff_iff]; simp
        rw [e2]
        clear e2 hrd hb
        generalize (-1 - rd ws f : Int) = y at SY ⊢
        have hf10 : (f : Int) ≤ 10 := by omega
        by_cases he : y = rd l 0
        · have d2 : (y == rd l 0) = true := beq_iff_eq.mpr he
          have HE := Aside0.mk he
          have IC2 := fun (W : World) (hb : Below w.heap.size w W) => IC (f + 1) W hb (by omega)
          rw [show (((f + 1 : Nat)) : Int) = (f : Int) + 1 by omega] at IC2
          rw [d2, Bool.true_and]
          generalize S (f + 1) z = v at IC2 ⊢
          clear he IC
          have HF := Aside0.mk hfz
          have HW10 := Aside0.mk hw10
          clear hfz hft htw hw10
          go_enter Try.func72, Try.ntmps72
          go_wp2_with (first | (go_at_call 112; (with_reducible refine (SY _).mono ?_); rintro e w' ⟨rfl, ⟨nd, rfl⟩⟩) | (go_at_call 72; (with_reducible refine (IC2 _ ?hbb).mono ?_); (case hbb => first | exact Below.refl _ _ | exact pw_below_drewN (Below.refl _ _) _); rintro e w' ⟨rfl, ⟨nd2, rfl⟩⟩))
          go_ret
          exact ⟨by first | rfl | (simp; done), by repeat (first | exact Drawn0.refl _ | apply Drawn0.step)⟩
        · have d2 : (y == rd l 0) = false := beq_eq_false_iff_ne.mpr he
          rw [d2, Bool.false_and]
          have HF := Aside0.mk hfz
          have HW10 := Aside0.mk hw10
          have HE := Aside0.mk he
          clear IC he hfz hft htw hw10
          go_enter Try.func72, Try.ntmps72
          go_wp2_with (first | (go_at_call 112; (with_reducible refine (SY _).mono ?_); rintro e w' ⟨rfl, ⟨nd, rfl⟩⟩))
          go_ret
          exact ⟨by first | rfl | (simp; done), by repeat (first | exact Drawn0.refl _ | apply Drawn0.step)⟩
      · have d1 : decide ((f : Int) < (z : Int)) = false := decide_eq_false (by omega)
        have d1n : decide (f < z) = false := decide_eq_false hfz
        rw [decide_eq_false hfz, Bool.false_and]
        clear IC hfz hft htw
        go_enter Try.func72, Try.ntmps72
        go_wp2
        go_ret
        exact ⟨rfl, Drawn0.refl _⟩
    · rw [if_neg h0]
      have d0 : decide (rd l 0 < 0) = false := decide_eq_false h0
      have hx0 : 0 ≤ rd l 0 := by omega
      obtain ⟨n, hn⟩ : ∃ n : Nat, rd l 0 = (n : Int) := ⟨(rd l 0).toNat, by omega⟩
      have hn6 : n < 6 := by omega
      have htat : ∀ m : Nat, m ≤ 10 → w.cell? ⟨gt, 1 + n * 121 + f * 11 + m, none⟩ = some (.bool (tat t n f m)) := fun m hm => by
        rw [show 1 + n * 121 + f * 11 + m = tix n f m + 1 by unfold tix; omega]
        exact (blk_cell hT _).trans (tcs_get _ (by rw [ht]; exact tix_lt hn6 (by omega) hm))
      have HT := Aside0.mk htat
      clear hT h0 hx0 htat
      rw [hn] at hx1 d0 hx6 ⊢
      rw [Int.toNat_natCast]
      clear hn
      have P := Aside0.mk (And.intro hft (And.intro htw hw10))
      clear hft htw hw10
      go_enter Try.func72, Try.ntmps72
      go_wp2
      go_loopg [10] (z + 1 - f) (fun kq v10 w' => ∃ m : Nat, v10 = .int .i64 m ∧ Aside0 (f ≤ m ∧ m ≤ z + 1 ∧ z + 1 - m ≤ kq) ∧ Aside0 (anyUp (fun m => tat t n f m && S m z) f (z + 1 - f) = anyUp (fun m => tat t n f m && S m z) m (z + 1 - m)) ∧ Drawn0 w w')
      case atStart => exact ⟨f, rfl, ⟨Nat.le_refl _, by have := P.out.1; omega, Nat.le_refl _⟩, ⟨rfl⟩, Drawn0.refl _⟩
      case round =>
        obtain ⟨m, rfl, M, E, ⟨m1, rfl⟩⟩ := hrel
        obtain ⟨p1, p2, p3⟩ := P.out
        obtain ⟨p4, p5, p6⟩ := M.out
        by_cases hm : m ≤ z
        · have dm : decide ((m : Int) ≤ (z : Int)) = true := decide_eq_true (by omega)
          have dmn : decide (m ≤ z) = true := decide_eq_true hm
          obtain ⟨q, hq⟩ : ∃ q, z + 1 - m = q + 1 := ⟨z - m, by omega⟩
          obtain ⟨g1, rfl⟩ : ∃ g1, gk = g1 + 1 := ⟨gk - 1, by omega⟩
          have eu := E.out
          rw [hq] at eu
          have e3 : anyUp (fun m => tat t n f m && S m z) m (q + 1) = ((tat t n f m && S m z) || anyUp (fun m => tat t n f m && S m z) (m + 1) q) := rfl
          rw [e3] at eu
          have hcell := HT.out m (by omega)
          have hq2 : z + 1 - (m + 1) = q := by omega
          have M1 := Aside0.mk (show f ≤ m + 1 ∧ m + 1 ≤ z + 1 ∧ z + 1 - (m + 1) ≤ g1 by omega)
          have IC2 := fun (W : World) (hb : Below w.heap.size w W) => IC m W hb hm
          have hz10 : (m : Int) ≤ 10 := by omega
          have hm11 : m < 11 := by omega
          have hf11 : f < 11 := by omega
          have HQ := Aside0.mk hq2
          clear p1 p2 p3 p4 p5 p6 hq hq2 M E e3 HT hm IC
          generalize tat t n f m = b at hcell eu
          generalize S m z = v at IC2 eu
          have EU := Aside0.mk eu
          clear eu
          cases b with
          | true =>
            cases v with
            | true =>
              go_wp2_with (first | (go_at_call 72; (with_reducible refine (IC2 _ ?hbb).mono ?_); (case hbb => first | exact Below.refl _ _ | exact pw_below_drewN (Below.refl _ _) _); rintro e w' ⟨rfl, ⟨nd2, rfl⟩⟩))
              go_ret
              exact ⟨by rw [EU.out]; rfl, by repeat (first | exact Drawn0.refl _ | apply Drawn0.step)⟩
            | false =>
              go_wp2_with (first | (go_at_call 72; (with_reducible refine (IC2 _ ?hbb).mono ?_); (case hbb => first | exact Below.refl _ _ | exact pw_below_drewN (Below.refl _ _) _); rintro e w' ⟨rfl, ⟨nd2, rfl⟩⟩))
              go_roundg g1
              case measure => omega
              case rel => exact ⟨m + 1, by go_num, M1, ⟨by rw [EU.out, show z + 1 - (m + 1) = q from HQ.out]; rfl⟩, by repeat (first | exact Drawn0.refl _ | apply Drawn0.step)⟩
          | false =>
            go_wp2
            go_roundg g1
            case measure => omega
            case rel => exact ⟨m + 1, by go_num, M1, ⟨by rw [EU.out, show z + 1 - (m + 1) = q from HQ.out]; rfl⟩, by repeat (first | exact Drawn0.refl _ | apply Drawn0.step)⟩
        · have dm : decide ((m : Int) ≤ (z : Int)) = false := decide_eq_false (by omega)
          have dmn : decide (m ≤ z) = false := decide_eq_false hm
          have e4 : z + 1 - m = 0 := by omega
          have e5 := E.out
          rw [e4] at e5
          have EU := Aside0.mk e5
          clear p1 p2 p3 p4 p5 p6 M E HT hm IC e4 e5
          go_wp2
          go_ret
          exact ⟨by rw [EU.out]; rfl, by repeat (first | exact Drawn0.refl _ | apply Drawn0.step)⟩
end Go.Proofs.Ytekoclhnfhbmeaa.P
namespace Go.Proofs.Ytekoclhnfhbmeaa.P
open Go.RowKit Go.Proofs.YtekoclhnfhbmeaaW.PrintWords Go.Proofs.YtekoclhnfhbmeaaW.PrintLast Go.Proofs.YtekoclhnfhbmeaaW.PrintMore
set_option linter.unusedVariables false
set_option linter.unusedSimpArgs false
def stepT (ws : List Int) (x : S87) (f z : Nat) (q : List Bool × Bool) : List Bool × Bool := if (!tat q.1 x.f0.toNat f z && seqF q.1 ws x.f1 f z) = true then (q.1.set (tix x.f0.toNat f z) true, true) else q
def zLoop (ws : List Int) (x : S87) (f : Nat) : Nat → Nat → List Bool × Bool → List Bool × Bool
  | 0, _, q => q
  | n + 1, z, q => zLoop ws x f n (z + 1) (stepT ws x f z q)
def fLoop (ws : List Int) (x : S87) : Nat → Nat → List Bool × Bool → List Bool × Bool
  | 0, _, q => q
  | n + 1, f, q => fLoop ws x n (f + 1) (zLoop ws x f (ws.length + 1 - f) f q)
def passT (ws : List Int) (l : List S87) (q : List Bool × Bool) : List Bool × Bool := l.foldl (fun q x => fLoop ws x (ws.length + 1) 0 q) q
def closeT (ws : List Int) (l : List S87) : Nat → List Bool → List Bool
  | 0, s => s
  | n + 1, s => if (passT ws l (s, false)).2 = true then closeT ws l n (passT ws l (s, false)).1 else (passT ws l (s, false)).1
def spansF (ws : List Int) (l : List S87) : List Bool := closeT ws l 727 (List.replicate 726 false)
theorem stepT_ok (ws x f z) (hi : tix x.f0.toNat f z < 726) (q : List Bool × Bool) (h : q.1.length = 726) : (stepT ws x f z q).1.length = 726 ∧ cntF (stepT ws x f z q).1 ≤ cntF q.1 ∧ ((stepT ws x f z q).2 = true → q.2 = true ∨ cntF (stepT ws x f z q).1 < cntF q.1) := by
  unfold stepT
  split
  · rename_i hc
    simp only [Bool.and_eq_true, Bool.not_eq_true'] at hc
    have := cntF_set q.1 (tix x.f0.toNat f z) (by omega) hc.1
    exact ⟨by rw [List.length_set]; exact h, by dsimp only; omega, fun _ => .inr (by dsimp only; omega)⟩
  · exact ⟨h, Nat.le_refl _, fun h => .inl h⟩
def CntT (s0 : List Bool) (q : List Bool × Bool) : Prop := q.1.length = 726 ∧ cntF q.1 ≤ cntF s0 ∧ (q.2 = true → cntF q.1 < cntF s0)
theorem CntT.step {s0 ws x f z q} (h : CntT s0 q) (hi : tix x.f0.toNat f z < 726) : CntT s0 (stepT ws x f z q) := by
  obtain ⟨h1, h2, h3⟩ := h
  obtain ⟨k1, k2, k3⟩ := stepT_ok ws x f z hi q h1
  exact ⟨k1, by omega, fun e => by rcases k3 e with k | k
                                   · have := h3 k; omega
                                   · omega⟩
structure Sp (w : World) (gb gt : Nat) (cb ct : Array Value) (W : World) : Prop where
  below : Below w.heap.size w W
  hb : W.heap[gb]? = some (.cells cb 28 (0, 0))
  ht : W.heap[gt]? = some (.cells ct 76 (0, 0))
  ne : gb ≠ gt
  gt_ge : w.heap.size ≤ gt
theorem Sp.go {w W V : World} {gb gt : Nat} {cb ct : Array Value} (h : Sp w gb gt cb ct W) (k : Below W.heap.size W V) : Sp w gb gt cb ct V := ⟨below_step h.below k, blk_below h.hb k, blk_below h.ht k, h.ne, h.gt_ge⟩
theorem Sp.set {w W : World} {gb gt : Nat} {cb ct : Array Value} (h : Sp w gb gt cb ct W) (j : Nat) (v : Value) : Sp w gb gt cb (ct.setIfInBounds j v) (W.setCell ⟨gt, j, none⟩ v) := ⟨below_set h.below h.gt_ge, blk_far h.hb h.ne _, blk_put h.ht j v rfl, h.ne, h.gt_ge⟩
def box2 (W : World) (a b : Value) : World := ((W.alloc (.cells #[.int .i64 0, .slice none 0 0] 87 (0, 0))).setCell ⟨W.heap.size, 0, none⟩ a).setCell ⟨W.heap.size, 1, none⟩ b
theorem tat_set {t : List Bool} {i : Nat} (h : i < t.length) : (t.set i true).getD i false = true := by rw [List.getD_eq_getElem?_getD, List.getElem?_set_self h]; rfl
theorem zero_table (v : Value) (A : Option Addr) (n c : Nat) (hv : v = .slice A n c) : Try.zeroCells76.setIfInBounds 0 v = tcs A n c (List.replicate 726 false) := by
  subst hv
  kernel_rfl
set_option maxHeartbeats 4000000 in
set_option maxRecDepth 100000 in
theorem spans_calls (a0 a1 : Int) (A : Option Addr) (c : Nat) (l : List S87) (B : Option Addr) (d : Nat) (ws : List Int) (w : World)
    (hr : Kd.C k87 w A l.length l) (hc : l.length ≤ c) (hw : Kd.C (Kd.int .i64) w B ws.length ws) (hd : ws.length ≤ d) (hok : ∀ j : Nat, j < l.length → okR6 (rd_T87 l j)) (hw10 : ws.length ≤ 10) (hwb : ∀ j : Nat, j < ws.length → 0 ≤ rd ws j ∧ rd ws j ≤ 3) :
    Calls Try.prog 67 #[.agg #[.int .i64 a0, .int .i64 a1, .slice A l.length c], .slice B ws.length d] w fun e w' => ∃ gt, e = .returned (.pointer (some ⟨gt, 0, none⟩)) ∧ w'.heap[gt]? = some (.cells (tcs B ws.length d (spansF ws l)) 76 (0, 0)) ∧ w.heap.size ≤ gt ∧ Below w.heap.size w w' := by
  have hu := Try.underlying28
  have hml : l.length ≤ 9223372036854775807 := hr.2.1
  have HR := Aside0.mk hr
  have HW := Aside0.mk hw
  have HOK := Aside0.mk hok
  have HWB := Aside0.mk hwb
  have HW10 := Aside0.mk hw10
  have HD := Aside0.mk hd
  clear hr hok hw hwb hw10 hd
  obtain ⟨fin, hfin⟩ : ∃ fin, fin = spansF ws l := ⟨_, rfl⟩
  rw [← hfin]
  have FI := Aside0.mk (show closeT ws l 727 (List.replicate 726 false) = fin by rw [hfin]; rfl)
  clear hfin
  go_enter Try.func67, Try.ntmps67
  go_upto_region 2 with (fail)
  rw [zero_table _ _ _ _ rfl]
  generalize Value.agg (tcs B ws.length d (List.replicate 726 false)) = zz
  have SP := Aside0.mk (show Sp w w.heap.size (w.heap.size + 1) #[.int .i64 a0, .int .i64 a1, .slice A l.length c] (tcs B ws.length d (List.replicate 726 false)) ((w.alloc (Obj.cells #[.int .i64 a0, .int .i64 a1, .slice A l.length c] 28)).alloc (Obj.cells (tcs B ws.length d (List.replicate 726 false)) 76)) from ⟨((Below.refl _ _).alloc (Nat.le_refl _) _).alloc (by simp) _, blk_alloc (heap_alloc_new w _) _, by have := heap_alloc_new (w.alloc (Obj.cells #[.int .i64 a0, .int .i64 a1, .slice A l.length c] 28)) (Obj.cells (tcs B ws.length d (List.replicate 726 false)) 76); simpa using this, by omega, by omega⟩)
  generalize ((w.alloc (Obj.cells #[.int .i64 a0, .int .i64 a1, .slice A l.length c] 28)).alloc (Obj.cells (tcs B ws.length d (List.replicate 726 false)) 76)) = w0 at SP ⊢
  obtain ⟨gb, hgb⟩ : ∃ gb, gb = w.heap.size := ⟨_, rfl⟩
  obtain ⟨gt, hgt⟩ : ∃ gt, gt = w.heap.size + 1 := ⟨_, rfl⟩
  rw [← hgt, ← hgb] at SP ⊢
  clear hgt hgb
  go_wp2
  go_loopg [6] 727 (fun gg s6 wr => ∃ (n : Nat) (t : List Bool) (ag : Bool), s6 = .bool ag ∧ n ≤ gg ∧ Aside0 (ag = true → cntF t < n ∧ closeT ws l n t = fin) ∧ Aside0 (ag = false → t = fin) ∧ Aside0 (t.length = 726) ∧ Aside0 (Sp w gb gt #[.int .i64 a0, .int .i64 a1, .slice A l.length c] (tcs B ws.length d t) wr))
  case atStart => exact ⟨727, _, true, rfl, Nat.le_refl _, ⟨fun _ => ⟨by decide, FI.out⟩⟩, ⟨fun h => by cases h⟩, ⟨by simp⟩, SP⟩
  case round =>
    clear SP FI
    obtain ⟨n, t, ag, rfl, hn, CT, CF, LT, SP⟩ := hrel
    cases ag with
    | false =>
      obtain rfl := CF.out rfl
      clear CT CF
      go_wp2
      go_ret
      exact ⟨gt, rfl, SP.out.ht, SP.out.gt_ge, SP.out.below⟩
    | true =>
      obtain ⟨hcn, hcl⟩ := CT.out rfl
      have CN := Aside0.mk hcn
      have CL := Aside0.mk hcl
      clear CT CF hcn hcl
      have hx2 : wr.cell? ⟨gb, 2, none⟩ = some (.slice A l.length c) := (blk_cell SP.out.hb 2).trans rfl
      have PQ := Aside0.mk (show passT ws l (t, false) = passT ws (l.drop 0) (t, false) from rfl)
      have CB := Aside0.mk (show CntT t (t, false) from ⟨LT.out, Nat.le_refl _, fun h => by cases h⟩)
      go_wp2
      clear hx2
      go_loopg [6, 18] l.length (fun gg s6 s18 wr => ∃ (kk : Nat) (q : List Bool × Bool), kk ≤ l.length ∧ l.length - kk ≤ gg ∧ s18 = .int .i64 kk ∧ s6 = .bool q.2 ∧ Aside0 (passT ws l (t, false) = passT ws (l.drop kk) q) ∧ Aside0 (CntT t q) ∧ Aside0 (Sp w gb gt #[.int .i64 a0, .int .i64 a1, .slice A l.length c] (tcs B ws.length d q.1) wr))
      case atStart => exact ⟨0, (t, false), Nat.zero_le _, by omega, rfl, rfl, PQ, CB, SP⟩
      case round =>
        clear SP PQ CB
        obtain ⟨kk, q, hkk, hg, rfl, rfl, PQ, CB, SP⟩ := hrel
        by_cases hlt : kk < l.length
        · have hd : decide (kk < l.length) = true := decide_eq_true hlt
          obtain ⟨ad, A1, c1, e, hx0, hx1, hl1, hi1⟩ := at_T87 HR.out (kk : Int) (by omega) (by omega)
          subst e
          replace hx0 := (SP.out.below.cell (World.block_lt_of_cell? w _ hx0)).trans hx0
          replace hx1 := (SP.out.below.cell (World.block_lt_of_cell? w _ hx1)).trans hx1
          have hx2 : wr.cell? (ad.add (kk * 2)) = some (.int .i64 (rd_T87 l kk).f0) := by simpa using hx0
          have hx3 : wr.cell? ⟨(ad.add (kk * 2)).block, (ad.add (kk * 2)).off + 1, none⟩ = some (.slice A1 (rd_T87 l kk).f1.length c1) := by simpa using hx1
          clear hx0 hx1
          have HI := Aside0.mk hi1
          have HL := Aside0.mk hl1
          have L := Aside0.mk hlt
          have OK := Aside0.mk (HOK.out kk hlt)
          have PD := Aside0.mk (show passT ws (l.drop kk) q = passT ws (l.drop (kk + 1)) (fLoop ws (rd_T87 l kk) (ws.length + 1) 0 q) by rw [getD_drop l kk z87 hlt]; rfl)
          clear hi1 hl1
          generalize rd_T87 l kk = y at hx2 hx3 HI HL OK PD
          obtain ⟨y0, hy⟩ : ∃ y0 : Nat, y.f0 = (y0 : Int) := ⟨y.f0.toNat, by have := OK.out.1.1; omega⟩
          have hy6 : y0 < 6 := by have := OK.out.1.2; omega
          have hyt : y.f0.toNat = y0 := by omega
          rw [hy] at hx2
          have HY := Aside0.mk hyt
          clear hy hyt
          have QF := Aside0.mk (show fLoop ws y (ws.length + 1) 0 q = fLoop ws y (ws.length + 1 - 0) 0 q from rfl)
          go_upto_region 8 with (fail)
          have SP1 := Aside0.mk (SP.out.go (V := wr.alloc (Obj.cells #[.int .i64 y0, .slice A1 y.f1.length c1] 87)) ((Below.refl _ _).alloc (Nat.le_refl _) _))
          have BR := Aside0.mk (heap_alloc_new wr (Obj.cells #[.int .i64 y0, .slice A1 y.f1.length c1] 87))
          have NR := Aside0.mk (show wr.heap.size ≠ gt from fun e => by have := blk_lt SP.out.ht; omega)
          generalize wr.alloc (Obj.cells #[.int .i64 y0, .slice A1 y.f1.length c1] 87) = w1 at SP1 BR ⊢
          generalize wr.heap.size = gr at BR NR ⊢
          clear hx2 hx3 SP hlt hd
          have HK := Aside0.mk hkk
          have HG := Aside0.mk hg
          have W10 : (ws.length : Int) ≤ 10 := by have := HW10.out; omega
          go_wp2
          go_loopg [6, 25] (ws.length + 1) (fun gg s6 s25 wf => ∃ (f : Nat) (q1 : List Bool × Bool), s25 = .int .i64 f ∧ s6 = .bool q1.2 ∧ Aside0 (f ≤ ws.length + 1 ∧ ws.length + 1 - f ≤ gg) ∧ Aside0 (fLoop ws y (ws.length + 1) 0 q = fLoop ws y (ws.length + 1 - f) f q1) ∧ Aside0 (CntT t q1) ∧ Aside0 (Sp w gb gt #[.int .i64 a0, .int .i64 a1, .slice (some ad) l.length c] (tcs B ws.length d q1.1) wf) ∧ Aside0 (wf.heap[gr]? = some (.cells #[.int .i64 y0, .slice A1 y.f1.length c1] 87 (0, 0))))
          case atStart => exact ⟨0, q, rfl, rfl, ⟨Nat.zero_le _, Nat.le_refl _⟩, QF, CB, SP1, BR⟩
          case round =>
            clear SP1 BR
            obtain ⟨f, q1, rfl, rfl, FB, FQ, CB1, SP, BR⟩ := hrel
            by_cases hf : f ≤ ws.length
            · have df : decide ((f : Int) < (ws.length : Int) + 1) = true := decide_eq_true (by omega)
              have dfn : decide (f < ws.length + 1) = true := decide_eq_true (by omega)
              have F := Aside0.mk hf
              have hf10 : (f : Int) ≤ 10 := by omega
              have hf11 : f < 11 := by omega
              clear hf
              go_wp2
              go_loopg [6, 10] (ws.length + 1) (fun gg s6 s10 wz => ∃ (z : Nat) (q2 : List Bool × Bool), s10 = .int .i64 z ∧ s6 = .bool q2.2 ∧ Aside0 (f ≤ z ∧ z ≤ ws.length + 1 ∧ ws.length + 1 - z ≤ gg) ∧ Aside0 (zLoop ws y f (ws.length + 1 - f) f q1 = zLoop ws y f (ws.length + 1 - z) z q2) ∧ Aside0 (CntT t q2) ∧ Aside0 (Sp w gb gt #[.int .i64 a0, .int .i64 a1, .slice (some ad) l.length c] (tcs B ws.length d q2.1) wz) ∧ Aside0 (wz.heap[gr]? = some (.cells #[.int .i64 y0, .slice A1 y.f1.length c1] 87 (0, 0))))
              case atStart => exact ⟨f, q1, rfl, rfl, ⟨Nat.le_refl _, by have := F.out; omega, by omega⟩, ⟨rfl⟩, CB1, SP, BR⟩
              case round =>
                clear SP BR
                obtain ⟨z, q2, rfl, rfl, ZB, ZQ, CB2, SP, BR⟩ := hrel
                by_cases hz : z ≤ ws.length
                · have dz : decide ((z : Int) ≤ (ws.length : Int)) = true := decide_eq_true (by omega)
                  have dzn : decide (z ≤ ws.length) = true := decide_eq_true hz
                  have hz10 : (z : Int) ≤ 10 := by omega
                  have hz11 : z < 11 := by omega
                  obtain ⟨m, hm⟩ : ∃ m, ws.length + 1 - z = m + 1 := ⟨ws.length - z, by omega⟩
                  have hm2 : ws.length + 1 - (z + 1) = m := by omega
                  have M2 := Aside0.mk hm2
                  obtain ⟨b1, b2, b3⟩ := ZB.out
                  have ZB2 := Aside0.mk (show f ≤ z + 1 ∧ z + 1 ≤ ws.length + 1 ∧ ws.length + 1 - (z + 1) ≤ m by omega)
                  have ZE := Aside0.mk (show zLoop ws y f (ws.length + 1 - f) f q1 = zLoop ws y f m (z + 1) (stepT ws y f z q2) by rw [ZQ.out, hm]; rfl)
                  have HZ := Aside0.mk hz
                  have hgg : m < gk := by omega
                  have CB3 := Aside0.mk (CB2.out.step (ws := ws) (x := y) (f := f) (z := z) (by rw [HY.out]; exact tix_lt hy6 (by omega) (by omega)))
                  have LT2 := CB2.out.1
                  have hr0 : wr.cell? ⟨gr, 0, none⟩ = some (.int .i64 y0) := (blk_cell BR.out 0).trans rfl
                  have hr1 : wr.cell? ⟨gr, 1, none⟩ = some (.slice A1 y.f1.length c1) := (blk_cell BR.out 1).trans rfl
                  have hct : wr.cell? ⟨gt, 1 + y0 * 121 + f * 11 + z, none⟩ = some (.bool (tat q2.1 y0 f z)) := by
                    rw [show 1 + y0 * 121 + f * 11 + z = tix y0 f z + 1 by unfold tix; omega]
                    exact (blk_cell SP.out.ht _).trans (tcs_get _ (by rw [LT2]; exact tix_lt hy6 (by omega) (by omega)))
                  have SE := fun (V : World) (hV : Below wr.heap.size wr V) => sequence_calls q2.1 LT2 gt B d ws HW10.out HWB.out y.f1 A1 c1 f z V ((SP.out.go hV).ht) (Kd.C_below HW.out (SP.out.go hV).below) HD.out (Kd.C_below HI.out (SP.out.go hV).below) HL.out (fun x hx => by obtain ⟨j, hj, e⟩ := List.getElem_of_mem hx; have := OK.out.2 j hj; unfold rd at this; rw [Int.toNat_natCast, List.getD_eq_getElem?_getD, List.getElem?_eq_getElem hj] at this; rw [← e]; exact this) b1 HZ.out
                  have SD := Aside0.mk (show stepT ws y f z q2 = if (!tat q2.1 y0 f z && seqF q2.1 ws y.f1 f z) = true then (q2.1.set (tix y0 f z) true, true) else q2 by unfold stepT; rw [HY.out])
                  clear hz hm hm2 b1 b2 b3 ZQ ZB LT2
                  have ql0 := Later.cell hr0
                  have ql1 := Later.cell hr1
                  have ZN1 := Aside0.mk (show tat q2.1 y0 f z = true → zLoop ws y f (ws.length + 1 - f) f q1 = zLoop ws y f (ws.length + 1 - (z + 1)) (z + 1) q2 from fun h => by rw [ZE.out, SD.out, M2.out, h]; rfl)
                  have ZN2 := Aside0.mk (show seqF q2.1 ws y.f1 f z = false → zLoop ws y f (ws.length + 1 - f) f q1 = zLoop ws y f (ws.length + 1 - (z + 1)) (z + 1) q2 from fun h => by rw [ZE.out, SD.out, M2.out, h, Bool.and_false]; rfl)
                  have ZN3 := Aside0.mk (show tat q2.1 y0 f z = false → seqF q2.1 ws y.f1 f z = true → zLoop ws y f (ws.length + 1 - f) f q1 = zLoop ws y f (ws.length + 1 - (z + 1)) (z + 1) (q2.1.set (tix y0 f z) true, true) ∧ CntT t (q2.1.set (tix y0 f z) true, true) from fun h h2 => by
                    have e : stepT ws y f z q2 = (q2.1.set (tix y0 f z) true, true) := by rw [SD.out, h, h2]; rfl
                    rw [e] at ZE CB3
                    exact ⟨by rw [M2.out]; exact ZE.out, CB3.out⟩)
                  generalize seqF q2.1 ws y.f1 f z = sv at SE ZN2 ZN3
                  clear SD ZE CB3 HZ hr0 hr1
                  cases hv : tat q2.1 y0 f z with
                  | true =>
                    rw [hv] at hct
                    have ZN := Aside0.mk (ZN1.out hv)
                    have ql2 := Later.cell hct
                    clear hv SE ZN1 ZN2 ZN3 hct
                    go_wp2
                    refine wp_region_later (by kernel_rfl) (by kernel_rfl) ?_
                    repeat (go_big_quiet_step (fail))
                    refine wpQuiet_nil ?_
                    intro w4_ hw4
                    obtain ⟨⟨w4, hb4⟩, hw4⟩ := hw4
                    subst hw4
                    (try dsimp only)
                    have B4 := Aside0.mk hb4
                    clear hb4 ql0 ql1 ql2
                    go_wp2
                    go_roundg m
                    case measure => omega
                    case rel => exact ⟨z + 1, q2, by go_num, rfl, ZB2, ZN, CB2, ⟨SP.out.go B4.out⟩, ⟨blk_below BR.out B4.out⟩⟩
                  | false =>
                    rw [hv] at hct
                    have ql2 := Later.cell hct
                    cases sv with
                    | false =>
                      have ZN := Aside0.mk (ZN2.out rfl)
                      clear hv ZN1 ZN2 ZN3 hct
                      go_wp2
                      refine wp_region_later (by kernel_rfl) (by kernel_rfl) ?_
                      repeat (go_big_quiet_step (first | (go_at_call 72; with_reducible exact Later.callD (SE _ (Later.below _)))))
                      refine wpQuiet_nil ?_
                      intro w4_ hw4
                      obtain ⟨⟨w4, hb4⟩, hw4⟩ := hw4
                      subst hw4
                      (try dsimp only)
                      have B4 := Aside0.mk hb4
                      clear hb4 ql0 ql1 ql2 SE
                      go_wp2
                      go_roundg m
                      case measure => omega
                      case rel => exact ⟨z + 1, q2, by go_num, rfl, ZB2, ZN, CB2, ⟨SP.out.go B4.out⟩, ⟨blk_below BR.out B4.out⟩⟩
                    | true =>
                      have ZN := Aside0.mk (ZN3.out hv rfl)
                      clear hv ZN1 ZN2 ZN3 hct
                      go_wp2
                      refine wp_region_later (by kernel_rfl) (by kernel_rfl) ?_
                      repeat (go_big_quiet_step (first | (go_at_call 72; with_reducible exact Later.callD (SE _ (Later.below _)))))
                      refine wpQuiet_nil ?_
                      intro w4_ hw4
                      obtain ⟨⟨w4, hb4⟩, hw4⟩ := hw4
                      subst hw4
                      (try dsimp only)
                      have SP4 := Aside0.mk (SP.out.go hb4)
                      have BR4 := Aside0.mk (blk_below BR.out hb4)
                      clear hb4 ql0 ql1 ql2 SE SP BR
                      obtain ⟨w5, hw5⟩ : ∃ w5, w5 = w4_ := ⟨_, rfl⟩
                      rw [← hw5] at SP4 BR4 ⊢
                      clear hw5
                      go_wp2
                      refine wp_region_still_tail 10 (by kernel_rfl) (by kernel_rfl) ?_
                      have SP6 := Aside0.mk (SP4.out.go (V := w5.drew) (Below.refl _ w5).drew)
                      have BR6 := Aside0.mk (blk_below BR4.out (Below.refl _ w5).drew)
                      rw [show ({ w5 with drawn := w5.drawn + 1 } : World) = w5.drew from rfl]
                      generalize w5.drew = w6 at SP6 BR6 ⊢
                      clear SP4 BR4
                      have hr4 : w6.cell? ⟨gr, 0, none⟩ = some (.int .i64 y0) := (blk_cell BR6.out 0).trans rfl
                      have hc4 : w6.cell? ⟨gt, 1 + y0 * 121 + f * 11 + z, none⟩ = some (.bool (tat q2.1 y0 f z)) := by
                        rw [show 1 + y0 * 121 + f * 11 + z = tix y0 f z + 1 by unfold tix; omega]
                        exact (blk_cell SP6.out.ht _).trans (tcs_get _ (by rw [CB2.out.1]; exact tix_lt hy6 (by omega) (by omega)))
                      have hf4 := blk_frozen SP6.out.ht (1 + y0 * 121 + f * 11 + z)
                      simp only [List.take_succ_cons, List.take_zero, List.drop_succ_cons, List.drop_zero]
                      have hyI : (y0 : Int) < 6 := by omega
                      have hfI : (f : Int) < 11 := by omega
                      have hzI : (z : Int) < 11 := by omega
                      repeat still_step
                      try refine wpStill_nil ?_
                      go_wp2
                      go_roundg m
                      case measure => omega
                      case rel => exact ⟨z + 1, (q2.1.set (tix y0 f z) true, true), by go_num, rfl, ZB2, ⟨ZN.out.1⟩, ⟨ZN.out.2⟩, ⟨by
                          rw [show 1 + y0 * 121 + f * 11 + z = tix y0 f z + 1 by unfold tix; omega]
                          have := SP6.out.set (tix y0 f z + 1) (.bool true)
                          rw [tcs_set] at this
                          exact this⟩, ⟨blk_far BR6.out NR.out _⟩⟩
                · have dz : decide ((z : Int) ≤ (ws.length : Int)) = false := decide_eq_false (by omega)
                  have dzn : decide (z ≤ ws.length) = false := decide_eq_false hz
                  have FQ2 := Aside0.mk (show fLoop ws y (ws.length + 1) 0 q = fLoop ws y (ws.length + 1 - (f + 1)) (f + 1) q2 by
                    have e1 : zLoop ws y f (ws.length + 1 - f) f q1 = q2 := by rw [ZQ.out, show ws.length + 1 - z = 0 by omega]; rfl
                    have hf := F.out
                    obtain ⟨m, hm⟩ : ∃ m, ws.length + 1 - f = m + 1 := ⟨ws.length - f, by omega⟩
                    rw [FQ.out, hm, show ws.length + 1 - (f + 1) = m by omega]
                    show fLoop ws y m (f + 1) (zLoop ws y f (ws.length + 1 - f) f q1) = _
                    rw [e1])
                  clear ZQ hz
                  go_wp2
                  go_roundg (ws.length + 1 - (f + 1))
                  case measure => have h1 := FB.out.2; have h2 := F.out; omega
                  case rel => exact ⟨f + 1, q2, by go_num, rfl, ⟨by have h2 := F.out; omega, Nat.le_refl _⟩, FQ2, CB2, SP, BR⟩
            · have df : decide ((f : Int) < (ws.length : Int) + 1) = false := decide_eq_false (by omega)
              have dfn : decide (f < ws.length + 1) = false := decide_eq_false (by omega)
              have PN := Aside0.mk (show passT ws l (t, false) = passT ws (l.drop (kk + 1)) q1 by rw [PQ.out, PD.out, FQ.out, show ws.length + 1 - f = 0 by omega]; rfl)
              clear FQ hf
              have hlt2 : kk < l.length := L.out
              go_wp2
              go_roundg (l.length - (kk + 1))
              case measure => have h1 := L.out; have h2 := HG.out; omega
              case rel => exact ⟨kk + 1, q1, by have := L.out; omega, by omega, by go_num, rfl, PN, CB1, SP⟩
        · have hd : decide (kk < l.length) = false := decide_eq_false hlt
          have PE := Aside0.mk (show passT ws l (t, false) = q by rw [PQ.out, List.drop_of_length_le (by omega)]; rfl)
          clear hlt
          cases n with
          | zero => exact absurd CN.out (Nat.not_lt_zero _)
          | succ n =>
            have FN := Aside0.mk (show fin = if q.2 = true then closeT ws l n q.1 else q.1 by rw [← CL.out]; show (if (passT ws l (t, false)).2 = true then closeT ws l n (passT ws l (t, false)).1 else (passT ws l (t, false)).1) = _; rw [PE.out])
            go_wp2
            go_roundg n
            case measure => omega
            case rel => exact ⟨n, q.1, q.2, rfl, Nat.le_refl _, ⟨fun h => ⟨by have h1 := CB.out.2.2 h; have h2 := CN.out; omega, by rw [FN.out, if_pos h]⟩⟩, ⟨fun h => by rw [FN.out, if_neg (by rw [h]; exact Bool.false_ne_true)]⟩, ⟨CB.out.1⟩, SP⟩
end Go.Proofs.Ytekoclhnfhbmeaa.P
namespace Go.Proofs.Ytekoclhnfhbmeaa.P
open Go.RowKit Go.Proofs.YtekoclhnfhbmeaaW.PrintWords Go.Proofs.YtekoclhnfhbmeaaW.PrintLast Go.Proofs.YtekoclhnfhbmeaaW.PrintMore
attribute [local go_sem] max2_int min2_int max_two min_two max_three min_three max_four min_four
set_option linter.unusedVariables false
set_option linter.unusedSimpArgs false
def spec_l4Symbol.f (l0 : List (List Bool)) (l1 : List Int) (a2 : Int) (a3 : Int) (a4 : Int) : Option (Bool) := if a2 < 0 then (if a4 = (wrap64 (a3 + 1)) then (if 0 ≤ a3 then (if a3 < (l1.length : Int) then (some ((rd l1 a3) == (wrap64 ((-1) - a2)))) else (none)) else (none)) else (some false)) else (if 0 ≤ a2 then (if a2 < (l0.length : Int) then (if 0 ≤ (wrap64 ((wrap64 (a3 * (wrap64 ((l1.length : Int) + 1)))) + a4)) then (if (wrap64 ((wrap64 (a3 * (wrap64 ((l1.length : Int) + 1)))) + a4)) < ((rd_L7 l0 a2).length : Int) then (some (rdOf false (rd_L7 l0 a2) (wrap64 ((wrap64 (a3 * (wrap64 ((l1.length : Int) + 1)))) + a4)))) else (none)) else (none)) else (none)) else (none))
set_option maxHeartbeats 8000000 in
set_option maxRecDepth 100000 in
theorem spec_l4Symbol.calls (A0 : Option Addr) (c0 : Nat) (l0 : List (List Bool)) (A1 : Option Addr) (c1 : Nat) (l1 : List Int) (a2 : Int) (a3 : Int) (a4 : Int) (r : Bool) (w : World) (hr0 : Kd.C (Kd.slice 4 Kd.bool) w A0 l0.length l0) (hc0 : l0.length ≤ c0) (hr1 : Kd.C (Kd.int .i64) w A1 l1.length l1) (hc1 : l1.length ≤ c1) (h : spec_l4Symbol.f l0 l1 a2 a3 a4 = some r) :
    Calls Try.prog 109 #[.slice A0 l0.length c0, .slice A1 l1.length c1, .int .i64 a2, .int .i64 a3, .int .i64 a4] w fun e w' => e = .returned (.bool r) ∧ Drawn0 w w' := by
  have HR0 := Aside0.mk hr0
  have HC0 := Aside0.mk hc0
  clear hr0 hc0
  have HR1 := Aside0.mk hr1
  have HC1 := Aside0.mk hc1
  clear hr1 hc1
  have H : (if a2 < 0 then (if a4 = (wrap64 (a3 + 1)) then (if 0 ≤ a3 then (if a3 < (l1.length : Int) then (some ((rd l1 a3) == (wrap64 ((-1) - a2)))) else (none)) else (none)) else (some false)) else (if 0 ≤ a2 then (if a2 < (l0.length : Int) then (if 0 ≤ (wrap64 ((wrap64 (a3 * (wrap64 ((l1.length : Int) + 1)))) + a4)) then (if (wrap64 ((wrap64 (a3 * (wrap64 ((l1.length : Int) + 1)))) + a4)) < ((rd_L7 l0 a2).length : Int) then (some (rdOf false (rd_L7 l0 a2) (wrap64 ((wrap64 (a3 * (wrap64 ((l1.length : Int) + 1)))) + a4)))) else (none)) else (none)) else (none)) else (none))) = some r := h
  clear h
  by_cases c6 : a2 < 0
  · rw [if_pos c6] at H
    have c6b0 : decide (a2 < 0) = true := decide_eq_true c6
    clear c6
    by_cases c7 : a4 = (wrap64 (a3 + 1))
    · rw [if_pos c7] at H
      have c7b0 : (a4 == (wrap64 (a3 + 1))) = true := beq_iff_eq.mpr c7
      have c7b1 : (a4 != (wrap64 (a3 + 1))) = false := bne_eq_false_iff_eq.mpr c7
      clear c7
      by_cases c8 : 0 ≤ a3
      · rw [if_pos c8] at H
        have c8b0 : decide (0 ≤ a3) = true := decide_eq_true c8
        clear c8
        by_cases c9 : a3 < (l1.length : Int)
        · rw [if_pos c9] at H
          have c9b0 : decide (a3 < (l1.length : Int)) = true := decide_eq_true c9
          clear c9
          obtain rfl := Option.some.inj H
          have p101 : 0 ≤ (a3 : Int) := of_decide_eq_true (by first | (with_reducible assumption) | assumption)
          have q101 : a3 < (l1.length : Int) := of_decide_eq_true (by first | (with_reducible assumption) | assumption)
          obtain ⟨ad101, e101, hx101_0⟩ := Kd.at_int HR1.out a3 p101 q101
          cases e101
          replace p101 := eq_true p101
          replace q101 := eq_true q101
          go_enter Try.func109, Try.ntmps109
          go_wp2
          go_ret
          exact ⟨by first | rfl | (simp; done) | (simp [*]; done), by repeat (first | exact Drawn0.refl _ | apply Drawn0.step)⟩
        · rw [if_neg c9] at H
          exact absurd H (by simp)
      · rw [if_neg c8] at H
        exact absurd H (by simp)
    · rw [if_neg c7] at H
      have c7b0 : (a4 == (wrap64 (a3 + 1))) = false := beq_eq_false_iff_ne.mpr c7
      have c7b1 : (a4 != (wrap64 (a3 + 1))) = true := bne_iff_ne.mpr c7
      obtain rfl := Option.some.inj H
      go_enter Try.func109, Try.ntmps109
      go_wp2
      go_ret
      exact ⟨by first | rfl | (simp; done) | (simp [*]; done), by repeat (first | exact Drawn0.refl _ | apply Drawn0.step)⟩
  · rw [if_neg c6] at H
    have c6b0 : decide (a2 < 0) = false := decide_eq_false c6
    clear c6
    by_cases c10 : 0 ≤ a2
    · rw [if_pos c10] at H
      have c10b0 : decide (0 ≤ a2) = true := decide_eq_true c10
      clear c10
      by_cases c11 : a2 < (l0.length : Int)
      · rw [if_pos c11] at H
        have c11b0 : decide (a2 < (l0.length : Int)) = true := decide_eq_true c11
        clear c11
        obtain ⟨ji12, hji12⟩ : ∃ j_ : Int, (wrap64 ((wrap64 (a3 * (wrap64 ((l1.length : Int) + 1)))) + a4)) = j_ := ⟨_, rfl⟩
        replace H : (if 0 ≤ (ji12) then (if (ji12) < ((rd_L7 l0 a2).length : Int) then (some (rdOf false (rd_L7 l0 a2) (ji12))) else (none)) else (none)) = some r := by first | (rw [hji12] at H; exact H) | (simp only [hji12] at H ⊢; exact H)
        have hji12w : (IntKind.i64.wrap ((wrap64 (a3 * (wrap64 ((l1.length : Int) + 1)))) + a4)) = ji12 := (i64_w _).trans hji12
        by_cases c13 : 0 ≤ (ji12)
        · rw [if_pos c13] at H
          have c13b0 : decide (0 ≤ (ji12)) = true := decide_eq_true c13
          clear c13
          by_cases c14 : (ji12) < ((rd_L7 l0 a2).length : Int)
          · rw [if_pos c14] at H
            have c14b0 : decide ((ji12) < ((rd_L7 l0 a2).length : Int)) = true := decide_eq_true c14
            clear c14
            obtain rfl := Option.some.inj H
            have p102 : 0 ≤ (a2 : Int) := of_decide_eq_true (by first | (with_reducible assumption) | assumption)
            have q102 : a2 < (l0.length : Int) := of_decide_eq_true (by first | (with_reducible assumption) | assumption)
            obtain ⟨ad102, A102_0, c102_0, e102, hx102_0, hl102_0, hi102_0⟩ := at_L7 HR0.out a2 p102 q102
            cases e102
            have HR102_0 := Aside0.mk hi102_0
            have HC102_0 := Aside0.mk hl102_0
            clear hi102_0 hl102_0
            replace p102 := eq_true p102
            replace q102 := eq_true q102
            have p103 : 0 ≤ ((ji12) : Int) := of_decide_eq_true (by first | (with_reducible assumption) | assumption)
            have q103 : (ji12) < ((rd_L7 l0 a2).length : Int) := of_decide_eq_true (by first | (with_reducible assumption) | assumption)
            obtain ⟨ad103, e103, hx103_0⟩ := Kd.at_bool HR102_0.out (ji12) p103 q103
            cases e103
            replace p103 := eq_true p103
            replace q103 := eq_true q103
            go_enter Try.func109, Try.ntmps109
            go_wp2
            go_ret
            exact ⟨by first | rfl | (simp; done) | (simp only [← hji12] <;> (first | rfl | simp)) | (simp [*]; done), by repeat (first | exact Drawn0.refl _ | apply Drawn0.step)⟩
          · rw [if_neg c14] at H
            exact absurd H (by simp)
        · rw [if_neg c13] at H
          exact absurd H (by simp)
      · rw [if_neg c11] at H
        exact absurd H (by simp)
    · rw [if_neg c10] at H
      exact absurd H (by simp)
end Go.Proofs.Ytekoclhnfhbmeaa.P
namespace Go.Proofs.Ytekoclhnfhbmeaa.P
open Go.RowKit Go.Proofs.YtekoclhnfhbmeaaW.PrintWords Go.Proofs.YtekoclhnfhbmeaaW.PrintLast Go.Proofs.YtekoclhnfhbmeaaW.PrintMore
attribute [local go_sem] max2_int min2_int max_two min_two max_three min_three max_four min_four
set_option linter.unusedVariables false
set_option linter.unusedSimpArgs false
mutual
def spec_l4Fits.l0 : Nat → List (List Bool) → List Int → List Int → Int → Int → Int → Option (Bool)
  | 0, _, _, _, _, _, _ => none
  | k + 1, x0, x1, x2, x3, x4, x11 => if x11 ≤ x4 then (if 0 < (x2.length : Int) then ((spec_l4Symbol.f x0 x1 (rd x2 0) x3 x11).bind fun t102 => (if t102 = true then (if 1 ≤ (x2.length : Int) then ((spec_l4Fits.f k x0 x1 (x2.drop 1) x11 x4).bind fun t104 => (if t104 = true then (some true) else (spec_l4Fits.l0 k x0 x1 x2 x3 x4 (wrap64 (x11 + 1))))) else (none)) else (spec_l4Fits.l0 k x0 x1 x2 x3 x4 (wrap64 (x11 + 1))))) else (none)) else (some false)
def spec_l4Fits.f : Nat → List (List Bool) → List Int → List Int → Int → Int → Option (Bool)
  | 0, _, _, _, _, _ => none
  | k + 1, l0, l1, l2, a3, a4 => if (l2.length : Int) = 0 then (some (a3 == a4)) else (spec_l4Fits.l0 k l0 l1 l2 a3 a4 a3)
end
set_option maxHeartbeats 8000000 in
set_option maxRecDepth 100000 in
theorem spec_l4Fits.calls (k : Nat) : ∀ (A0 : Option Addr) (c0 : Nat) (l0 : List (List Bool)) (A1 : Option Addr) (c1 : Nat) (l1 : List Int) (A2 : Option Addr) (c2 : Nat) (l2 : List Int) (a3 : Int) (a4 : Int) (r : Bool) (w : World) (hr0 : Kd.C (Kd.slice 4 Kd.bool) w A0 l0.length l0) (hc0 : l0.length ≤ c0) (hr1 : Kd.C (Kd.int .i64) w A1 l1.length l1) (hc1 : l1.length ≤ c1) (hr2 : Kd.C (Kd.int .i64) w A2 l2.length l2) (hc2 : l2.length ≤ c2) (h : spec_l4Fits.f k l0 l1 l2 a3 a4 = some r),
    Calls Try.prog 69 #[.slice A0 l0.length c0, .slice A1 l1.length c1, .slice A2 l2.length c2, .int .i64 a3, .int .i64 a4] w fun e w' => e = .returned (.bool r) ∧ Drawn0 w w' := by
  induction k using Nat.strongRecOn with
  | _ k ih =>
  intro A0 c0 l0 A1 c1 l1 A2 c2 l2 a3 a4 r w hr0 hc0 hr1 hc1 hr2 hc2 h
  cases k with
  | zero => exact absurd h (by simp [spec_l4Fits.f])
  | succ k =>
  simp only [spec_l4Fits.f] at h
  have HR0 := Aside0.mk hr0
  have HC0 := Aside0.mk hc0
  clear hr0 hc0
  have HR1 := Aside0.mk hr1
  have HC1 := Aside0.mk hc1
  clear hr1 hc1
  have HR2 := Aside0.mk hr2
  have HC2 := Aside0.mk hc2
  clear hr2 hc2
  have H : (if (l2.length : Int) = 0 then (some (a3 == a4)) else (spec_l4Fits.l0 k l0 l1 l2 a3 a4 a3)) = some r := h
  clear h
  by_cases c6 : (l2.length : Int) = 0
  · rw [if_pos c6] at H
    have c6b0 : ((l2.length : Int) == 0) = true := beq_iff_eq.mpr c6
    have c6b1 : ((l2.length : Int) != 0) = false := bne_eq_false_iff_eq.mpr c6
    clear c6
    obtain rfl := Option.some.inj H
    go_enter Try.func69, Try.ntmps69
    go_wp2
    go_ret
    exact ⟨by first | rfl | (simp; done) | (simp [*]; done), by repeat (first | exact Drawn0.refl _ | apply Drawn0.step)⟩
  · rw [if_neg c6] at H
    have c6b0 : ((l2.length : Int) == 0) = false := beq_eq_false_iff_ne.mpr c6
    have c6b1 : ((l2.length : Int) != 0) = true := bne_iff_ne.mpr c6
    have c6b2 : ¬ (l2 = []) := fun h_ => c6 (by rw [h_]; rfl)
    have H' := Aside0.mk H
    clear H
    go_enter Try.func69, Try.ntmps69
    go_wp2
    go_loopg [11] k (fun kq v11 w' => ∃ (x11_1 : Int), v11 = .int .i64 x11_1 ∧ Aside0 (spec_l4Fits.l0 kq l0 l1 l2 a3 a4 x11_1 = some r) ∧ Aside0 (kq ≤ k) ∧ Drawn0 w w')
    case atStart => exact ⟨(a3), (by first | rfl | (simp; done) | (simp [*]; done)), H', ⟨Nat.le_refl _⟩, by repeat (first | exact Drawn0.refl _ | apply Drawn0.step)⟩
    case round =>
      clear H'
      try clear c1
      try clear c2
      try clear p2
      try clear c6
      try clear c6b0
      try clear c6b1
      try clear c6b2
      obtain ⟨x11_1, rfl, HA, HK1, ⟨m1, rfl⟩⟩ := hrel
      cases gk with
      | zero => exact absurd HA.out (by simp [spec_l4Fits.l0])
      | succ k1 =>
        have H := HA.out
        clear HA
        simp only [spec_l4Fits.l0] at H
        by_cases c7 : x11_1 ≤ a4
        · rw [if_pos c7] at H
          have c7b0 : decide (x11_1 ≤ a4) = true := decide_eq_true c7
          clear c7
          by_cases c8 : 0 < (l2.length : Int)
          · rw [if_pos c8] at H
            have c8b0 : decide (0 < (l2.length : Int)) = true := decide_eq_true c8
            have c8b1 : decide (0 < l2.length) = true := decide_eq_true (by omega)
            clear c8
            replace H := Option.bind_eq_some_iff.mp H
            obtain ⟨t102, A90, H⟩ := H
            replace H : (if t102 = true then (if 1 ≤ (l2.length : Int) then ((spec_l4Fits.f k1 l0 l1 (l2.drop 1) x11_1 a4).bind fun t104 => (if t104 = true then (some true) else (spec_l4Fits.l0 k1 l0 l1 l2 a3 a4 (wrap64 (x11_1 + 1))))) else (none)) else (spec_l4Fits.l0 k1 l0 l1 l2 a3 a4 (wrap64 (x11_1 + 1)))) = some r := H
            have A9 := Aside0.mk A90
            clear A90
            by_cases c10 : t102 = true
            · subst c10
              have H1 : (if 1 ≤ (l2.length : Int) then ((spec_l4Fits.f k1 l0 l1 (l2.drop 1) x11_1 a4).bind fun t104 => (if t104 = true then (some true) else (spec_l4Fits.l0 k1 l0 l1 l2 a3 a4 (wrap64 (x11_1 + 1))))) else (none)) = some r := by rw [if_pos rfl] at H; exact H
              clear H
              have H := H1
              clear H1
              by_cases c11 : 1 ≤ (l2.length : Int)
              · rw [if_pos c11] at H
                have c11b0 := eq_true c11
                have c11b1 : decide (1 ≤ (l2.length : Int)) = true := decide_eq_true c11
                clear c11
                replace H := Option.bind_eq_some_iff.mp H
                obtain ⟨t104, A120, H⟩ := H
                replace H : (if t104 = true then (some true) else (spec_l4Fits.l0 k1 l0 l1 l2 a3 a4 (wrap64 (x11_1 + 1)))) = some r := H
                have A12 := Aside0.mk A120
                clear A120
                by_cases c13 : t104 = true
                · subst c13
                  have H1 : (some true) = some r := by rw [if_pos rfl] at H; exact H
                  clear H
                  have H := H1
                  clear H1
                  obtain rfl := Option.some.inj H
                  have p101 : 0 ≤ (0 : Int) := (by omega)
                  have q101 : 0 < (l2.length : Int) := of_decide_eq_true (by first | (with_reducible assumption) | assumption)
                  obtain ⟨ad101, e101, hx101_0⟩ := Kd.at_int HR2.out 0 p101 q101
                  cases e101
                  have qi101 : (0 < l2.length) = True := eq_true (by omega)
                  (try rw [show ((0 : Int)).toNat = 0 from rfl] at hx101_0)
                  (try rw [Addr.add_zero'] at hx101_0)
                  replace p101 := eq_true p101
                  replace q101 := eq_true q101
                  go_wp2_with (first | ((with_reducible refine gate_callee (f := 109) rfl ?_); refine goesL_ (some 31) rfl rfl Try.func109 (by kernel_rfl) rfl #[.slice A0 l0.length c0, .slice A1 l1.length c1, .int .i64 (rd l2 0), .int .i64 a3, .int .i64 x11_1] rfl (by (try simp only [List.map_toArray, List.map_cons, List.map_nil]); first | done | rfl | (simp only [List.length_drop, List.length_take]; rfl)) ?_; (with_reducible refine (spec_l4Symbol.calls _ _ l0 _ _ l1 (rd l2 0) a3 x11_1 true _ ?side1 ?side2 ?side3 ?side4 A9.out).mono ?_); (case side1 => repeat (first | exact HR0.out | (with_reducible refine Kd.C_alloc ?_ _) | (with_reducible refine Kd.C_drewN ?_ _) | (with_reducible refine Kd.C_drew ?_))); (case side2 => exact HC0.out); (case side3 => repeat (first | exact HR1.out | (with_reducible refine Kd.C_alloc ?_ _) | (with_reducible refine Kd.C_drewN ?_ _) | (with_reducible refine Kd.C_drew ?_))); (case side4 => exact HC1.out); rintro e w' ⟨rfl, ⟨nd, rfl⟩⟩; refine ⟨_, rfl, ?_⟩; obtain ⟨i014, hi014, _, hsz14, _⟩ := info_parts info3; obtain ⟨A14, hcut14, hA14, hC14⟩ := print_drop_of (P := Try.prog) (Value.int .i64) 0 37 3 .i64 Try.underlying37 hi014 hsz14 (some ad101) c2 l2 1 (by omega) (of_decide_eq_true (by first | (with_reducible assumption) | assumption)) HC2.out; have HR103 := Aside0.mk (Kd.C_of_reads (h1 := fun _ => rfl) (hA14 _ (Kd.reads_of_C HR2.out))); have HC103 := Aside0.mk hC14; clear hA14 hC14 hi014 hsz14) | (go_at_call 69; refine calls_of_args (args' := #[.slice A0 l0.length c0, .slice A1 l1.length c1, .slice A14 (l2.drop 1).length (c2 - 1), .int .i64 x11_1, .int .i64 a4]) (by rw [List.length_drop]) ?_; (with_reducible refine (ih k1 (by have := HK1.out; omega) _ _ l0 _ _ l1 _ _ (l2.drop 1) x11_1 a4 true _ ?side1 ?side2 ?side3 ?side4 ?side5 ?side6 A12.out).mono ?_); (case side1 => repeat (first | exact HR0.out | (with_reducible refine Kd.C_alloc ?_ _) | (with_reducible refine Kd.C_drewN ?_ _) | (with_reducible refine Kd.C_drew ?_))); (case side2 => exact HC0.out); (case side3 => repeat (first | exact HR1.out | (with_reducible refine Kd.C_alloc ?_ _) | (with_reducible refine Kd.C_drewN ?_ _) | (with_reducible refine Kd.C_drew ?_))); (case side4 => exact HC1.out); (case side5 => repeat (first | exact HR103.out | (with_reducible refine Kd.C_alloc ?_ _) | (with_reducible refine Kd.C_drewN ?_ _) | (with_reducible refine Kd.C_drew ?_))); (case side6 => exact HC103.out); rintro e w' ⟨rfl, ⟨nd, rfl⟩⟩))
                  go_ret
                  exact ⟨by first | rfl | (simp; done) | (simp [*]; done), by repeat (first | exact Drawn0.refl _ | apply Drawn0.step)⟩
                · replace c13 := Bool.eq_false_iff.mpr c13
                  subst c13
                  have H1 : (spec_l4Fits.l0 k1 l0 l1 l2 a3 a4 (wrap64 (x11_1 + 1))) = some r := by rw [if_neg (show ¬ (false = true) by decide)] at H; exact H
                  clear H
                  have H := H1
                  clear H1
                  have H' := Aside0.mk H
                  clear H
                  have p101 : 0 ≤ (0 : Int) := (by omega)
                  have q101 : 0 < (l2.length : Int) := of_decide_eq_true (by first | (with_reducible assumption) | assumption)
                  obtain ⟨ad101, e101, hx101_0⟩ := Kd.at_int HR2.out 0 p101 q101
                  cases e101
                  have qi101 : (0 < l2.length) = True := eq_true (by omega)
                  (try rw [show ((0 : Int)).toNat = 0 from rfl] at hx101_0)
                  (try rw [Addr.add_zero'] at hx101_0)
                  replace p101 := eq_true p101
                  replace q101 := eq_true q101
                  go_wp2_with (first | ((with_reducible refine gate_callee (f := 109) rfl ?_); refine goesL_ (some 31) rfl rfl Try.func109 (by kernel_rfl) rfl #[.slice A0 l0.length c0, .slice A1 l1.length c1, .int .i64 (rd l2 0), .int .i64 a3, .int .i64 x11_1] rfl (by (try simp only [List.map_toArray, List.map_cons, List.map_nil]); first | done | rfl | (simp only [List.length_drop, List.length_take]; rfl)) ?_; (with_reducible refine (spec_l4Symbol.calls _ _ l0 _ _ l1 (rd l2 0) a3 x11_1 true _ ?side1 ?side2 ?side3 ?side4 A9.out).mono ?_); (case side1 => repeat (first | exact HR0.out | (with_reducible refine Kd.C_alloc ?_ _) | (with_reducible refine Kd.C_drewN ?_ _) | (with_reducible refine Kd.C_drew ?_))); (case side2 => exact HC0.out); (case side3 => repeat (first | exact HR1.out | (with_reducible refine Kd.C_alloc ?_ _) | (with_reducible refine Kd.C_drewN ?_ _) | (with_reducible refine Kd.C_drew ?_))); (case side4 => exact HC1.out); rintro e w' ⟨rfl, ⟨nd, rfl⟩⟩; refine ⟨_, rfl, ?_⟩; obtain ⟨i015, hi015, _, hsz15, _⟩ := info_parts info3; obtain ⟨A15, hcut15, hA15, hC15⟩ := print_drop_of (P := Try.prog) (Value.int .i64) 0 37 3 .i64 Try.underlying37 hi015 hsz15 (some ad101) c2 l2 1 (by omega) (of_decide_eq_true (by first | (with_reducible assumption) | assumption)) HC2.out; have HR103 := Aside0.mk (Kd.C_of_reads (h1 := fun _ => rfl) (hA15 _ (Kd.reads_of_C HR2.out))); have HC103 := Aside0.mk hC15; clear hA15 hC15 hi015 hsz15) | (go_at_call 69; refine calls_of_args (args' := #[.slice A0 l0.length c0, .slice A1 l1.length c1, .slice A15 (l2.drop 1).length (c2 - 1), .int .i64 x11_1, .int .i64 a4]) (by rw [List.length_drop]) ?_; (with_reducible refine (ih k1 (by have := HK1.out; omega) _ _ l0 _ _ l1 _ _ (l2.drop 1) x11_1 a4 false _ ?side1 ?side2 ?side3 ?side4 ?side5 ?side6 A12.out).mono ?_); (case side1 => repeat (first | exact HR0.out | (with_reducible refine Kd.C_alloc ?_ _) | (with_reducible refine Kd.C_drewN ?_ _) | (with_reducible refine Kd.C_drew ?_))); (case side2 => exact HC0.out); (case side3 => repeat (first | exact HR1.out | (with_reducible refine Kd.C_alloc ?_ _) | (with_reducible refine Kd.C_drewN ?_ _) | (with_reducible refine Kd.C_drew ?_))); (case side4 => exact HC1.out); (case side5 => repeat (first | exact HR103.out | (with_reducible refine Kd.C_alloc ?_ _) | (with_reducible refine Kd.C_drewN ?_ _) | (with_reducible refine Kd.C_drew ?_))); (case side6 => exact HC103.out); rintro e w' ⟨rfl, ⟨nd, rfl⟩⟩))
                  go_roundg k1
                  case measure => have := HK1.out; omega
                  case rel => exact ⟨(wrap64 (x11_1 + 1)), (by first | rfl | (simp; done) | (simp [*]; done)), H', ⟨by have := HK1.out; omega⟩, by repeat (first | exact Drawn0.refl _ | apply Drawn0.step)⟩
              · rw [if_neg c11] at H
                exact absurd H (by simp)
            · replace c10 := Bool.eq_false_iff.mpr c10
              subst c10
              have H1 : (spec_l4Fits.l0 k1 l0 l1 l2 a3 a4 (wrap64 (x11_1 + 1))) = some r := by rw [if_neg (show ¬ (false = true) by decide)] at H; exact H
              clear H
              have H := H1
              clear H1
              have H' := Aside0.mk H
              clear H
              have p101 : 0 ≤ (0 : Int) := (by omega)
              have q101 : 0 < (l2.length : Int) := of_decide_eq_true (by first | (with_reducible assumption) | assumption)
              obtain ⟨ad101, e101, hx101_0⟩ := Kd.at_int HR2.out 0 p101 q101
              cases e101
              have qi101 : (0 < l2.length) = True := eq_true (by omega)
              (try rw [show ((0 : Int)).toNat = 0 from rfl] at hx101_0)
              (try rw [Addr.add_zero'] at hx101_0)
              replace p101 := eq_true p101
              replace q101 := eq_true q101
              go_wp2_with (first | ((with_reducible refine gate_callee (f := 109) rfl ?_); refine goesL_ (some 31) rfl rfl Try.func109 (by kernel_rfl) rfl #[.slice A0 l0.length c0, .slice A1 l1.length c1, .int .i64 (rd l2 0), .int .i64 a3, .int .i64 x11_1] rfl (by (try simp only [List.map_toArray, List.map_cons, List.map_nil]); first | done | rfl | (simp only [List.length_drop, List.length_take]; rfl)) ?_; (with_reducible refine (spec_l4Symbol.calls _ _ l0 _ _ l1 (rd l2 0) a3 x11_1 false _ ?side1 ?side2 ?side3 ?side4 A9.out).mono ?_); (case side1 => repeat (first | exact HR0.out | (with_reducible refine Kd.C_alloc ?_ _) | (with_reducible refine Kd.C_drewN ?_ _) | (with_reducible refine Kd.C_drew ?_))); (case side2 => exact HC0.out); (case side3 => repeat (first | exact HR1.out | (with_reducible refine Kd.C_alloc ?_ _) | (with_reducible refine Kd.C_drewN ?_ _) | (with_reducible refine Kd.C_drew ?_))); (case side4 => exact HC1.out); rintro e w' ⟨rfl, ⟨nd, rfl⟩⟩; refine ⟨_, rfl, ?_⟩))
              go_roundg k1
              case measure => have := HK1.out; omega
              case rel => exact ⟨(wrap64 (x11_1 + 1)), (by first | rfl | (simp; done) | (simp [*]; done)), H', ⟨by have := HK1.out; omega⟩, by repeat (first | exact Drawn0.refl _ | apply Drawn0.step)⟩
          · rw [if_neg c8] at H
            exact absurd H (by simp)
        · rw [if_neg c7] at H
          have c7b0 : decide (x11_1 ≤ a4) = false := decide_eq_false c7
          clear c7
          obtain rfl := Option.some.inj H
          go_wp2
          go_ret
          exact ⟨by first | rfl | (simp; done) | (simp [*]; done), by repeat (first | exact Drawn0.refl _ | apply Drawn0.step)⟩
end Go.Proofs.Ytekoclhnfhbmeaa.P
namespace Go.Proofs.Ytekoclhnfhbmeaa.P
open Go.RowKit Go.Proofs.YtekoclhnfhbmeaaW.PrintWords Go.Proofs.YtekoclhnfhbmeaaW.PrintLast Go.Proofs.YtekoclhnfhbmeaaW.PrintMore
attribute [local go_sem] max2_int min2_int max_two min_two max_three min_three max_four min_four
set_option linter.unusedVariables false
set_option linter.unusedSimpArgs false
mutual
def spec_l4Table.l0 : Nat → List Int → Int → List (List Bool) → Int → Int → Int → Int → List (S87) → Option ((List (List Bool)))
  | 0, _, _, _, _, _, _, _, _ => none
  | k + 1, x1, x5, x6, x20, x21, x102000, x102001, x102002 => if x21 < x20 then (if 0 ≤ (wrap64 (x5 * x5)) then (if (wrap64 (x5 * x5) : Int).toNat ≤ 281474976710656 then (if 0 ≤ x21 then (if x21 < (x6.length : Int) then (spec_l4Table.l0 k x1 x5 (x6.set (x21 : Int).toNat (List.replicate (wrap64 (x5 * x5) : Int).toNat false)) x20 (wrap64 (x21 + 1)) x102000 x102001 x102002) else (none)) else (none)) else (none)) else (none)) else (spec_l4Table.l1 k x1 x5 x6 true x102000 x102001 x102002)
def spec_l4Table.l1 : Nat → List Int → Int → List (List Bool) → Bool → Int → Int → List (S87) → Option ((List (List Bool)))
  | 0, _, _, _, _, _, _, _ => none
  | k + 1, x1, x5, x6, x8, x102000, x102001, x102002 => if x8 = true then (spec_l4Table.l2 k x1 x5 x6 false x102002 (x102002.length : Int) 0 x102000 x102001 x102002) else (some x6)
def spec_l4Table.l2 : Nat → List Int → Int → List (List Bool) → Bool → List (S87) → Int → Int → Int → Int → List (S87) → Option ((List (List Bool)))
  | 0, _, _, _, _, _, _, _, _, _, _ => none
  | k + 1, x1, x5, x6, x8, x34, x35, x36, x102000, x102001, x102002 => if x36 < x35 then (if 0 ≤ x36 then (if x36 < (x34.length : Int) then (spec_l4Table.l3 k x1 x5 x6 x8 0 x34 x35 x36 x102000 x102001 x102002 ((rd_T87 x34 x36).f0) ((rd_T87 x34 x36).f1)) else (none)) else (none)) else (spec_l4Table.l1 k x1 x5 x6 x8 x102000 x102001 x102002)
def spec_l4Table.l3 : Nat → List Int → Int → List (List Bool) → Bool → Int → List (S87) → Int → Int → Int → Int → List (S87) → Int → List Int → Option ((List (List Bool)))
  | 0, _, _, _, _, _, _, _, _, _, _, _, _, _ => none
  | k + 1, x1, x5, x6, x8, x11, x34, x35, x36, x102000, x102001, x102002, x111000, x111001 => if x11 < x5 then (spec_l4Table.l4 k x1 x5 x6 x8 x11 x11 x34 x35 x36 x102000 x102001 x102002 x111000 x111001) else (spec_l4Table.l2 k x1 x5 x6 x8 x34 x35 (wrap64 (x36 + 1)) x102000 x102001 x102002)
def spec_l4Table.l4 : Nat → List Int → Int → List (List Bool) → Bool → Int → Int → List (S87) → Int → Int → Int → Int → List (S87) → Int → List Int → Option ((List (List Bool)))
  | 0, _, _, _, _, _, _, _, _, _, _, _, _, _, _ => none
  | k + 1, x1, x5, x6, x8, x11, x12, x34, x35, x36, x102000, x102001, x102002, x111000, x111001 => if x12 < x5 then (if 0 ≤ x111000 then (if x111000 < (x6.length : Int) then (if 0 ≤ (wrap64 ((wrap64 (x11 * x5)) + x12)) then (if (wrap64 ((wrap64 (x11 * x5)) + x12)) < ((rd_L7 x6 x111000).length : Int) then (if (rdOf false (rd_L7 x6 x111000) (wrap64 ((wrap64 (x11 * x5)) + x12)) = true) then (spec_l4Table.l4 k x1 x5 x6 x8 x11 (wrap64 (x12 + 1)) x34 x35 x36 x102000 x102001 x102002 x111000 x111001) else ((spec_l4Fits.f k x6 x1 x111001 x11 x12).bind fun t113 => (if t113 = true then (spec_l4Table.l4 k x1 x5 (x6.set (x111000 : Int).toNat ((rd_L7 x6 x111000).set ((wrap64 ((wrap64 (x11 * x5)) + x12)) : Int).toNat true)) true x11 (wrap64 (x12 + 1)) x34 x35 x36 x102000 x102001 x102002 x111000 x111001) else (spec_l4Table.l4 k x1 x5 x6 x8 x11 (wrap64 (x12 + 1)) x34 x35 x36 x102000 x102001 x102002 x111000 x111001)))) else (none)) else (none)) else (none)) else (none)) else (spec_l4Table.l3 k x1 x5 x6 x8 (wrap64 (x11 + 1)) x34 x35 x36 x102000 x102001 x102002 x111000 x111001)
end
def spec_l4Table.f (k : Nat) (a0_0 : Int) (a0_1 : Int) (l0_2 : List (S87)) (l1 : List Int) : Option ((List (List Bool))) := if 0 ≤ a0_0 then (if (a0_0 : Int).toNat ≤ 11728124029610 then ((some (List.replicate (a0_0 : Int).toNat [] : List (List Bool))).bind fun y102 => (spec_l4Table.l0 k l1 (wrap64 ((l1.length : Int) + 1)) y102 (y102.length : Int) 0 a0_0 a0_1 l0_2)) else (none)) else (none)
set_option maxHeartbeats 8000000 in
set_option maxRecDepth 100000 in
theorem spec_l4Table.calls (k : Nat) (a0_0 : Int) (a0_1 : Int) (A0_2 : Option Addr) (c0_2 : Nat) (l0_2 : List (S87)) (A1 : Option Addr) (c1 : Nat) (l1 : List Int) (r : List (List Bool)) (w : World) (hr0_2 : Kd.C k87 w A0_2 l0_2.length l0_2) (hc0_2 : l0_2.length ≤ c0_2) (hr1 : Kd.C (Kd.int .i64) w A1 l1.length l1) (hc1 : l1.length ≤ c1) (h : spec_l4Table.f k a0_0 a0_1 l0_2 l1 = some r) :
    Calls Try.prog 70 #[.agg #[.int .i64 a0_0, .int .i64 a0_1, .slice A0_2 l0_2.length c0_2], .slice A1 l1.length c1] w fun e w' => ∃ v0_ : Value, e = .returned (v0_) ∧ Kd.S (Kd.slice 4 Kd.bool) 84 w' w.heap.size (fun _ => True) v0_ r ∧ Below w.heap.size w w' := by
  have hu28 := Try.underlying28
  have hu87 := Try.underlying87
  have HR0_2 := Aside0.mk hr0_2
  have HC0_2 := Aside0.mk hc0_2
  clear hr0_2 hc0_2
  have HR1 := Aside0.mk hr1
  have HC1 := Aside0.mk hc1
  clear hr1 hc1
  have HB := Aside0.mk (Below.refl w.heap.size w)
  have H : (if 0 ≤ a0_0 then (if (a0_0 : Int).toNat ≤ 11728124029610 then ((some (List.replicate (a0_0 : Int).toNat [] : List (List Bool))).bind fun y102 => (spec_l4Table.l0 k l1 (wrap64 ((l1.length : Int) + 1)) y102 (y102.length : Int) 0 a0_0 a0_1 l0_2)) else (none)) else (none)) = some r := h
  clear h
  by_cases c3 : 0 ≤ a0_0
  · rw [if_pos c3] at H
    have c3b0 := eq_true c3
    have c3b1 : decide (0 ≤ a0_0) = true := decide_eq_true c3
    clear c3
    by_cases c4 : (a0_0 : Int).toNat ≤ 11728124029610
    · rw [if_pos c4] at H
      have c4b0 := eq_true c4
      have c4b1 : decide ((a0_0 : Int).toNat ≤ 11728124029610) = true := decide_eq_true c4
      clear c4
      obtain ⟨y102, hy102⟩ : ∃ y_ : List (List Bool), y_ = (List.replicate (a0_0 : Int).toNat []) := ⟨_, rfl⟩
      replace H : (spec_l4Table.l0 k l1 (wrap64 ((l1.length : Int) + 1)) y102 (y102.length : Int) 0 a0_0 a0_1 l0_2) = some r := by first | (rw [hy102]; with_reducible exact H) | (have H2_ := (Option.bind_some _ _).symm.trans H; rw [hy102]; with_reducible exact H2_) | (have H2_ := (Option.bind_some _ _).symm.trans H; with_reducible exact H2_) | with_reducible exact H | (rw [hy102]; exact H) | exact H
      have Ny102 := Aside0.mk hy102
      clear hy102
      have H' := Aside0.mk H
      clear H
      go_enter Try.func70, Try.ntmps70
      go_wp2_with (first | ((with_reducible refine gate_dst (N := 2) rfl ?_); refine box_event ?hg (N := 2) ?hd (cs := #[.int .i64 a0_0, .int .i64 a0_1, .slice A0_2 l0_2.length c0_2]) (t := 28) ?hr ?_; (case hd => rfl); (case hg => rfl); (case hr => first | (go_simp; done) | (go_simp; rfl)); intro gb101 hg w5 hbox hb; have n0_ := Aside0.mk (below_step (by repeat (first | (with_reducible first | exact HB.out | apply below_alloc | apply pw_below_drewN | apply below_drew1) | exact HB.out)) hb); have n1_ := Aside0.mk (hbox); have n2_ := Aside0.mk ((by rw [hg]; exact (below_size (by repeat (first | (with_reducible first | exact HB.out | apply below_alloc | apply pw_below_drewN | apply below_drew1) | exact HB.out))) : w.heap.size ≤ gb101)); have n3_ := Aside0.mk ((by rw [hg]; exact (below_size (by repeat (first | (with_reducible first | exact HB.out | apply below_alloc | apply pw_below_drewN | apply below_drew1) | exact HB.out))) : w.heap.size ≤ gb101)); clear HB; have HB := n0_; have BK101 := n1_; have GW101 := n2_; have GE101 := n3_; clear n0_ n1_ n2_ n3_; clear hb hbox hg; have hcz6_0 : w5.cell? ⟨gb101, 0, none⟩ = some (.int .i64 a0_0) := (blk_cell BK101.out 0).trans rfl; have hcz6_1 : w5.cell? ⟨gb101, 1, none⟩ = some (.int .i64 a0_1) := (blk_cell BK101.out 1).trans rfl; have hcz6_2 : w5.cell? ⟨gb101, 2, none⟩ = some (.slice A0_2 l0_2.length c0_2) := (blk_cell BK101.out 2).trans rfl; have hfz6_0 := blk_frozen BK101.out 0; have hfz6_1 := blk_frozen BK101.out 1; have hfz6_2 := blk_frozen BK101.out 2) | ((with_reducible refine gate_dst (N := 18) rfl ?_); refine Kd.S_make (Kd.slice 4 Kd.bool) _ 84 rfl (N := 18) rfl 81 _ _ rfl a0_0 rfl rfl Try.underlying81 (.slice none 0 0) 24 info84 rfl (by decide) (by omega) [] (ok := fun _ => True) (okp := fun _ => True) ⟨_, rfl, Kd.R_nil _ _ _ _ _⟩ (fun _ hk => hk) trivial (of_decide_eq_true (by first | (with_reducible assumption) | assumption)) (Nat.le_trans (Nat.mul_le_mul_right _ (of_decide_eq_true (by first | (with_reducible assumption) | assumption) : a0_0.toNat ≤ 11728124029610)) (by omega)) (Below.refl _ _) (Nat.le_refl _) ?_; intro v103 w7 ho8 hb hg_ hnew_; clear hg_ hnew_; (first | rw [← Ny102.out] at ho8 | (simp only [Int.reduceToNat] at ho8; rw [← Ny102.out] at ho8)); have n0_ := Aside0.mk (Kd.S_lower ho8 (below_size (by repeat (first | (with_reducible first | exact HB.out | apply below_alloc | apply pw_below_drewN | apply below_drew1 | refine below_set ?_ GE101.out) | exact HB.out)))); have n1_ := Aside0.mk (blk_below (g := gb101) (o := .cells #[.int .i64 a0_0, .int .i64 a0_1, .slice A0_2 l0_2.length c0_2] 28 (0, 0)) (by (with_reducible repeat (first | refine blk_drewN ?_ _ | refine blk_drew ?_ | refine blk_alloc ?_ _)); exact BK101.out) hb); have n2_ := Aside0.mk (below_step (by repeat (first | (with_reducible first | exact HB.out | apply below_alloc | apply pw_below_drewN | apply below_drew1 | refine below_set ?_ GE101.out) | exact HB.out)) hb); clear BK101; clear HB; have HO104 := n0_; have BK101 := n1_; have HB := n2_; clear n0_ n1_ n2_; clear hb ho8; obtain ⟨Ao9, co9, eo9⟩ := Kd.S_slice HO104.out; subst eo9))
      go_loopg [21] k (fun kq v21 w' => ∃ (x6_1 : List (List Bool)) (x21_1 : Int), v21 = .int .i64 x21_1 ∧ Aside0 (spec_l4Table.l0 kq l1 (wrap64 ((l1.length : Int) + 1)) x6_1 (y102.length : Int) x21_1 a0_0 a0_1 l0_2 = some r) ∧ Aside0 (kq ≤ k) ∧ Aside0 (Kd.S (Kd.slice 4 Kd.bool) 84 w' w.heap.size (fun _ => True) (.slice Ao9 y102.length co9) x6_1) ∧ Aside0 (w'.heap[gb101]? = some (.cells #[.int .i64 a0_0, .int .i64 a0_1, (.slice A0_2 l0_2.length c0_2)] 28 (0, 0))) ∧ Aside0 (Below w.heap.size w w'))
      case atStart => exact ⟨(y102), (0), (by first | rfl | (simp; done) | (simp [*]; done)), H', ⟨Nat.le_refl _⟩, ⟨by (with_reducible repeat (first | apply Kd.S_alloc | apply Kd.S_drewN | apply Kd.S_drew)); exact HO104.out⟩, ⟨by (with_reducible repeat (first | refine blk_drewN ?_ _ | refine blk_drew ?_ | refine blk_alloc ?_ _)); exact BK101.out⟩, ⟨by repeat (first | (with_reducible first | exact HB.out | apply below_alloc | apply pw_below_drewN | apply below_drew1 | refine below_set ?_ GE101.out) | exact HB.out)⟩⟩
      case round =>
        clear H'
        try clear c1
        try clear p2
        try clear c3
        try clear c3b0
        try clear c3b1
        try clear c4
        try clear c4b0
        try clear c4b1
        try clear p6
        try clear c7
        try clear hcz6_0
        try clear hcz6_1
        try clear hcz6_2
        try clear hfz6_0
        try clear hfz6_1
        try clear hfz6_2
        obtain ⟨x6_1, x21_1, rfl, HA, HK1, HO_6, BK101, HB⟩ := hrel
        have hl6_1 := (Kd.S_reads' HO_6.out).1
        rw [hl6_1] at HO_6
        (try simp only [hl6_1])
        (try simp only [hl6_1] at BK101)
        cases gk with
        | zero => exact absurd HA.out (by simp [spec_l4Table.l0])
        | succ k1 =>
          have H := HA.out
          clear HA
          simp only [spec_l4Table.l0] at H
          by_cases c10 : x21_1 < (y102.length : Int)
          · rw [if_pos c10] at H
            have c10b0 : decide (x21_1 < (y102.length : Int)) = true := decide_eq_true c10
            clear c10
            obtain ⟨ji11, hji11⟩ : ∃ j_ : Int, (wrap64 ((wrap64 ((l1.length : Int) + 1)) * (wrap64 ((l1.length : Int) + 1)))) = j_ := ⟨_, rfl⟩
            replace H : (if 0 ≤ (ji11) then (if (ji11 : Int).toNat ≤ 281474976710656 then (if 0 ≤ x21_1 then (if x21_1 < (x6_1.length : Int) then (spec_l4Table.l0 k1 l1 (wrap64 ((l1.length : Int) + 1)) (x6_1.set (x21_1 : Int).toNat (List.replicate (ji11 : Int).toNat false)) (y102.length : Int) (wrap64 (x21_1 + 1)) a0_0 a0_1 l0_2) else (none)) else (none)) else (none)) else (none)) = some r := by first | (rw [hji11] at H; exact H) | (simp only [hji11] at H ⊢; exact H)
            have hji11w : (IntKind.i64.wrap ((wrap64 ((l1.length : Int) + 1)) * (wrap64 ((l1.length : Int) + 1)))) = ji11 := (i64_w _).trans hji11
            by_cases c12 : 0 ≤ (ji11)
            · rw [if_pos c12] at H
              have c12b0 := eq_true c12
              have c12b1 : decide (0 ≤ (ji11)) = true := decide_eq_true c12
              clear c12
              by_cases c13 : (ji11 : Int).toNat ≤ 281474976710656
              · rw [if_pos c13] at H
                have c13b0 := eq_true c13
                have c13b1 : decide ((ji11 : Int).toNat ≤ 281474976710656) = true := decide_eq_true c13
                clear c13
                obtain ⟨y105, hy105⟩ : ∃ y_ : List Bool, y_ = (List.replicate (ji11 : Int).toNat false) := ⟨_, rfl⟩
                replace H : (if 0 ≤ x21_1 then (if x21_1 < (x6_1.length : Int) then (spec_l4Table.l0 k1 l1 (wrap64 ((l1.length : Int) + 1)) (x6_1.set (x21_1 : Int).toNat y105) (y102.length : Int) (wrap64 (x21_1 + 1)) a0_0 a0_1 l0_2) else (none)) else (none)) = some r := by first | (rw [hy105]; with_reducible exact H) | (have H2_ := (Option.bind_some _ _).symm.trans H; rw [hy105]; with_reducible exact H2_) | (have H2_ := (Option.bind_some _ _).symm.trans H; with_reducible exact H2_) | with_reducible exact H | (rw [hy105]; exact H) | exact H
                have Ny105 := Aside0.mk hy105
                clear hy105
                by_cases c14 : 0 ≤ x21_1
                · rw [if_pos c14] at H
                  have c14b0 : decide (0 ≤ x21_1) = true := decide_eq_true c14
                  clear c14
                  by_cases c15 : x21_1 < (x6_1.length : Int)
                  · rw [if_pos c15] at H
                    have c15b0 : decide (x21_1 < (x6_1.length : Int)) = true := decide_eq_true c15
                    clear c15
                    obtain ⟨y108, hy108⟩ : ∃ y_ : List (List Bool), y_ = (x6_1.set (x21_1 : Int).toNat y105) := ⟨_, rfl⟩
                    replace H : (spec_l4Table.l0 k1 l1 (wrap64 ((l1.length : Int) + 1)) y108 (y102.length : Int) (wrap64 (x21_1 + 1)) a0_0 a0_1 l0_2) = some r := by first | (rw [hy108]; with_reducible exact H) | (have H2_ := (Option.bind_some _ _).symm.trans H; rw [hy108]; with_reducible exact H2_) | (have H2_ := (Option.bind_some _ _).symm.trans H; with_reducible exact H2_) | with_reducible exact H | (rw [hy108]; exact H) | exact H
                    have Ny108 := Aside0.mk hy108
                    clear hy108
                    have H' := Aside0.mk H
                    clear H
                    go_wp2_with (first | ((with_reducible refine gate_dst (N := 29) rfl ?_); refine Kd.R_make Kd.bool _ 4 rfl (N := 29) rfl 84 _ _ rfl ji11 rfl rfl Try.underlying84 (.bool false) 1 info4 rfl (by decide) (by omega) false (ok := fun _ => True) (okp := fun _ => True) rfl (fun _ hk => hk) trivial (of_decide_eq_true (by first | (with_reducible assumption) | assumption)) (Nat.le_trans (Nat.mul_le_mul_right _ (of_decide_eq_true (by first | (with_reducible assumption) | assumption) : ji11.toNat ≤ 281474976710656)) (by omega)) (Below.refl _ _) (Nat.le_refl _) ?_; intro v106 w17 ho18 hb hg_ hnew_; clear hg_ hnew_; (first | rw [← Ny105.out] at ho18 | (simp only [Int.reduceToNat] at ho18; rw [← Ny105.out] at ho18)); have n0_ := Aside0.mk (Kd.S_elder' (by (with_reducible repeat (first | apply Kd.S_alloc | apply Kd.S_drewN | apply Kd.S_drew)); exact HO_6.out) (Kd.R_base ho18) hb); have n1_ := Aside0.mk (Kd.R_lower ho18 (below_size (by repeat (first | (with_reducible first | exact HB.out | apply below_alloc | apply pw_below_drewN | apply below_drew1 | refine below_set ?_ GE101.out) | exact HB.out)))); have n2_ := Aside0.mk (blk_below (g := gb101) (o := .cells #[.int .i64 a0_0, .int .i64 a0_1, .slice A0_2 l0_2.length c0_2] 28 (0, 0)) (by (with_reducible repeat (first | refine blk_drewN ?_ _ | refine blk_drew ?_ | refine blk_alloc ?_ _)); exact BK101.out) hb); have n3_ := Aside0.mk (below_step (by repeat (first | (with_reducible first | exact HB.out | apply below_alloc | apply pw_below_drewN | apply below_drew1 | refine below_set ?_ GE101.out) | exact HB.out)) hb); clear HO_6; clear BK101; clear HB; have HO_6 := n0_; have HO107 := n1_; have BK101 := n2_; have HB := n3_; clear n0_ n1_ n2_ n3_; clear hb ho18; obtain ⟨Ao106, co106, eo106⟩ := Kd.R_slice HO107.out; subst eo106; have p16 : 0 ≤ (x21_1 : Int) := of_decide_eq_true (by first | (with_reducible assumption) | assumption); have q16 : (x21_1 : Int) < ((x6_1.length : Int) : Int) := of_decide_eq_true (by first | (with_reducible assumption) | assumption); obtain ⟨go16, co16, eo16, gb16, gl16, cl16, HG16⟩ := Kd.S_form HO_6.out (by omega); (first | cases eo16 | (injection eo16 with ea_ en_ ec_; (first | subst ea_ | (injection ea_ with ea_; subst ea_)); subst ec_; clear en_)); have GB16 := Aside0.mk gb16; have GG16 := Aside0.mk HG16; clear gb16 gl16 HG16; obtain ⟨_, ce16, hcl16, hM16, hcc16, hfr16, _, _⟩ := Kd.S_elem HO_6.out [] (x21_1 : Int) p16 q16; obtain ⟨ve16_0, rfl, ge16_0⟩ := hM16; have hx16_0 := hcc16 0 _ rfl; have hf16_0 := hfr16 0; (try simp only [show ((Kd.slice 4 Kd.bool)).sz = 1 from rfl, Nat.mul_one, Nat.add_zero] at hx16_0); (try simp only [show ((Kd.slice 4 Kd.bool)).sz = 1 from rfl, Nat.mul_one, Nat.add_zero] at hf16_0); clear hcl16 hcc16 hfr16; (try clear hM16); replace p16 := eq_true p16; replace q16 := eq_true q16; have n_ := Aside0.mk (Kd.S_mono (ok' := (fun k_ => some k_ ≠ ((.slice Ao106 y105.length co106) : Value).ownBlock)) HO_6.out (fun k_ hk => hk.2)); clear HO_6; have HO_6 := n_; clear n_; have HX19 := Aside0.mk (show Kd.S (Kd.slice 4 Kd.bool) 84 w17 w.heap.size (fun k_ => ((fun _ => True)) k_ ∧ ¬ ((fun k_ => some k_ = ((.slice Ao106 y105.length co106) : Value).ownBlock)) k_) (.slice (some ⟨go16, 0, none⟩) x6_1.length co9) x6_1 from (by (with_reducible repeat (first | apply Kd.S_alloc | apply Kd.S_drewN | apply Kd.S_drew)); exact Kd.S_mono HO_6.out (fun k_ hk => ⟨trivial, fun e_ => hk e_⟩))); obtain ⟨oki19, ce19, hcl19, hM19, hcc19, hfr19, hoki19, hH19⟩ := Kd.S_elem HX19.out [] (x21_1 : Int) (of_decide_eq_true (by first | (with_reducible assumption) | assumption)) (by have h_ : (x21_1 : Int) < ((x6_1.length : Int) : Int) := of_decide_eq_true (by first | (with_reducible assumption) | assumption); first | exact h_ | (have e_ := (Kd.S_reads' HO_6.out).1; omega) | simpa using h_); obtain ⟨ve19_0, rfl, ge19_0⟩ := hM19; have HP19 := Kd.S_seg hH19 (of_decide_eq_true (by first | (with_reducible assumption) | assumption)) (by have h_ : (x21_1 : Int) < ((x6_1.length : Int) : Int) := of_decide_eq_true (by first | (with_reducible assumption) | assumption); first | exact h_ | (have e_ := (Kd.S_reads' HO_6.out).1; omega) | simpa using h_) (seg := [(.slice Ao106 y105.length co106)]) (j := 0) (show 1 ≤ 1 from by decide) (x' := y105) (Kd.M_row (Kd.R_mono (Kd.R_tight rfl (Kd.R_mono (ok' := fun k_ => ((fun _ => True)) k_ ∧ k_ ≠ go16) (Kd.R_apart' (HO107.out) (Kd.S_typed HO_6.out) (by decide)) (fun k_ hk => ⟨trivial, fun e_ => (hk.2) (by rw [e_]; rfl)⟩))) (fun _ h_ => Or.inr (h_)))) (fun _ hk => hk) (fun k_ hk_ => ((Kd.R_mono (ok' := fun k_ => ((fun _ => True)) k_ ∧ k_ ≠ go16) (Kd.R_apart' (HO107.out) (Kd.S_typed HO_6.out) (by decide)) (fun k_ hk => ⟨trivial, fun e_ => (hk.2) (by rw [e_]; rfl)⟩))).1 k_ hk_.symm); have hx19_0 := hcc19 0 _ rfl; (try simp only [show ((Kd.slice 4 Kd.bool)).sz = 1 from rfl, Nat.mul_one, Nat.add_zero] at hx19_0); have hf19_0 := hfr19 0; (try simp only [show ((Kd.slice 4 Kd.bool)).sz = 1 from rfl, Nat.mul_one, Nat.add_zero] at hf19_0); clear hcl19 hcc19 hfr19 hoki19 hH19; (try clear hM19); (try simp only [show ((Kd.slice 4 Kd.bool)).sz = 1 from rfl, Nat.mul_one, Nat.add_zero] at HP19)) | ((with_reducible refine gate_store (t := 84) (p := 30) rfl ?_); refine store_event (t := 84) (p := 30) (v := ?vo_w20) (w1 := (w17.setCell ⟨go16, (x21_1 : Int).toNat, none⟩ ((.slice Ao106 y105.length co106)))) ?hg ?ho ?hn ?hr ?_; (case ho => rfl); (case hg => rfl); (case hn => rfl); (case hr => first | (go_simp; done) | (go_simp; rfl)); intro w20 hw; have hg : w17.grownBy w20 (some go16) := (by rw [hw]; exact HP19.2); have hp_ : Kd.S (Kd.slice 4 Kd.bool) 84 w20 w.heap.size (fun _ => True) (.slice (some ⟨go16, 0, none⟩) x6_1.length co9) y108 := (by rw [hw, Ny108.out]; exact HP19.1); clear HP19; have n0_ := Aside0.mk (hp_); have n1_ := Aside0.mk (blk_grown (g := gb101) (o := .cells #[.int .i64 a0_0, .int .i64 a0_1, .slice A0_2 l0_2.length c0_2] 28 (0, 0)) (by (with_reducible repeat (first | refine blk_drewN ?_ _ | refine blk_drew ?_ | refine blk_alloc ?_ _)); exact BK101.out) hg (Kd.S_ne HO_6.out BK101.out (by decide))); have n2_ := Aside0.mk ((by rw [hw]; exact below_set (HB.out) GB16.out : Below w.heap.size w w20)); clear HO_6; clear BK101; clear HB; clear HO107; have HO_6 := n0_; have BK101 := n1_; have HB := n2_; clear n0_ n1_ n2_; clear hg hw hp_))
                    (try simp only [← hl6_1])
                    go_roundg k1
                    case measure => have := HK1.out; omega
                    case rel => exact ⟨(y108), (wrap64 (x21_1 + 1)), (by first | rfl | (simp; done) | (simp [*]; done)), H', ⟨by have := HK1.out; omega⟩, ⟨by (try simp only [hl6_1]); (with_reducible repeat (first | apply Kd.S_alloc | apply Kd.S_drewN | apply Kd.S_drew)); exact HO_6.out⟩, ⟨by (try simp only [hl6_1]); (with_reducible repeat (first | refine blk_drewN ?_ _ | refine blk_drew ?_ | refine blk_alloc ?_ _)); exact BK101.out⟩, ⟨by repeat (first | (with_reducible first | exact HB.out | apply below_alloc | apply pw_below_drewN | apply below_drew1 | refine below_set ?_ GE101.out) | exact HB.out)⟩⟩
                  · rw [if_neg c15] at H
                    exact absurd H (by simp)
                · rw [if_neg c14] at H
                  exact absurd H (by simp)
              · rw [if_neg c13] at H
                exact absurd H (by simp)
            · rw [if_neg c12] at H
              exact absurd H (by simp)
          · rw [if_neg c10] at H
            have c10b0 : decide (x21_1 < (y102.length : Int)) = false := decide_eq_false c10
            (try simp only [hl6_1] at c10b0)
            clear c10
            have H' := Aside0.mk H
            clear H
            go_wp2
            go_loopg [8] k1 (fun kq v8 w' => ∃ (x6_2 : List (List Bool)) (x8_2 : Bool), v8 = .bool x8_2 ∧ Aside0 (spec_l4Table.l1 kq l1 (wrap64 ((l1.length : Int) + 1)) x6_2 x8_2 a0_0 a0_1 l0_2 = some r) ∧ Aside0 (kq ≤ k1) ∧ Aside0 (Kd.S (Kd.slice 4 Kd.bool) 84 w' w.heap.size (fun _ => True) (.slice Ao9 x6_1.length co9) x6_2) ∧ Aside0 (w'.heap[gb101]? = some (.cells #[.int .i64 a0_0, .int .i64 a0_1, (.slice A0_2 l0_2.length c0_2)] 28 (0, 0))) ∧ Aside0 (Below w.heap.size w w'))
            case atStart => exact ⟨(x6_1), (true), (by first | rfl | (simp; done) | (simp [*]; done)), H', ⟨Nat.le_refl _⟩, ⟨by (try simp only [hl6_1]); (with_reducible repeat (first | apply Kd.S_alloc | apply Kd.S_drewN | apply Kd.S_drew)); exact HO_6.out⟩, ⟨by (try simp only [hl6_1]); (with_reducible repeat (first | refine blk_drewN ?_ _ | refine blk_drew ?_ | refine blk_alloc ?_ _)); exact BK101.out⟩, ⟨by repeat (first | (with_reducible first | exact HB.out | apply below_alloc | apply pw_below_drewN | apply below_drew1 | refine below_set ?_ GE101.out) | exact HB.out)⟩⟩
            case round =>
              clear H'
              try clear c1
              try clear p1
              try clear q1
              try clear hx1
              try clear p2
              try clear c3
              try clear c3b0
              try clear c3b1
              try clear c4
              try clear c4b0
              try clear c4b1
              try clear p6
              try clear c7
              try clear c10
              try clear c10b0
              try clear c12
              try clear c12b0
              try clear c12b1
              try clear c13
              try clear c13b0
              try clear c13b1
              try clear c14
              try clear c14b0
              try clear c15
              try clear c15b0
              try clear c16
              try clear p16
              try clear q16
              try clear hx16
              try clear hf16
              try clear c19
              try clear hx19
              try clear hf19
              try clear hcz6_0
              try clear hcz6_1
              try clear hcz6_2
              try clear hfz6_0
              try clear hfz6_1
              try clear hfz6_2
              try clear hx16_0
              try clear hx19_0
              try clear p16
              try clear p2
              try clear p6
              try clear q16
              obtain ⟨x6_2, x8_2, rfl, HA, HK2, HO_6, BK101, HB⟩ := hrel
              have hl6_2 := (Kd.S_reads' HO_6.out).1
              rw [hl6_2] at HO_6
              (try simp only [hl6_2])
              (try simp only [hl6_2] at BK101)
              cases gk with
              | zero => exact absurd HA.out (by simp [spec_l4Table.l1])
              | succ k2 =>
                have H := HA.out
                clear HA
                simp only [spec_l4Table.l1] at H
                by_cases c21 : x8_2 = true
                · subst c21
                  have H1 : (spec_l4Table.l2 k2 l1 (wrap64 ((l1.length : Int) + 1)) x6_2 false l0_2 (l0_2.length : Int) 0 a0_0 a0_1 l0_2) = some r := by rw [if_pos rfl] at H; exact H
                  clear H
                  have H := H1
                  clear H1
                  have H' := Aside0.mk H
                  clear H
                  have hcz22_0 : wr.cell? ⟨gb101, 0, none⟩ = some (.int .i64 a0_0) := (blk_cell BK101.out 0).trans rfl
                  have hcz22_1 : wr.cell? ⟨gb101, 1, none⟩ = some (.int .i64 a0_1) := (blk_cell BK101.out 1).trans rfl
                  have hcz22_2 : wr.cell? ⟨gb101, 2, none⟩ = some (.slice A0_2 l0_2.length c0_2) := (blk_cell BK101.out 2).trans rfl
                  have hfz22_0 := blk_frozen BK101.out 0
                  have hfz22_1 := blk_frozen BK101.out 1
                  have hfz22_2 := blk_frozen BK101.out 2
                  go_wp2
                  go_loopg [8, 36] k2 (fun kq v8 v36 w' => ∃ (x6_3 : List (List Bool)) (x8_3 : Bool) (x36_3 : Int), v8 = .bool x8_3 ∧ v36 = .int .i64 x36_3 ∧ Aside0 (spec_l4Table.l2 kq l1 (wrap64 ((l1.length : Int) + 1)) x6_3 x8_3 l0_2 (l0_2.length : Int) x36_3 a0_0 a0_1 l0_2 = some r) ∧ Aside0 (kq ≤ k2) ∧ Aside0 (Kd.S (Kd.slice 4 Kd.bool) 84 w' w.heap.size (fun _ => True) (.slice Ao9 x6_2.length co9) x6_3) ∧ Aside0 (w'.heap[gb101]? = some (.cells #[.int .i64 a0_0, .int .i64 a0_1, (.slice A0_2 l0_2.length c0_2)] 28 (0, 0))) ∧ Aside0 (Below w.heap.size w w'))
                  case atStart => exact ⟨(x6_2), (false), (0), (by first | rfl | (simp; done) | (simp [*]; done)), (by first | rfl | (simp; done) | (simp [*]; done)), H', ⟨Nat.le_refl _⟩, ⟨by (try simp only [hl6_1]); (try simp only [hl6_2]); (with_reducible repeat (first | apply Kd.S_alloc | apply Kd.S_drewN | apply Kd.S_drew)); exact HO_6.out⟩, ⟨by (try simp only [hl6_1]); (try simp only [hl6_2]); (with_reducible repeat (first | refine blk_drewN ?_ _ | refine blk_drew ?_ | refine blk_alloc ?_ _)); exact BK101.out⟩, ⟨by repeat (first | (with_reducible first | exact HB.out | apply below_alloc | apply pw_below_drewN | apply below_drew1 | refine below_set ?_ GE101.out) | exact HB.out)⟩⟩
                  case round =>
                    clear H'
                    try clear c1
                    try clear p1
                    try clear q1
                    try clear hx1
                    try clear c2
                    try clear p2
                    try clear c3
                    try clear c3b0
                    try clear c3b1
                    try clear c4
                    try clear c4b0
                    try clear c4b1
                    try clear p6
                    try clear c7
                    try clear c10
                    try clear c10b0
                    try clear c12
                    try clear c12b0
                    try clear c12b1
                    try clear c13
                    try clear c13b0
                    try clear c13b1
                    try clear c14
                    try clear c14b0
                    try clear c15
                    try clear c15b0
                    try clear c16
                    try clear p16
                    try clear q16
                    try clear hx16
                    try clear hf16
                    try clear c19
                    try clear hx19
                    try clear hf19
                    try clear c21
                    try clear hcz22_0
                    try clear hcz22_1
                    try clear hcz22_2
                    try clear hcz6_0
                    try clear hcz6_1
                    try clear hcz6_2
                    try clear hfz22_0
                    try clear hfz22_1
                    try clear hfz22_2
                    try clear hfz6_0
                    try clear hfz6_1
                    try clear hfz6_2
                    try clear hx16_0
                    try clear hx19_0
                    try clear p1
                    try clear p16
                    try clear p2
                    try clear p6
                    try clear q1
                    try clear q16
                    obtain ⟨x6_3, x8_3, x36_3, rfl, rfl, HA, HK3, HO_6, BK101, HB⟩ := hrel
                    have hl6_3 := (Kd.S_reads' HO_6.out).1
                    rw [hl6_3] at HO_6
                    (try simp only [hl6_3])
                    (try simp only [hl6_3] at BK101)
                    cases gk with
                    | zero => exact absurd HA.out (by simp [spec_l4Table.l2])
                    | succ k3 =>
                      have H := HA.out
                      clear HA
                      simp only [spec_l4Table.l2] at H
                      by_cases c23 : x36_3 < (l0_2.length : Int)
                      · rw [if_pos c23] at H
                        have c23b0 : decide (x36_3 < (l0_2.length : Int)) = true := decide_eq_true c23
                        clear c23
                        by_cases c24 : 0 ≤ x36_3
                        · rw [if_pos c24] at H
                          have c24b0 : decide (0 ≤ x36_3) = true := decide_eq_true c24
                          clear c24
                          by_cases c25 : x36_3 < (l0_2.length : Int)
                          · rw [if_pos c25] at H
                            have c25b0 : decide (x36_3 < (l0_2.length : Int)) = true := decide_eq_true c25
                            clear c25
                            have H' := Aside0.mk H
                            clear H
                            have p109 : 0 ≤ (x36_3 : Int) := of_decide_eq_true (by first | (with_reducible assumption) | assumption)
                            have q109 : x36_3 < (l0_2.length : Int) := of_decide_eq_true (by first | (with_reducible assumption) | assumption)
                            obtain ⟨ad109, A109_1, c109_1, e109, hx109_0, hx109_1, hl109_1, hi109_1⟩ := at_T87 HR0_2.out x36_3 p109 q109
                            cases e109
                            replace hx109_0 := (HB.out.cell (World.block_lt_of_cell? w _ hx109_0)).trans hx109_0
                            replace hx109_1 := (HB.out.cell (World.block_lt_of_cell? w _ hx109_1)).trans hx109_1
                            have HR109_1 := Aside0.mk hi109_1
                            have HC109_1 := Aside0.mk hl109_1
                            clear hi109_1 hl109_1
                            replace p109 := eq_true p109
                            replace q109 := eq_true q109
                            go_wp2_with (first | ((with_reducible refine gate_dst (N := 10) rfl ?_); refine box_event ?hg (N := 10) ?hd (cs := #[.int .i64 0, .slice none 0 0]) (t := 87) ?hr ?_; (case hd => rfl); (case hg => rfl); (case hr => first | (go_simp; done) | (go_simp; rfl)); intro gb110 hg w26 hbox hb; have n0_ := Aside0.mk (Kd.S_below (by (with_reducible repeat (first | apply Kd.S_alloc | apply Kd.S_drewN | apply Kd.S_drew)); exact HO_6.out) hb); have n1_ := Aside0.mk (blk_below (g := gb101) (o := .cells #[.int .i64 a0_0, .int .i64 a0_1, .slice (some ad109) l0_2.length c0_2] 28 (0, 0)) (by (with_reducible repeat (first | refine blk_drewN ?_ _ | refine blk_drew ?_ | refine blk_alloc ?_ _)); exact BK101.out) hb); have n2_ := Aside0.mk (below_step (by repeat (first | (with_reducible first | exact HB.out | apply below_alloc | apply pw_below_drewN | apply below_drew1 | refine below_set ?_ GE101.out) | exact HB.out)) hb); have n3_ := Aside0.mk (hbox); have n4_ := Aside0.mk ((by rw [hg]; exact (below_size (by repeat (first | (with_reducible first | exact HB.out | apply below_alloc | apply pw_below_drewN | apply below_drew1 | refine below_set ?_ GE101.out) | exact HB.out))) : w.heap.size ≤ gb110)); have n5_ := Aside0.mk ((by rw [hg]; exact (below_size (by repeat (first | (with_reducible first | exact HB.out | apply below_alloc | apply pw_below_drewN | apply below_drew1 | refine below_set ?_ GE101.out) | exact HB.out))) : w.heap.size ≤ gb110)); have n6_ := Aside0.mk ((by rw [hg]; exact Nat.ne_of_lt (blk_lt (g := gb101) (o := .cells #[.int .i64 a0_0, .int .i64 a0_1, .slice (some ad109) l0_2.length c0_2] 28 (0, 0)) (by (with_reducible repeat (first | refine blk_drewN ?_ _ | refine blk_drew ?_ | refine blk_alloc ?_ _)); exact BK101.out)) : gb101 ≠ gb110)); have n7_ := Aside0.mk ((by rw [hg]; exact Nat.ne_of_gt (blk_lt (g := gb101) (o := .cells #[.int .i64 a0_0, .int .i64 a0_1, .slice (some ad109) l0_2.length c0_2] 28 (0, 0)) (by (with_reducible repeat (first | refine blk_drewN ?_ _ | refine blk_drew ?_ | refine blk_alloc ?_ _)); exact BK101.out)) : gb110 ≠ gb101)); clear HO_6; clear BK101; clear HB; have HO_6 := n0_; have BK101 := n1_; have HB := n2_; have BK110 := n3_; have GW110 := n4_; have GE110 := n5_; have NB101_110 := n6_; have NB110_101 := n7_; clear n0_ n1_ n2_ n3_ n4_ n5_ n6_ n7_; clear hb hbox hg; have hnb27 := NB110_101.out; have hnc27 := NB101_110.out; have hcz28_0 : w26.cell? ⟨gb110, 0, none⟩ = some (.int .i64 0) := (blk_cell BK110.out 0).trans rfl; have hcz28_1 : w26.cell? ⟨gb110, 1, none⟩ = some (.slice none 0 0) := (blk_cell BK110.out 1).trans rfl; have hfz28_0 := blk_frozen BK110.out 0; have hfz28_1 := blk_frozen BK110.out 1))
                            go_loopg [8, 11] k3 (fun kq v8 v11 w' => ∃ (x6_4 : List (List Bool)) (x8_4 : Bool) (x11_4 : Int), v8 = .bool x8_4 ∧ v11 = .int .i64 x11_4 ∧ Aside0 (spec_l4Table.l3 kq l1 (wrap64 ((l1.length : Int) + 1)) x6_4 x8_4 x11_4 l0_2 (l0_2.length : Int) x36_3 a0_0 a0_1 l0_2 ((rd_T87 l0_2 x36_3).f0) ((rd_T87 l0_2 x36_3).f1) = some r) ∧ Aside0 (kq ≤ k3) ∧ Aside0 (Kd.S (Kd.slice 4 Kd.bool) 84 w' w.heap.size (fun _ => True) (.slice Ao9 x6_3.length co9) x6_4) ∧ Aside0 (w'.heap[gb101]? = some (.cells #[.int .i64 a0_0, .int .i64 a0_1, (.slice (some ad109) l0_2.length c0_2)] 28 (0, 0))) ∧ Aside0 (w'.heap[gb110]? = some (.cells #[.int .i64 ((rd_T87 l0_2 x36_3).f0), (.slice A109_1 ((rd_T87 l0_2 x36_3).f1).length c109_1)] 87 (0, 0))) ∧ Aside0 (Below w.heap.size w w'))
                            case atStart => exact ⟨(x6_3), (x8_3), (0), (by first | rfl | (simp; done) | (simp [*]; done)), (by first | rfl | (simp; done) | (simp [*]; done)), H', ⟨Nat.le_refl _⟩, ⟨by (try simp only [hl6_1]); (try simp only [hl6_2]); (try simp only [hl6_3]); (with_reducible repeat (first | apply Kd.S_alloc | apply Kd.S_drewN | apply Kd.S_drew)); exact Kd.S_mono (Kd.S_far (p := ⟨gb110, 1, none⟩) (Kd.S_far (p := ⟨gb110, 0, none⟩) (Kd.S_types HO_6.out BK110.out (by decide)) (fun _ hk => hk.2) (.int .i64 ((rd_T87 l0_2 x36_3).f0))) (fun _ hk => hk.2) (.slice A109_1 ((rd_T87 l0_2 x36_3).f1).length c109_1)) (fun _ hk => trivial)⟩, ⟨by (try simp only [hl6_1]); (try simp only [hl6_2]); (try simp only [hl6_3]); (with_reducible repeat (first | refine blk_drewN ?_ _ | refine blk_drew ?_ | refine blk_alloc ?_ _)); refine blk_far ?_ NB101_110.out _; (with_reducible repeat (first | refine blk_drewN ?_ _ | refine blk_drew ?_ | refine blk_alloc ?_ _)); refine blk_far ?_ NB101_110.out _; (with_reducible repeat (first | refine blk_drewN ?_ _ | refine blk_drew ?_ | refine blk_alloc ?_ _)); exact BK101.out⟩, ⟨by (try simp only [hl6_1]); (try simp only [hl6_2]); (try simp only [hl6_3]); (with_reducible repeat (first | refine blk_drewN ?_ _ | refine blk_drew ?_ | refine blk_alloc ?_ _)); refine blk_put (cs := #[.int .i64 ((rd_T87 l0_2 x36_3).f0), .slice none 0 0]) ?_ 1 _ rfl; (with_reducible repeat (first | refine blk_drewN ?_ _ | refine blk_drew ?_ | refine blk_alloc ?_ _)); refine blk_put (cs := #[.int .i64 0, .slice none 0 0]) ?_ 0 _ rfl; (with_reducible repeat (first | refine blk_drewN ?_ _ | refine blk_drew ?_ | refine blk_alloc ?_ _)); exact BK110.out⟩, ⟨by repeat (first | (with_reducible first | exact HB.out | apply below_alloc | apply pw_below_drewN | apply below_drew1 | refine below_set ?_ GE101.out | refine below_set ?_ GE110.out) | exact HB.out)⟩⟩
                            case round =>
                              clear H'
                              try clear c1
                              try clear p1
                              try clear q1
                              try clear hx1
                              try clear c2
                              try clear p2
                              try clear c3
                              try clear c3b0
                              try clear c3b1
                              try clear c4
                              try clear c4b0
                              try clear c4b1
                              try clear p6
                              try clear c7
                              try clear c10
                              try clear c10b0
                              try clear p10
                              try clear q10
                              try clear hx10
                              try clear c12
                              try clear c12b0
                              try clear c12b1
                              try clear c13
                              try clear c13b0
                              try clear c13b1
                              try clear c14
                              try clear c14b0
                              try clear c15
                              try clear c15b0
                              try clear c16
                              try clear p16
                              try clear q16
                              try clear hx16
                              try clear hf16
                              try clear c19
                              try clear hx19
                              try clear hf19
                              try clear c21
                              try clear c23
                              try clear c23b0
                              try clear c24
                              try clear c24b0
                              try clear c25
                              try clear c25b0
                              try clear c27
                              try clear hcz22_0
                              try clear hcz22_1
                              try clear hcz22_2
                              try clear hcz28_0
                              try clear hcz28_1
                              try clear hcz6_0
                              try clear hcz6_1
                              try clear hcz6_2
                              try clear hfz22_0
                              try clear hfz22_1
                              try clear hfz22_2
                              try clear hfz28_0
                              try clear hfz28_1
                              try clear hfz6_0
                              try clear hfz6_1
                              try clear hfz6_2
                              try clear hx109_0
                              try clear hx109_1
                              try clear hx16_0
                              try clear hx19_0
                              try clear p1
                              try clear p109
                              try clear p16
                              try clear p2
                              try clear p6
                              try clear q1
                              try clear q109
                              try clear q16
                              obtain ⟨x6_4, x8_4, x11_4, rfl, rfl, HA, HK4, HO_6, BK101, BK110, HB⟩ := hrel
                              have hl6_4 := (Kd.S_reads' HO_6.out).1
                              rw [hl6_4] at HO_6
                              (try simp only [hl6_4])
                              (try simp only [hl6_4] at BK101)
                              (try simp only [hl6_4] at BK110)
                              cases gk with
                              | zero => exact absurd HA.out (by simp [spec_l4Table.l3])
                              | succ k4 =>
                                have H := HA.out
                                clear HA
                                simp only [spec_l4Table.l3] at H
                                by_cases c29 : x11_4 < (wrap64 ((l1.length : Int) + 1))
                                · rw [if_pos c29] at H
                                  have c29b0 : decide (x11_4 < (wrap64 ((l1.length : Int) + 1))) = true := decide_eq_true c29
                                  clear c29
                                  have H' := Aside0.mk H
                                  clear H
                                  go_wp2
                                  go_loopg [8, 12] k4 (fun kq v8 v12 w' => ∃ (x6_5 : List (List Bool)) (x8_5 : Bool) (x12_5 : Int), v8 = .bool x8_5 ∧ v12 = .int .i64 x12_5 ∧ Aside0 (spec_l4Table.l4 kq l1 (wrap64 ((l1.length : Int) + 1)) x6_5 x8_5 x11_4 x12_5 l0_2 (l0_2.length : Int) x36_3 a0_0 a0_1 l0_2 ((rd_T87 l0_2 x36_3).f0) ((rd_T87 l0_2 x36_3).f1) = some r) ∧ Aside0 (kq ≤ k4) ∧ Aside0 (Kd.S (Kd.slice 4 Kd.bool) 84 w' w.heap.size (fun _ => True) (.slice Ao9 x6_4.length co9) x6_5) ∧ Aside0 (w'.heap[gb101]? = some (.cells #[.int .i64 a0_0, .int .i64 a0_1, (.slice (some ad109) l0_2.length c0_2)] 28 (0, 0))) ∧ Aside0 (w'.heap[gb110]? = some (.cells #[.int .i64 ((rd_T87 l0_2 x36_3).f0), (.slice A109_1 ((rd_T87 l0_2 x36_3).f1).length c109_1)] 87 (0, 0))) ∧ Aside0 (Below w.heap.size w w'))
                                  case atStart => exact ⟨(x6_4), (x8_4), (x11_4), (by first | rfl | (simp; done) | (simp [*]; done)), (by first | rfl | (simp; done) | (simp [*]; done)), H', ⟨Nat.le_refl _⟩, ⟨by (try simp only [hl6_1]); (try simp only [hl6_2]); (try simp only [hl6_3]); (try simp only [hl6_4]); (with_reducible repeat (first | apply Kd.S_alloc | apply Kd.S_drewN | apply Kd.S_drew)); exact HO_6.out⟩, ⟨by (try simp only [hl6_1]); (try simp only [hl6_2]); (try simp only [hl6_3]); (try simp only [hl6_4]); (with_reducible repeat (first | refine blk_drewN ?_ _ | refine blk_drew ?_ | refine blk_alloc ?_ _)); exact BK101.out⟩, ⟨by (try simp only [hl6_1]); (try simp only [hl6_2]); (try simp only [hl6_3]); (try simp only [hl6_4]); (with_reducible repeat (first | refine blk_drewN ?_ _ | refine blk_drew ?_ | refine blk_alloc ?_ _)); exact BK110.out⟩, ⟨by repeat (first | (with_reducible first | exact HB.out | apply below_alloc | apply pw_below_drewN | apply below_drew1 | refine below_set ?_ GE101.out | refine below_set ?_ GE110.out) | exact HB.out)⟩⟩
                                  case round =>
                                    clear H'
                                    try clear c1
                                    try clear p1
                                    try clear q1
                                    try clear hx1
                                    try clear c2
                                    try clear p2
                                    try clear c3
                                    try clear c3b0
                                    try clear c3b1
                                    try clear c4
                                    try clear c4b0
                                    try clear c4b1
                                    try clear p6
                                    try clear c7
                                    try clear c10
                                    try clear c10b0
                                    try clear p10
                                    try clear q10
                                    try clear hx10
                                    try clear c12
                                    try clear c12b0
                                    try clear c12b1
                                    try clear c13
                                    try clear c13b0
                                    try clear c13b1
                                    try clear c14
                                    try clear c14b0
                                    try clear c15
                                    try clear c15b0
                                    try clear c16
                                    try clear p16
                                    try clear q16
                                    try clear hx16
                                    try clear hf16
                                    try clear c19
                                    try clear hx19
                                    try clear hf19
                                    try clear c21
                                    try clear c23
                                    try clear c23b0
                                    try clear c24
                                    try clear c24b0
                                    try clear c25
                                    try clear c25b0
                                    try clear c27
                                    try clear c29
                                    try clear c29b0
                                    try clear hcz22_0
                                    try clear hcz22_1
                                    try clear hcz22_2
                                    try clear hcz28_0
                                    try clear hcz28_1
                                    try clear hcz6_0
                                    try clear hcz6_1
                                    try clear hcz6_2
                                    try clear hfz22_0
                                    try clear hfz22_1
                                    try clear hfz22_2
                                    try clear hfz28_0
                                    try clear hfz28_1
                                    try clear hfz6_0
                                    try clear hfz6_1
                                    try clear hfz6_2
                                    try clear hx109_0
                                    try clear hx109_1
                                    try clear hx16_0
                                    try clear hx19_0
                                    try clear p1
                                    try clear p10
                                    try clear p109
                                    try clear p16
                                    try clear p2
                                    try clear p6
                                    try clear q1
                                    try clear q10
                                    try clear q109
                                    try clear q16
                                    obtain ⟨x6_5, x8_5, x12_5, rfl, rfl, HA, HK5, HO_6, BK101, BK110, HB⟩ := hrel
                                    have hl6_5 := (Kd.S_reads' HO_6.out).1
                                    rw [hl6_5] at HO_6
                                    (try simp only [hl6_5])
                                    (try simp only [hl6_5] at BK101)
                                    (try simp only [hl6_5] at BK110)
                                    cases gk with
                                    | zero => exact absurd HA.out (by simp [spec_l4Table.l4])
                                    | succ k5 =>
                                      have H := HA.out
                                      clear HA
                                      simp only [spec_l4Table.l4] at H
                                      by_cases c30 : x12_5 < (wrap64 ((l1.length : Int) + 1))
                                      · rw [if_pos c30] at H
                                        have c30b0 : decide (x12_5 < (wrap64 ((l1.length : Int) + 1))) = true := decide_eq_true c30
                                        clear c30
                                        by_cases c31 : 0 ≤ ((rd_T87 l0_2 x36_3).f0)
                                        · rw [if_pos c31] at H
                                          have c31b0 : decide (0 ≤ ((rd_T87 l0_2 x36_3).f0)) = true := decide_eq_true c31
                                          clear c31
                                          by_cases c32 : ((rd_T87 l0_2 x36_3).f0) < (x6_5.length : Int)
                                          · rw [if_pos c32] at H
                                            have c32b0 : decide (((rd_T87 l0_2 x36_3).f0) < (x6_5.length : Int)) = true := decide_eq_true c32
                                            clear c32
                                            obtain ⟨ji33, hji33⟩ : ∃ j_ : Int, (wrap64 ((wrap64 (x11_4 * (wrap64 ((l1.length : Int) + 1)))) + x12_5)) = j_ := ⟨_, rfl⟩
                                            replace H : (if 0 ≤ (ji33) then (if (ji33) < ((rd_L7 x6_5 ((rd_T87 l0_2 x36_3).f0)).length : Int) then (if (rdOf false (rd_L7 x6_5 ((rd_T87 l0_2 x36_3).f0)) (ji33) = true) then (spec_l4Table.l4 k5 l1 (wrap64 ((l1.length : Int) + 1)) x6_5 x8_5 x11_4 (wrap64 (x12_5 + 1)) l0_2 (l0_2.length : Int) x36_3 a0_0 a0_1 l0_2 ((rd_T87 l0_2 x36_3).f0) ((rd_T87 l0_2 x36_3).f1)) else ((spec_l4Fits.f k5 x6_5 l1 ((rd_T87 l0_2 x36_3).f1) x11_4 x12_5).bind fun t113 => (if t113 = true then (spec_l4Table.l4 k5 l1 (wrap64 ((l1.length : Int) + 1)) (x6_5.set (((rd_T87 l0_2 x36_3).f0) : Int).toNat ((rd_L7 x6_5 ((rd_T87 l0_2 x36_3).f0)).set ((ji33) : Int).toNat true)) true x11_4 (wrap64 (x12_5 + 1)) l0_2 (l0_2.length : Int) x36_3 a0_0 a0_1 l0_2 ((rd_T87 l0_2 x36_3).f0) ((rd_T87 l0_2 x36_3).f1)) else (spec_l4Table.l4 k5 l1 (wrap64 ((l1.length : Int) + 1)) x6_5 x8_5 x11_4 (wrap64 (x12_5 + 1)) l0_2 (l0_2.length : Int) x36_3 a0_0 a0_1 l0_2 ((rd_T87 l0_2 x36_3).f0) ((rd_T87 l0_2 x36_3).f1))))) else (none)) else (none)) = some r := by first | (rw [hji33] at H; exact H) | (simp only [hji33] at H ⊢; exact H)
                                            have hji33w : (IntKind.i64.wrap ((wrap64 (x11_4 * (wrap64 ((l1.length : Int) + 1)))) + x12_5)) = ji33 := (i64_w _).trans hji33
                                            by_cases c34 : 0 ≤ (ji33)
                                            · rw [if_pos c34] at H
                                              have c34b0 : decide (0 ≤ (ji33)) = true := decide_eq_true c34
                                              clear c34
                                              by_cases c35 : (ji33) < ((rd_L7 x6_5 ((rd_T87 l0_2 x36_3).f0)).length : Int)
                                              · rw [if_pos c35] at H
                                                have c35b0 : decide ((ji33) < ((rd_L7 x6_5 ((rd_T87 l0_2 x36_3).f0)).length : Int)) = true := decide_eq_true c35
                                                clear c35
                                                obtain ⟨bq36, hbq36⟩ : ∃ b_ : Bool, b_ = (rdOf false (rd_L7 x6_5 ((rd_T87 l0_2 x36_3).f0)) (ji33)) := ⟨_, rfl⟩
                                                replace H : (if (bq36 = true) then (spec_l4Table.l4 k5 l1 (wrap64 ((l1.length : Int) + 1)) x6_5 x8_5 x11_4 (wrap64 (x12_5 + 1)) l0_2 (l0_2.length : Int) x36_3 a0_0 a0_1 l0_2 ((rd_T87 l0_2 x36_3).f0) ((rd_T87 l0_2 x36_3).f1)) else ((spec_l4Fits.f k5 x6_5 l1 ((rd_T87 l0_2 x36_3).f1) x11_4 x12_5).bind fun t113 => (if t113 = true then (spec_l4Table.l4 k5 l1 (wrap64 ((l1.length : Int) + 1)) (x6_5.set (((rd_T87 l0_2 x36_3).f0) : Int).toNat ((rd_L7 x6_5 ((rd_T87 l0_2 x36_3).f0)).set ((ji33) : Int).toNat true)) true x11_4 (wrap64 (x12_5 + 1)) l0_2 (l0_2.length : Int) x36_3 a0_0 a0_1 l0_2 ((rd_T87 l0_2 x36_3).f0) ((rd_T87 l0_2 x36_3).f1)) else (spec_l4Table.l4 k5 l1 (wrap64 ((l1.length : Int) + 1)) x6_5 x8_5 x11_4 (wrap64 (x12_5 + 1)) l0_2 (l0_2.length : Int) x36_3 a0_0 a0_1 l0_2 ((rd_T87 l0_2 x36_3).f0) ((rd_T87 l0_2 x36_3).f1))))) = some r := by rw [← hbq36] at H; exact H
                                                have Nbq36 := Aside0.mk hbq36
                                                clear hbq36
                                                by_cases c37 : (bq36 = true)
                                                · subst c37
                                                  have H1 : (spec_l4Table.l4 k5 l1 (wrap64 ((l1.length : Int) + 1)) x6_5 x8_5 x11_4 (wrap64 (x12_5 + 1)) l0_2 (l0_2.length : Int) x36_3 a0_0 a0_1 l0_2 ((rd_T87 l0_2 x36_3).f0) ((rd_T87 l0_2 x36_3).f1)) = some r := by rw [if_pos rfl] at H; exact H
                                                  clear H
                                                  have H := H1
                                                  clear H1
                                                  have H' := Aside0.mk H
                                                  clear H
                                                  have hnb38 := NB110_101.out
                                                  have hnc38 := NB101_110.out
                                                  have hcz39_0 : wr.cell? ⟨gb110, 0, none⟩ = some (.int .i64 ((rd_T87 l0_2 x36_3).f0)) := (blk_cell BK110.out 0).trans rfl
                                                  have hcz39_1 : wr.cell? ⟨gb110, 1, none⟩ = some (.slice A109_1 ((rd_T87 l0_2 x36_3).f1).length c109_1) := (blk_cell BK110.out 1).trans rfl
                                                  have hfz39_0 := blk_frozen BK110.out 0
                                                  have hfz39_1 := blk_frozen BK110.out 1
                                                  have p111 : 0 ≤ (((rd_T87 l0_2 x36_3).f0) : Int) := of_decide_eq_true (by first | (with_reducible assumption) | assumption)
                                                  have q111 : ((rd_T87 l0_2 x36_3).f0) < (x6_5.length : Int) := of_decide_eq_true (by first | (with_reducible assumption) | assumption)
                                                  obtain ⟨ad111, A111_0, c111_0, e111, hx111_0, hl111_0, hi111_0⟩ := at_L7 (Kd.S_reads' HO_6.out).2.2 ((rd_T87 l0_2 x36_3).f0) p111 q111
                                                  cases e111
                                                  obtain ⟨ce111, hce111, hMe111, hcc111⟩ := Kd.S_get HO_6.out [] ((rd_T87 l0_2 x36_3).f0) p111 (by first | exact q111 | exact of_decide_eq_true (by first | (with_reducible assumption) | assumption) | (have e_ := (Kd.S_reads' HO_6.out).1; omega))
                                                  obtain ⟨ve111_0, rfl, ge111_0⟩ := hMe111
                                                  have hv111_0 := hcc111 0 _ rfl
                                                  rw [Nat.add_zero, show ((Kd.slice 4 Kd.bool)).sz = 1 from rfl, Nat.mul_one] at hv111_0
                                                  replace hv111_0 := Option.some.inj (hv111_0.symm.trans hx111_0)
                                                  rw [hv111_0] at ge111_0
                                                  have HL111_0 := Aside0.mk (show Kd.R Kd.bool 4 _ _ _ _ (rd_L7 x6_5 ((rd_T87 l0_2 x36_3).f0)) from ge111_0)
                                                  clear hv111_0 ge111_0
                                                  have HX111_0 := Aside0.mk hx111_0
                                                  clear hcc111 hce111
                                                  have HR111_0 := Aside0.mk hi111_0
                                                  have HC111_0 := Aside0.mk hl111_0
                                                  clear hi111_0 hl111_0
                                                  replace p111 := eq_true p111
                                                  replace q111 := eq_true q111
                                                  have p112 : 0 ≤ ((ji33) : Int) := of_decide_eq_true (by first | (with_reducible assumption) | assumption)
                                                  have q112 : (ji33) < ((rd_L7 x6_5 ((rd_T87 l0_2 x36_3).f0)).length : Int) := of_decide_eq_true (by first | (with_reducible assumption) | assumption)
                                                  obtain ⟨ad112, e112, hx112_0⟩ := Kd.at_bool (by repeat (first | (with_reducible exact HR111_0.out) | (with_reducible refine Kd.C_alloc ?_ _) | (with_reducible refine Kd.C_drewN ?_ _) | (with_reducible refine Kd.C_drew ?_) | exact HR111_0.out)) (ji33) p112 q112
                                                  (try rw [← Nbq36.out] at hx112_0)
                                                  cases e112
                                                  replace p112 := eq_true p112
                                                  replace q112 := eq_true q112
                                                  go_wp2
                                                  (try simp only [← hl6_5])
                                                  go_roundg k5
                                                  case measure => have := HK1.out; have := HK2.out; have := HK3.out; have := HK4.out; have := HK5.out; omega
                                                  case rel => exact ⟨(x6_5), (x8_5), (wrap64 (x12_5 + 1)), (by first | rfl | (simp; done) | (simp [*]; done)), (by first | rfl | (simp; done) | (simp [*]; done)), H', ⟨by have := HK1.out; have := HK2.out; have := HK3.out; have := HK4.out; have := HK5.out; omega⟩, ⟨by (try simp only [hl6_1]); (try simp only [hl6_2]); (try simp only [hl6_3]); (try simp only [hl6_4]); (try simp only [hl6_5]); (with_reducible repeat (first | apply Kd.S_alloc | apply Kd.S_drewN | apply Kd.S_drew)); exact HO_6.out⟩, ⟨by (try simp only [hl6_1]); (try simp only [hl6_2]); (try simp only [hl6_3]); (try simp only [hl6_4]); (try simp only [hl6_5]); (with_reducible repeat (first | refine blk_drewN ?_ _ | refine blk_drew ?_ | refine blk_alloc ?_ _)); exact BK101.out⟩, ⟨by (try simp only [hl6_1]); (try simp only [hl6_2]); (try simp only [hl6_3]); (try simp only [hl6_4]); (try simp only [hl6_5]); (with_reducible repeat (first | refine blk_drewN ?_ _ | refine blk_drew ?_ | refine blk_alloc ?_ _)); exact BK110.out⟩, ⟨by repeat (first | (with_reducible first | exact HB.out | apply below_alloc | apply pw_below_drewN | apply below_drew1 | refine below_set ?_ GE101.out | refine below_set ?_ GE110.out) | exact HB.out)⟩⟩
                                                · replace c37 := Bool.eq_false_iff.mpr c37
                                                  subst c37
                                                  have H1 : ((spec_l4Fits.f k5 x6_5 l1 ((rd_T87 l0_2 x36_3).f1) x11_4 x12_5).bind fun t113 => (if t113 = true then (spec_l4Table.l4 k5 l1 (wrap64 ((l1.length : Int) + 1)) (x6_5.set (((rd_T87 l0_2 x36_3).f0) : Int).toNat ((rd_L7 x6_5 ((rd_T87 l0_2 x36_3).f0)).set ((ji33) : Int).toNat true)) true x11_4 (wrap64 (x12_5 + 1)) l0_2 (l0_2.length : Int) x36_3 a0_0 a0_1 l0_2 ((rd_T87 l0_2 x36_3).f0) ((rd_T87 l0_2 x36_3).f1)) else (spec_l4Table.l4 k5 l1 (wrap64 ((l1.length : Int) + 1)) x6_5 x8_5 x11_4 (wrap64 (x12_5 + 1)) l0_2 (l0_2.length : Int) x36_3 a0_0 a0_1 l0_2 ((rd_T87 l0_2 x36_3).f0) ((rd_T87 l0_2 x36_3).f1)))) = some r := by rw [if_neg (show ¬ (false = true) by decide)] at H; exact H
                                                  clear H
                                                  have H := H1
                                                  clear H1
                                                  replace H := Option.bind_eq_some_iff.mp H
                                                  obtain ⟨t113, A400, H⟩ := H
                                                  replace H : (if t113 = true then (spec_l4Table.l4 k5 l1 (wrap64 ((l1.length : Int) + 1)) (x6_5.set (((rd_T87 l0_2 x36_3).f0) : Int).toNat ((rd_L7 x6_5 ((rd_T87 l0_2 x36_3).f0)).set ((ji33) : Int).toNat true)) true x11_4 (wrap64 (x12_5 + 1)) l0_2 (l0_2.length : Int) x36_3 a0_0 a0_1 l0_2 ((rd_T87 l0_2 x36_3).f0) ((rd_T87 l0_2 x36_3).f1)) else (spec_l4Table.l4 k5 l1 (wrap64 ((l1.length : Int) + 1)) x6_5 x8_5 x11_4 (wrap64 (x12_5 + 1)) l0_2 (l0_2.length : Int) x36_3 a0_0 a0_1 l0_2 ((rd_T87 l0_2 x36_3).f0) ((rd_T87 l0_2 x36_3).f1))) = some r := H
                                                  have A40 := Aside0.mk A400
                                                  clear A400
                                                  by_cases c41 : t113 = true
                                                  · subst c41
                                                    have H1 : (spec_l4Table.l4 k5 l1 (wrap64 ((l1.length : Int) + 1)) (x6_5.set (((rd_T87 l0_2 x36_3).f0) : Int).toNat ((rd_L7 x6_5 ((rd_T87 l0_2 x36_3).f0)).set ((ji33) : Int).toNat true)) true x11_4 (wrap64 (x12_5 + 1)) l0_2 (l0_2.length : Int) x36_3 a0_0 a0_1 l0_2 ((rd_T87 l0_2 x36_3).f0) ((rd_T87 l0_2 x36_3).f1)) = some r := by rw [if_pos rfl] at H; exact H
                                                    clear H
                                                    have H := H1
                                                    clear H1
                                                    obtain ⟨y115, hy115⟩ : ∃ y_ : List Bool, y_ = ((rd_L7 x6_5 ((rd_T87 l0_2 x36_3).f0)).set ((ji33) : Int).toNat true) := ⟨_, rfl⟩
                                                    replace H : (spec_l4Table.l4 k5 l1 (wrap64 ((l1.length : Int) + 1)) (x6_5.set (((rd_T87 l0_2 x36_3).f0) : Int).toNat y115) true x11_4 (wrap64 (x12_5 + 1)) l0_2 (l0_2.length : Int) x36_3 a0_0 a0_1 l0_2 ((rd_T87 l0_2 x36_3).f0) ((rd_T87 l0_2 x36_3).f1)) = some r := by first | (rw [hy115]; with_reducible exact H) | (have H2_ := (Option.bind_some _ _).symm.trans H; rw [hy115]; with_reducible exact H2_) | (have H2_ := (Option.bind_some _ _).symm.trans H; with_reducible exact H2_) | with_reducible exact H | (rw [hy115]; exact H) | exact H
                                                    have Ny115 := Aside0.mk hy115
                                                    clear hy115
                                                    obtain ⟨y117, hy117⟩ : ∃ y_ : List (List Bool), y_ = (x6_5.set (((rd_T87 l0_2 x36_3).f0) : Int).toNat y115) := ⟨_, rfl⟩
                                                    replace H : (spec_l4Table.l4 k5 l1 (wrap64 ((l1.length : Int) + 1)) y117 true x11_4 (wrap64 (x12_5 + 1)) l0_2 (l0_2.length : Int) x36_3 a0_0 a0_1 l0_2 ((rd_T87 l0_2 x36_3).f0) ((rd_T87 l0_2 x36_3).f1)) = some r := by first | (rw [hy117]; with_reducible exact H) | (have H2_ := (Option.bind_some _ _).symm.trans H; rw [hy117]; with_reducible exact H2_) | (have H2_ := (Option.bind_some _ _).symm.trans H; with_reducible exact H2_) | with_reducible exact H | (rw [hy117]; exact H) | exact H
                                                    have Ny117 := Aside0.mk hy117
                                                    clear hy117
                                                    have H' := Aside0.mk H
                                                    clear H
                                                    have hnb43 := NB110_101.out
                                                    have hnc43 := NB101_110.out
                                                    have hcz44_0 : wr.cell? ⟨gb110, 0, none⟩ = some (.int .i64 ((rd_T87 l0_2 x36_3).f0)) := (blk_cell BK110.out 0).trans rfl
                                                    have hcz44_1 : wr.cell? ⟨gb110, 1, none⟩ = some (.slice A109_1 ((rd_T87 l0_2 x36_3).f1).length c109_1) := (blk_cell BK110.out 1).trans rfl
                                                    have hfz44_0 := blk_frozen BK110.out 0
                                                    have hfz44_1 := blk_frozen BK110.out 1
                                                    have p111 : 0 ≤ (((rd_T87 l0_2 x36_3).f0) : Int) := of_decide_eq_true (by first | (with_reducible assumption) | assumption)
                                                    have q111 : ((rd_T87 l0_2 x36_3).f0) < (x6_5.length : Int) := of_decide_eq_true (by first | (with_reducible assumption) | assumption)
                                                    obtain ⟨ad111, A111_0, c111_0, e111, hx111_0, hl111_0, hi111_0⟩ := at_L7 (Kd.S_reads' HO_6.out).2.2 ((rd_T87 l0_2 x36_3).f0) p111 q111
                                                    cases e111
                                                    obtain ⟨ce111, hce111, hMe111, hcc111⟩ := Kd.S_get HO_6.out [] ((rd_T87 l0_2 x36_3).f0) p111 (by first | exact q111 | exact of_decide_eq_true (by first | (with_reducible assumption) | assumption) | (have e_ := (Kd.S_reads' HO_6.out).1; omega))
                                                    obtain ⟨ve111_0, rfl, ge111_0⟩ := hMe111
                                                    have hv111_0 := hcc111 0 _ rfl
                                                    rw [Nat.add_zero, show ((Kd.slice 4 Kd.bool)).sz = 1 from rfl, Nat.mul_one] at hv111_0
                                                    replace hv111_0 := Option.some.inj (hv111_0.symm.trans hx111_0)
                                                    rw [hv111_0] at ge111_0
                                                    have HL111_0 := Aside0.mk (show Kd.R Kd.bool 4 _ _ _ _ (rd_L7 x6_5 ((rd_T87 l0_2 x36_3).f0)) from ge111_0)
                                                    clear hv111_0 ge111_0
                                                    have HX111_0 := Aside0.mk hx111_0
                                                    clear hcc111 hce111
                                                    have HR111_0 := Aside0.mk hi111_0
                                                    have HC111_0 := Aside0.mk hl111_0
                                                    clear hi111_0 hl111_0
                                                    replace p111 := eq_true p111
                                                    replace q111 := eq_true q111
                                                    have p112 : 0 ≤ ((ji33) : Int) := of_decide_eq_true (by first | (with_reducible assumption) | assumption)
                                                    have q112 : (ji33) < ((rd_L7 x6_5 ((rd_T87 l0_2 x36_3).f0)).length : Int) := of_decide_eq_true (by first | (with_reducible assumption) | assumption)
                                                    obtain ⟨ad112, e112, hx112_0⟩ := Kd.at_bool (by repeat (first | (with_reducible exact HR111_0.out) | (with_reducible refine Kd.C_alloc ?_ _) | (with_reducible refine Kd.C_drewN ?_ _) | (with_reducible refine Kd.C_drew ?_) | exact HR111_0.out)) (ji33) p112 q112
                                                    (try rw [← Nbq36.out] at hx112_0)
                                                    cases e112
                                                    replace p112 := eq_true p112
                                                    replace q112 := eq_true q112
                                                    go_wp2_with (first | (go_at_call 69; (with_reducible refine (spec_l4Fits.calls k5 _ _ x6_5 _ _ l1 _ _ ((rd_T87 l0_2 x36_3).f1) x11_4 x12_5 true _ ?side1 ?side2 ?side3 ?side4 ?side5 ?side6 A40.out).mono ?_); (case side1 => repeat (first | exact (Kd.S_reads' HO_6.out).2.2 | (with_reducible refine Kd.C_alloc ?_ _) | (with_reducible refine Kd.C_drewN ?_ _) | (with_reducible refine Kd.C_drew ?_))); (case side2 => exact (Kd.S_reads' HO_6.out).2.1); (case side3 => repeat (first | exact (Kd.C_below HR1.out HB.out) | (with_reducible refine Kd.C_alloc ?_ _) | (with_reducible refine Kd.C_drewN ?_ _) | (with_reducible refine Kd.C_drew ?_))); (case side4 => exact HC1.out); (case side5 => repeat (first | exact (Kd.C_below HR109_1.out HB.out) | (with_reducible refine Kd.C_alloc ?_ _) | (with_reducible refine Kd.C_drewN ?_ _) | (with_reducible refine Kd.C_drew ?_))); (case side6 => exact HC109_1.out); rintro e w' ⟨rfl, ⟨nd, rfl⟩⟩; (try (have hxq_ : (World.drewN wr nd).cell? _ = _ := hx111_0; rw [drewN_self wr]; generalize hq_ : World.drewN wr _ = wr at hxq_ ⊢; clear hx111_0; have hx111_0 := hxq_; clear hxq_; have n0_ : Aside0 (Kd.R Kd.bool 4 wr w.heap.size (fun k_ => some k_ ≠ (.slice (some ad111) x6_5.length co9 : Value).ownBlock) (.slice (some ad112) (rd_L7 x6_5 ((rd_T87 l0_2 x36_3).f0)).length c111_0) (rd_L7 x6_5 ((rd_T87 l0_2 x36_3).f0))) := ⟨by rw [← hq_]; exact (by (with_reducible repeat (first | apply Kd.R_alloc | apply Kd.R_drewN | apply Kd.R_drew)); exact Kd.R_mono HL111_0.out (fun _ hk => hk.2))⟩; have n1_ : Aside0 (Kd.S (Kd.slice 4 Kd.bool) 84 wr w.heap.size (fun _ => True) (.slice (some ad111) x6_5.length co9) x6_5) := ⟨by rw [← hq_]; exact (by (with_reducible repeat (first | apply Kd.S_alloc | apply Kd.S_drewN | apply Kd.S_drew)); exact HO_6.out)⟩; have n2_ : Aside0 (wr.heap[gb101]? = some (.cells #[.int .i64 a0_0, .int .i64 a0_1, .slice (some ad109) l0_2.length c0_2] 28 (0, 0))) := ⟨by rw [← hq_]; exact (by (with_reducible repeat (first | refine blk_drewN ?_ _ | refine blk_drew ?_ | refine blk_alloc ?_ _)); exact BK101.out)⟩; have n3_ : Aside0 (wr.heap[gb110]? = some (.cells #[.int .i64 ((rd_T87 l0_2 x36_3).f0), .slice A109_1 ((rd_T87 l0_2 x36_3).f1).length c109_1] 87 (0, 0))) := ⟨by rw [← hq_]; exact (by (with_reducible repeat (first | refine blk_drewN ?_ _ | refine blk_drew ?_ | refine blk_alloc ?_ _)); exact BK110.out)⟩; have n4_ : Aside0 (Below w.heap.size w wr) := ⟨by rw [← hq_]; exact (by repeat (first | (with_reducible first | exact HB.out | apply below_alloc | apply pw_below_drewN | apply below_drew1 | refine below_set ?_ GE101.out | refine below_set ?_ GE110.out) | exact HB.out))⟩; have n5_ : Aside0 (Kd.C Kd.bool wr (some ad112) (rd_L7 x6_5 ((rd_T87 l0_2 x36_3).f0)).length (rd_L7 x6_5 ((rd_T87 l0_2 x36_3).f0))) := ⟨by rw [← hq_]; exact (by repeat (first | (with_reducible exact HR111_0.out) | (with_reducible refine Kd.C_alloc ?_ _) | (with_reducible refine Kd.C_drewN ?_ _) | (with_reducible refine Kd.C_drew ?_) | exact HR111_0.out))⟩; clear HL111_0 HO_6 BK101 BK110 HB HR111_0 hq_; have HL111_0 := n0_; have HO_6 := n1_; have BK101 := n2_; have BK110 := n3_; have HB := n4_; have HR111_0 := n5_; clear n0_ n1_ n2_ n3_ n4_ n5_; have hcz39_0 : wr.cell? ⟨gb110, 0, none⟩ = some (.int .i64 ((rd_T87 l0_2 x36_3).f0)) := (blk_cell BK110.out 0).trans rfl; have hcz39_1 : wr.cell? ⟨gb110, 1, none⟩ = some (.slice A109_1 ((rd_T87 l0_2 x36_3).f1).length c109_1) := (blk_cell BK110.out 1).trans rfl; have hfz39_0 := blk_frozen BK110.out 0; have hfz39_1 := blk_frozen BK110.out 1; have hcz44_0 : wr.cell? ⟨gb110, 0, none⟩ = some (.int .i64 ((rd_T87 l0_2 x36_3).f0)) := (blk_cell BK110.out 0).trans rfl; have hcz44_1 : wr.cell? ⟨gb110, 1, none⟩ = some (.slice A109_1 ((rd_T87 l0_2 x36_3).f1).length c109_1) := (blk_cell BK110.out 1).trans rfl; have hfz44_0 := blk_frozen BK110.out 0; have hfz44_1 := blk_frozen BK110.out 1)); have p114 : 0 ≤ (((rd_T87 l0_2 x36_3).f0) : Int) := of_decide_eq_true (by first | (with_reducible assumption) | assumption); have q114 : ((rd_T87 l0_2 x36_3).f0) < (x6_5.length : Int) := of_decide_eq_true (by first | (with_reducible assumption) | assumption); obtain ⟨ad114, A114_0, c114_0, e114, hx114_0, hl114_0, hi114_0⟩ := at_L7 (Kd.S_reads' HO_6.out).2.2 ((rd_T87 l0_2 x36_3).f0) p114 q114; obtain rfl : ad111 = ad114 := (by injection e114); obtain ⟨ce114, hce114, hMe114, hcc114⟩ := Kd.S_get HO_6.out [] ((rd_T87 l0_2 x36_3).f0) p114 (by first | exact q114 | exact of_decide_eq_true (by first | (with_reducible assumption) | assumption) | (have e_ := (Kd.S_reads' HO_6.out).1; omega)); obtain ⟨ve114_0, rfl, ge114_0⟩ := hMe114; have hv114_0 := hcc114 0 _ rfl; rw [Nat.add_zero, show ((Kd.slice 4 Kd.bool)).sz = 1 from rfl, Nat.mul_one] at hv114_0; replace hv114_0 := Option.some.inj (hv114_0.symm.trans hx114_0); rw [hv114_0] at ge114_0; have HL114_0 := Aside0.mk (show Kd.R Kd.bool 4 _ _ _ _ (rd_L7 x6_5 ((rd_T87 l0_2 x36_3).f0)) from ge114_0); clear hv114_0 ge114_0; have HX114_0 := Aside0.mk hx114_0; clear hcc114 hce114; have HR114_0 := Aside0.mk hi114_0; have HC114_0 := Aside0.mk hl114_0; clear hi114_0 hl114_0; replace p114 := eq_true p114; replace q114 := eq_true q114; have ea_ := Option.some.inj (hx111_0.symm.trans hx114_0); injection ea_ with ea_ en_ ec_; subst ea_; subst ec_; clear en_; have p42 : 0 ≤ ((ji33) : Int) := of_decide_eq_true (by first | (with_reducible assumption) | assumption); have q42 : ((ji33) : Int) < (((rd_L7 x6_5 ((rd_T87 l0_2 x36_3).f0)).length : Int) : Int) := of_decide_eq_true (by first | (with_reducible assumption) | assumption); obtain ⟨go42, co42, eo42, gb42, gl42, cl42, HG42⟩ := Kd.R_form HL114_0.out (by omega); (first | cases eo42 | (injection eo42 with ea_ en_ ec_; (first | subst ea_ | (injection ea_ with ea_; subst ea_)); subst ec_; clear en_)); have GB42 := Aside0.mk gb42; have GG42 := Aside0.mk HG42; clear gb42 gl42 HG42; (first | simp only [add_plain] at hx112_0 | skip); obtain ⟨hx42_0, hf42_0⟩ := Kd.R_celln false HL114_0.out ((ji33) : Int) p42 q42; replace p42 := eq_true p42; replace q42 := eq_true q42; have hq45 : (((rd_T87 l0_2 x36_3).f0) : Int) < (x6_5.length : Int) := (by have h_ : (((rd_T87 l0_2 x36_3).f0) : Int) < ((x6_5.length : Int) : Int) := of_decide_eq_true (by first | (with_reducible assumption) | assumption); first | exact h_ | (have e_ := (Kd.S_reads' HO_6.out).1; omega) | simpa only [List.length_set, List.length_set] using h_); obtain ⟨oki45, ce45, hcl45, hM45, hcc45, hok45, hbk45⟩ := Kd.S_borrow HO_6.out [] (((rd_T87 l0_2 x36_3).f0) : Int) (of_decide_eq_true (by first | (with_reducible assumption) | assumption)) hq45; obtain ⟨ve45_0, rfl, ge45_0⟩ := hM45; have hv45 := hcc45 0 _ rfl; rw [Nat.add_zero, show ((Kd.slice 4 Kd.bool)).sz = 1 from rfl, Nat.mul_one] at hv45; replace hv45 := Option.some.inj (hv45.symm.trans HX114_0.out); subst hv45; clear hcc45 hcl45; replace ge45_0 := (show Kd.R Kd.bool 4 _ _ _ _ (rd_L7 x6_5 ((rd_T87 l0_2 x36_3).f0)) from ge45_0); have HP45 := Kd.R_putg ge45_0 ((ji33) : Int) true) | ((with_reducible refine gate_store (t := 4) (p := 83) rfl ?_); refine store_event (t := 4) (p := 83) (v := ?vo_w46) (w1 := (wr.setCell ⟨go42, ((ji33) : Int).toNat, none⟩ (.bool true))) ?hg ?ho ?hn ?hr ?_; (case ho => rfl); (case hg => rfl); (case hn => rfl); (case hr => first | (go_simp; done) | (go_simp; rfl)); intro w46 hw; have hg : wr.grownBy w46 (some go42) := (by rw [hw]; exact HP45.2); have hz_ : Kd.R Kd.bool 4 w46 w.heap.size oki45 (.slice (some ⟨go42, 0, none⟩) (rd_L7 x6_5 ((rd_T87 l0_2 x36_3).f0)).length c111_0) y115 := (by rw [hw, Ny115.out]; exact HP45.1); have hp_ : Kd.S (Kd.slice 4 Kd.bool) 84 w46 w.heap.size (fun _ => True) (.slice (some ad111) x6_5.length co9) y117 := (by rw [Ny117.out]; exact hbk45 hg (fun k_ e_ => by injection e_ with e_; subst e_; exact ge45_0.1 _ rfl) (Kd.M_row hz_)); have hm_ := Kd.R_mono hz_ hok45; clear HP45 hbk45; have n0_ := Aside0.mk (hp_); have n1_ := Aside0.mk (blk_grown (g := gb101) (o := .cells #[.int .i64 a0_0, .int .i64 a0_1, .slice (some ad109) l0_2.length c0_2] 28 (0, 0)) (by (with_reducible repeat (first | refine blk_drewN ?_ _ | refine blk_drew ?_ | refine blk_alloc ?_ _)); exact BK101.out) hg (Kd.R_ne HL114_0.out BK101.out (by decide))); have n2_ := Aside0.mk (blk_grown (g := gb110) (o := .cells #[.int .i64 ((rd_T87 l0_2 x36_3).f0), .slice A109_1 ((rd_T87 l0_2 x36_3).f1).length c109_1] 87 (0, 0)) (by (with_reducible repeat (first | refine blk_drewN ?_ _ | refine blk_drew ?_ | refine blk_alloc ?_ _)); exact BK110.out) hg (Kd.R_ne HL114_0.out BK110.out (by decide))); have n3_ := Aside0.mk ((by rw [hw]; exact below_set (HB.out) GB42.out : Below w.heap.size w w46)); have n4_ := Aside0.mk (hm_); have n5_ := Aside0.mk ((Kd.R_reads' hm_).2.1); clear HO_6; clear BK101; clear BK110; clear HB; clear HL111_0; clear HL114_0; have HO_6 := n0_; have BK101 := n1_; have BK110 := n2_; have HB := n3_; have HL118 := n4_; have HC116 := n5_; clear n0_ n1_ n2_ n3_ n4_ n5_; clear hg hw hp_ hz_ hm_ hok45))
                                                    (try simp only [← hl6_5])
                                                    go_roundg k5
                                                    case measure => have := HK1.out; have := HK2.out; have := HK3.out; have := HK4.out; have := HK5.out; omega
                                                    case rel => exact ⟨(y117), (true), (wrap64 (x12_5 + 1)), (by first | rfl | (simp; done) | (simp [*]; done)), (by first | rfl | (simp; done) | (simp [*]; done)), H', ⟨by have := HK1.out; have := HK2.out; have := HK3.out; have := HK4.out; have := HK5.out; omega⟩, ⟨by (try simp only [hl6_1]); (try simp only [hl6_2]); (try simp only [hl6_3]); (try simp only [hl6_4]); (try simp only [hl6_5]); (with_reducible repeat (first | apply Kd.S_alloc | apply Kd.S_drewN | apply Kd.S_drew)); exact HO_6.out⟩, ⟨by (try simp only [hl6_1]); (try simp only [hl6_2]); (try simp only [hl6_3]); (try simp only [hl6_4]); (try simp only [hl6_5]); (with_reducible repeat (first | refine blk_drewN ?_ _ | refine blk_drew ?_ | refine blk_alloc ?_ _)); exact BK101.out⟩, ⟨by (try simp only [hl6_1]); (try simp only [hl6_2]); (try simp only [hl6_3]); (try simp only [hl6_4]); (try simp only [hl6_5]); (with_reducible repeat (first | refine blk_drewN ?_ _ | refine blk_drew ?_ | refine blk_alloc ?_ _)); exact BK110.out⟩, ⟨by repeat (first | (with_reducible first | exact HB.out | apply below_alloc | apply pw_below_drewN | apply below_drew1 | refine below_set ?_ GE101.out | refine below_set ?_ GE110.out) | exact HB.out)⟩⟩
                                                  · replace c41 := Bool.eq_false_iff.mpr c41
                                                    subst c41
                                                    have H1 : (spec_l4Table.l4 k5 l1 (wrap64 ((l1.length : Int) + 1)) x6_5 x8_5 x11_4 (wrap64 (x12_5 + 1)) l0_2 (l0_2.length : Int) x36_3 a0_0 a0_1 l0_2 ((rd_T87 l0_2 x36_3).f0) ((rd_T87 l0_2 x36_3).f1)) = some r := by rw [if_neg (show ¬ (false = true) by decide)] at H; exact H
                                                    clear H
                                                    have H := H1
                                                    clear H1
                                                    have H' := Aside0.mk H
                                                    clear H
                                                    have hnb47 := NB110_101.out
                                                    have hnc47 := NB101_110.out
                                                    have hcz48_0 : wr.cell? ⟨gb110, 0, none⟩ = some (.int .i64 ((rd_T87 l0_2 x36_3).f0)) := (blk_cell BK110.out 0).trans rfl
                                                    have hcz48_1 : wr.cell? ⟨gb110, 1, none⟩ = some (.slice A109_1 ((rd_T87 l0_2 x36_3).f1).length c109_1) := (blk_cell BK110.out 1).trans rfl
                                                    have hfz48_0 := blk_frozen BK110.out 0
                                                    have hfz48_1 := blk_frozen BK110.out 1
                                                    have p111 : 0 ≤ (((rd_T87 l0_2 x36_3).f0) : Int) := of_decide_eq_true (by first | (with_reducible assumption) | assumption)
                                                    have q111 : ((rd_T87 l0_2 x36_3).f0) < (x6_5.length : Int) := of_decide_eq_true (by first | (with_reducible assumption) | assumption)
                                                    obtain ⟨ad111, A111_0, c111_0, e111, hx111_0, hl111_0, hi111_0⟩ := at_L7 (Kd.S_reads' HO_6.out).2.2 ((rd_T87 l0_2 x36_3).f0) p111 q111
                                                    cases e111
                                                    obtain ⟨ce111, hce111, hMe111, hcc111⟩ := Kd.S_get HO_6.out [] ((rd_T87 l0_2 x36_3).f0) p111 (by first | exact q111 | exact of_decide_eq_true (by first | (with_reducible assumption) | assumption) | (have e_ := (Kd.S_reads' HO_6.out).1; omega))
                                                    obtain ⟨ve111_0, rfl, ge111_0⟩ := hMe111
                                                    have hv111_0 := hcc111 0 _ rfl
                                                    rw [Nat.add_zero, show ((Kd.slice 4 Kd.bool)).sz = 1 from rfl, Nat.mul_one] at hv111_0
                                                    replace hv111_0 := Option.some.inj (hv111_0.symm.trans hx111_0)
                                                    rw [hv111_0] at ge111_0
                                                    have HL111_0 := Aside0.mk (show Kd.R Kd.bool 4 _ _ _ _ (rd_L7 x6_5 ((rd_T87 l0_2 x36_3).f0)) from ge111_0)
                                                    clear hv111_0 ge111_0
                                                    have HX111_0 := Aside0.mk hx111_0
                                                    clear hcc111 hce111
                                                    have HR111_0 := Aside0.mk hi111_0
                                                    have HC111_0 := Aside0.mk hl111_0
                                                    clear hi111_0 hl111_0
                                                    replace p111 := eq_true p111
                                                    replace q111 := eq_true q111
                                                    have p112 : 0 ≤ ((ji33) : Int) := of_decide_eq_true (by first | (with_reducible assumption) | assumption)
                                                    have q112 : (ji33) < ((rd_L7 x6_5 ((rd_T87 l0_2 x36_3).f0)).length : Int) := of_decide_eq_true (by first | (with_reducible assumption) | assumption)
                                                    obtain ⟨ad112, e112, hx112_0⟩ := Kd.at_bool (by repeat (first | (with_reducible exact HR111_0.out) | (with_reducible refine Kd.C_alloc ?_ _) | (with_reducible refine Kd.C_drewN ?_ _) | (with_reducible refine Kd.C_drew ?_) | exact HR111_0.out)) (ji33) p112 q112
                                                    (try rw [← Nbq36.out] at hx112_0)
                                                    cases e112
                                                    replace p112 := eq_true p112
                                                    replace q112 := eq_true q112
                                                    go_wp2_with (first | (go_at_call 69; (with_reducible refine (spec_l4Fits.calls k5 _ _ x6_5 _ _ l1 _ _ ((rd_T87 l0_2 x36_3).f1) x11_4 x12_5 false _ ?side1 ?side2 ?side3 ?side4 ?side5 ?side6 A40.out).mono ?_); (case side1 => repeat (first | exact (Kd.S_reads' HO_6.out).2.2 | (with_reducible refine Kd.C_alloc ?_ _) | (with_reducible refine Kd.C_drewN ?_ _) | (with_reducible refine Kd.C_drew ?_))); (case side2 => exact (Kd.S_reads' HO_6.out).2.1); (case side3 => repeat (first | exact (Kd.C_below HR1.out HB.out) | (with_reducible refine Kd.C_alloc ?_ _) | (with_reducible refine Kd.C_drewN ?_ _) | (with_reducible refine Kd.C_drew ?_))); (case side4 => exact HC1.out); (case side5 => repeat (first | exact (Kd.C_below HR109_1.out HB.out) | (with_reducible refine Kd.C_alloc ?_ _) | (with_reducible refine Kd.C_drewN ?_ _) | (with_reducible refine Kd.C_drew ?_))); (case side6 => exact HC109_1.out); rintro e w' ⟨rfl, ⟨nd, rfl⟩⟩))
                                                    (try simp only [← hl6_5])
                                                    go_roundg k5
                                                    case measure => have := HK1.out; have := HK2.out; have := HK3.out; have := HK4.out; have := HK5.out; omega
                                                    case rel => exact ⟨(x6_5), (x8_5), (wrap64 (x12_5 + 1)), (by first | rfl | (simp; done) | (simp [*]; done)), (by first | rfl | (simp; done) | (simp [*]; done)), H', ⟨by have := HK1.out; have := HK2.out; have := HK3.out; have := HK4.out; have := HK5.out; omega⟩, ⟨by (try simp only [hl6_1]); (try simp only [hl6_2]); (try simp only [hl6_3]); (try simp only [hl6_4]); (try simp only [hl6_5]); (with_reducible repeat (first | apply Kd.S_alloc | apply Kd.S_drewN | apply Kd.S_drew)); exact HO_6.out⟩, ⟨by (try simp only [hl6_1]); (try simp only [hl6_2]); (try simp only [hl6_3]); (try simp only [hl6_4]); (try simp only [hl6_5]); (with_reducible repeat (first | refine blk_drewN ?_ _ | refine blk_drew ?_ | refine blk_alloc ?_ _)); exact BK101.out⟩, ⟨by (try simp only [hl6_1]); (try simp only [hl6_2]); (try simp only [hl6_3]); (try simp only [hl6_4]); (try simp only [hl6_5]); (with_reducible repeat (first | refine blk_drewN ?_ _ | refine blk_drew ?_ | refine blk_alloc ?_ _)); exact BK110.out⟩, ⟨by repeat (first | (with_reducible first | exact HB.out | apply below_alloc | apply pw_below_drewN | apply below_drew1 | refine below_set ?_ GE101.out | refine below_set ?_ GE110.out) | exact HB.out)⟩⟩
                                              · rw [if_neg c35] at H
                                                exact absurd H (by simp)
                                            · rw [if_neg c34] at H
                                              exact absurd H (by simp)
                                          · rw [if_neg c32] at H
                                            exact absurd H (by simp)
                                        · rw [if_neg c31] at H
                                          exact absurd H (by simp)
                                      · rw [if_neg c30] at H
                                        have c30b0 : decide (x12_5 < (wrap64 ((l1.length : Int) + 1))) = false := decide_eq_false c30
                                        clear c30
                                        have H' := Aside0.mk H
                                        clear H
                                        go_wp2
                                        (try simp only [← hl6_4, ← hl6_5])
                                        go_roundg k5
                                        case measure => have := HK1.out; have := HK2.out; have := HK3.out; have := HK4.out; have := HK5.out; omega
                                        case rel => exact ⟨(x6_5), (x8_5), (wrap64 (x11_4 + 1)), (by first | rfl | (simp; done) | (simp [*]; done)), (by first | rfl | (simp; done) | (simp [*]; done)), H', ⟨by have := HK1.out; have := HK2.out; have := HK3.out; have := HK4.out; have := HK5.out; omega⟩, ⟨by (try simp only [hl6_1]); (try simp only [hl6_2]); (try simp only [hl6_3]); (try simp only [hl6_4]); (try simp only [hl6_5]); (with_reducible repeat (first | apply Kd.S_alloc | apply Kd.S_drewN | apply Kd.S_drew)); exact HO_6.out⟩, ⟨by (try simp only [hl6_1]); (try simp only [hl6_2]); (try simp only [hl6_3]); (try simp only [hl6_4]); (try simp only [hl6_5]); (with_reducible repeat (first | refine blk_drewN ?_ _ | refine blk_drew ?_ | refine blk_alloc ?_ _)); exact BK101.out⟩, ⟨by (try simp only [hl6_1]); (try simp only [hl6_2]); (try simp only [hl6_3]); (try simp only [hl6_4]); (try simp only [hl6_5]); (with_reducible repeat (first | refine blk_drewN ?_ _ | refine blk_drew ?_ | refine blk_alloc ?_ _)); exact BK110.out⟩, ⟨by repeat (first | (with_reducible first | exact HB.out | apply below_alloc | apply pw_below_drewN | apply below_drew1 | refine below_set ?_ GE101.out | refine below_set ?_ GE110.out) | exact HB.out)⟩⟩
                                · rw [if_neg c29] at H
                                  have c29b0 : decide (x11_4 < (wrap64 ((l1.length : Int) + 1))) = false := decide_eq_false c29
                                  clear c29
                                  have H' := Aside0.mk H
                                  clear H
                                  go_wp2
                                  (try simp only [← hl6_3, ← hl6_4])
                                  go_roundg k4
                                  case measure => have := HK1.out; have := HK2.out; have := HK3.out; have := HK4.out; omega
                                  case rel => exact ⟨(x6_4), (x8_4), (wrap64 (x36_3 + 1)), (by first | rfl | (simp; done) | (simp [*]; done)), (by first | rfl | (simp; done) | (simp [*]; done)), H', ⟨by have := HK1.out; have := HK2.out; have := HK3.out; have := HK4.out; omega⟩, ⟨by (try simp only [hl6_1]); (try simp only [hl6_2]); (try simp only [hl6_3]); (try simp only [hl6_4]); (with_reducible repeat (first | apply Kd.S_alloc | apply Kd.S_drewN | apply Kd.S_drew)); exact HO_6.out⟩, ⟨by (try simp only [hl6_1]); (try simp only [hl6_2]); (try simp only [hl6_3]); (try simp only [hl6_4]); (with_reducible repeat (first | refine blk_drewN ?_ _ | refine blk_drew ?_ | refine blk_alloc ?_ _)); exact BK101.out⟩, ⟨by repeat (first | (with_reducible first | exact HB.out | apply below_alloc | apply pw_below_drewN | apply below_drew1 | refine below_set ?_ GE101.out | refine below_set ?_ GE110.out) | exact HB.out)⟩⟩
                          · rw [if_neg c25] at H
                            exact absurd H (by simp)
                        · rw [if_neg c24] at H
                          exact absurd H (by simp)
                      · rw [if_neg c23] at H
                        have c23b0 : decide (x36_3 < (l0_2.length : Int)) = false := decide_eq_false c23
                        (try simp only [hl6_5] at c23b0)
                        clear c23
                        have H' := Aside0.mk H
                        clear H
                        go_wp2
                        (try simp only [← hl6_2, ← hl6_3])
                        go_roundg k3
                        case measure => have := HK1.out; have := HK2.out; have := HK3.out; omega
                        case rel => exact ⟨(x6_3), (x8_3), (by first | rfl | (simp; done) | (simp [*]; done)), H', ⟨by have := HK1.out; have := HK2.out; have := HK3.out; omega⟩, ⟨by (try simp only [hl6_1]); (try simp only [hl6_2]); (try simp only [hl6_3]); (with_reducible repeat (first | apply Kd.S_alloc | apply Kd.S_drewN | apply Kd.S_drew)); exact HO_6.out⟩, ⟨by (try simp only [hl6_1]); (try simp only [hl6_2]); (try simp only [hl6_3]); (with_reducible repeat (first | refine blk_drewN ?_ _ | refine blk_drew ?_ | refine blk_alloc ?_ _)); exact BK101.out⟩, ⟨by repeat (first | (with_reducible first | exact HB.out | apply below_alloc | apply pw_below_drewN | apply below_drew1 | refine below_set ?_ GE101.out) | exact HB.out)⟩⟩
                · replace c21 := Bool.eq_false_iff.mpr c21
                  subst c21
                  have H1 : (some x6_2) = some r := by rw [if_neg (show ¬ (false = true) by decide)] at H; exact H
                  clear H
                  have H := H1
                  clear H1
                  obtain rfl := Option.some.inj H
                  go_wp2
                  go_ret
                  exact ⟨_, by first | rfl | (simp [errW_none, errW_some] <;> rfl) | (simp [*, errW_none, errW_some] <;> rfl), by (with_reducible repeat (first | apply Kd.S_alloc | apply Kd.S_drewN | apply Kd.S_drew)); exact HO_6.out, by repeat (first | (with_reducible first | exact HB.out | apply below_alloc | apply pw_below_drewN | apply below_drew1 | refine below_set ?_ GE101.out) | exact HB.out)⟩
    · rw [if_neg c4] at H
      exact absurd H (by simp)
  · rw [if_neg c3] at H
    exact absurd H (by simp)
end Go.Proofs.Ytekoclhnfhbmeaa.P
namespace Go.Proofs.Ytekoclhnfhbmeaa.P
open Go.RowKit Go.Proofs.YtekoclhnfhbmeaaW.PrintWords Go.Proofs.YtekoclhnfhbmeaaW.PrintLast Go.Proofs.YtekoclhnfhbmeaaW.PrintMore
attribute [local go_sem] max2_int min2_int max_two min_two max_three min_three max_four min_four
set_option linter.unusedVariables false
set_option linter.unusedSimpArgs false
def spec_l4In.f (k : Nat) (a0_0 : Int) (a0_1 : Int) (l0_2 : List (S87)) (a1 : Int) (l2 : List Int) : Option (Bool) := (spec_l4Table.f k a0_0 a0_1 l0_2 l2).bind fun t102 => (if 0 ≤ a1 then (if a1 < (t102.length : Int) then (if 0 ≤ (l2.length : Int) then (if (l2.length : Int) < ((rd_L7 t102 a1).length : Int) then (some (rdOf false (rd_L7 t102 a1) (l2.length : Int))) else (none)) else (none)) else (none)) else (none))
end Go.Proofs.Ytekoclhnfhbmeaa.P
namespace Go.Proofs.Ytekoclhnfhbmeaa.P
open Go.RowKit Go.Proofs.YtekoclhnfhbmeaaW.PrintWords
set_option linter.unusedVariables false
set_option linter.unusedSimpArgs false
def tabRow (n : Nat) (t : List Bool) (k : Nat) : List Bool := (List.range (n * n)).map fun i => tat t k (i / n) (i % n)
def tabOf (nons n : Nat) (t : List Bool) : List (List Bool) := (List.range nons).map (tabRow n t)
theorem tabOf_len (nons n t) : (tabOf nons n t).length = nons := by simp [tabOf]
theorem tabRow_len (n t k) : (tabRow n t k).length = n * n := by simp [tabRow]
theorem tabOf_row (nons n t) (k : Nat) (hk : k < nons) : rd_L7 (tabOf nons n t) (k : Int) = tabRow n t k := by
  unfold rd_L7 tabOf
  rw [Int.toNat_natCast, List.getD_eq_getElem?_getD, List.getElem?_map, List.getElem?_range hk]; rfl
theorem fz_lt {n f z : Nat} (hf : f < n) (hz : z < n) : f * n + z < n * n := by
  have : (f + 1) * n ≤ n * n := Nat.mul_le_mul_right n hf
  rw [Nat.succ_mul] at this
  omega
theorem fz_div {n f z : Nat} (hz : z < n) : (f * n + z) / n = f ∧ (f * n + z) % n = z := by
  have hn : 0 < n := by omega
  constructor
  · rw [Nat.add_comm, Nat.add_mul_div_right _ _ hn, Nat.div_eq_of_lt hz]; omega
  · rw [Nat.add_comm, Nat.add_mul_mod_self_right, Nat.mod_eq_of_lt hz]
theorem tabRow_at (n t k) (f z : Nat) (hf : f < n) (hz : z < n) : rdOf false (tabRow n t k) ((f * n + z : Nat) : Int) = tat t k f z := by
  unfold rdOf tabRow
  rw [Int.toNat_natCast, List.getD_eq_getElem?_getD, List.getElem?_map, List.getElem?_range (fz_lt hf hz)]
  obtain ⟨h1, h2⟩ := fz_div (f := f) hz
  simp only [Option.map_some, Option.getD_some]
  rw [h1, h2]
theorem tabOf_set (nons n : Nat) (t : List Bool) (k f z : Nat) (hn : n ≤ 11) (hk : k < nons) (hf : f < n) (hz : z < n) (ht : tix k f z < t.length) : (tabOf nons n t).set k ((tabRow n t k).set (f * n + z) true) = tabOf nons n (t.set (tix k f z) true) := by
  apply List.ext_getElem?
  intro j
  unfold tabOf
  rw [List.getElem?_map]
  by_cases hj : j < nons
  · rw [List.getElem?_range hj]
    by_cases e : k = j
    · subst e
      rw [List.getElem?_set_self (by simp; exact hk)]
      simp only [Option.map_some]
      congr 1
      apply List.ext_getElem?
      intro i
      unfold tabRow
      rw [List.getElem?_map]
      by_cases hi : i < n * n
      · rw [List.getElem?_range hi]
        simp only [Option.map_some]
        by_cases ei : f * n + z = i
        · subst ei
          rw [List.getElem?_set_self (by simp; exact hi)]
          obtain ⟨h1, h2⟩ := fz_div (f := f) hz
          rw [h1, h2]
          unfold tat
          rw [tat_set ht]
        · rw [List.getElem?_set_ne ei, List.getElem?_map, List.getElem?_range hi]
          simp only [Option.map_some]
          congr 1
          unfold tat
          have hne : tix k f z ≠ tix k (i / n) (i % n) := by
            have h1 : i % n < n := Nat.mod_lt _ (by omega)
            have h2 := Nat.div_add_mod i n
            intro h
            unfold tix at h
            have h3 : f = i / n := by omega
            have h4 : z = i % n := by omega
            apply ei
            rw [h3, h4, Nat.mul_comm]
            exact h2
          rw [List.getD_eq_getElem?_getD, List.getD_eq_getElem?_getD, List.getElem?_set_ne hne]
      · rw [List.getElem?_eq_none (by simp; omega), List.getElem?_eq_none (by simp; omega)]; rfl
    · rw [List.getElem?_set_ne e, List.getElem?_map, List.getElem?_range hj]
      simp only [Option.map_some]
      congr 1
      unfold tabRow
      apply List.map_congr_left
      intro i hi
      rw [List.mem_range] at hi
      unfold tat
      have hne : tix k f z ≠ tix j (i / n) (i % n) := by
        have h1 : i % n < n := Nat.mod_lt _ (by omega)
        have h2 : i / n < n := Nat.div_lt_of_lt_mul hi
        intro h
        unfold tix at h
        omega
      rw [List.getD_eq_getElem?_getD, List.getD_eq_getElem?_getD, List.getElem?_set_ne hne]
  · rw [List.getElem?_eq_none (by simp; omega), List.getElem?_eq_none (by simp; omega)]; rfl
def symF (t : List Bool) (ws : List Int) (x : Int) (f m : Nat) : Bool := if x < 0 then decide (m = f + 1) && decide (-1 - ws.getD f 0 = x) else tat t x.toNat f m
theorem wsucc1 (k : Nat) (h : k < 9223372036854775807) : wrap64 ((k : Int) + 1) = ((k + 1 : Nat) : Int) := by unfold wrap64; omega
theorem idx_w (f z n : Nat) (hf : f ≤ 10) (hn : n ≤ 11) (hz : z ≤ 10) : wrap64 (wrap64 ((f : Int) * (n : Int)) + (z : Int)) = ((f * n + z : Nat) : Int) := by
  have hb : f * n ≤ 10 * 11 := Nat.mul_le_mul hf hn
  rw [show (f : Int) * (n : Int) = ((f * n : Nat) : Int) by push_cast; rfl]
  generalize f * n = p at hb
  have i1 : wrap64 (p : Int) = (p : Int) := w64 (by omega) (by omega)
  rw [i1, w64 (by omega) (by omega)]; push_cast; rfl
theorem symbol_eq (nons : Nat) (t : List Bool) (ws : List Int) (x : Int) (f m : Nat) (hw : ws.length ≤ 10) (hx0 : -4 ≤ x) (hx : x < nons) (hfm : f ≤ m) (hm : m ≤ ws.length) : spec_l4Symbol.f (tabOf nons (ws.length + 1) t) ws x f m = some (symF t ws x f m) := by
  unfold spec_l4Symbol.f symF
  have e1 := wsucc1 f (by omega)
  have e2 : wrap64 ((ws.length : Int) + 1) = ((ws.length + 1 : Nat) : Int) := by unfold wrap64; omega
  by_cases h0 : x < 0
  · rw [if_pos h0, if_pos h0, e1]
    by_cases h1 : m = f + 1
    · rw [if_pos (by omega), if_pos (by omega), if_pos (by omega), w64 (x := -1 - x) (by omega) (by omega), decide_eq_true h1, Bool.true_and]
      congr 1
      unfold rd
      rw [Int.toNat_natCast, Bool.eq_iff_iff, beq_iff_eq, decide_eq_true_eq]
      omega
    · rw [if_neg (by omega), decide_eq_false h1, Bool.false_and]
  · obtain ⟨n, rfl⟩ : ∃ n : Nat, x = (n : Int) := ⟨x.toNat, by omega⟩
    have hb : f * (ws.length + 1) ≤ 10 * 11 := Nat.mul_le_mul (by omega) (by omega)
    have e3 := idx_w f m (ws.length + 1) (by omega) (by omega) (by omega)
    rw [if_neg h0, if_neg h0, if_pos (by omega), tabOf_len, if_pos (by omega), e2, e3, tabOf_row _ _ _ _ (by omega), tabRow_len, if_pos (by omega), if_pos (by have := fz_lt (n := ws.length + 1) (f := f) (z := m) (by omega) (by omega); omega), tabRow_at _ _ _ _ _ (by omega) (by omega), Int.toNat_natCast]
theorem anyUp_none (p : Nat → Bool) : ∀ n i, (∀ j, i ≤ j → p j = false) → anyUp p i n = false
  | 0, _, _ => rfl
  | n + 1, i, h => by
    show (p i || anyUp p (i + 1) n) = false
    rw [h i (Nat.le_refl _), anyUp_none p n (i + 1) (fun j hj => h j (by omega))]; rfl
theorem seqF_up (t ws) (x : Int) (r : List Int) (f z : Nat) (hfz : f ≤ z) : seqF t ws (x :: r) f z = anyUp (fun m => symF t ws x f m && seqF t ws r m z) f (z + 1 - f) := by
  have e : seqF t ws (x :: r) f z = if x < 0 then decide (f < z) && (decide (-1 - ws.getD f 0 = x) && seqF t ws r (f + 1) z) else anyUp (fun m => tat t x.toNat f m && seqF t ws r m z) f (z + 1 - f) := rfl
  rw [e]
  unfold symF
  by_cases h0 : x < 0
  · rw [if_pos h0]
    simp only [if_pos h0]
    obtain ⟨d, hd⟩ : ∃ d, z + 1 - f = d + 1 := ⟨z - f, by omega⟩
    rw [hd]
    show _ = ((decide (f = f + 1) && _) && _ || anyUp _ (f + 1) d)
    have ef : decide (f = f + 1) = false := decide_eq_false (by omega)
    rw [ef, Bool.false_and, Bool.false_and, Bool.false_or]
    cases d with
    | zero => rw [show decide (f < z) = false from decide_eq_false (by omega)]; rfl
    | succ d =>
      show _ = ((decide (f + 1 = f + 1) && _) && _ || anyUp _ (f + 1 + 1) d)
      rw [show decide (f + 1 = f + 1) = true from decide_eq_true rfl, anyUp_none _ d (f + 1 + 1) (fun j hj => by rw [show decide (j = f + 1) = false from decide_eq_false (by omega)]; rfl), Bool.or_false, Bool.true_and, show decide (f < z) = true from decide_eq_true (by omega), Bool.true_and]
  · rw [if_neg h0]
    simp only [if_neg h0]
theorem fits_eq (nons : Nat) (t : List Bool) (ws : List Int) (hw : ws.length ≤ 10) : ∀ (r : List Int) (f z k : Nat), (∀ x, x ∈ r → -4 ≤ x ∧ x < nons) → f ≤ z → z ≤ ws.length → r.length ≤ 1048576 → 13 * (r.length + 1) ≤ k →
    spec_l4Fits.f k (tabOf nons (ws.length + 1) t) ws r f z = some (seqF t ws r f z) := by
  intro r
  induction r with
  | nil =>
    intro f z k _ hfz hz _ hk
    obtain ⟨k, rfl⟩ : ∃ m, k = m + 1 := ⟨k - 1, by omega⟩
    simp only [spec_l4Fits.f]
    rw [if_pos (by simp)]
    congr 1
    show _ = decide (f = z)
    rw [Bool.eq_iff_iff, beq_iff_eq, decide_eq_true_eq]
    omega
  | cons x r ih =>
    intro f z k hx hfz hz hrl hk
    simp only [List.length_cons] at hk hrl
    obtain ⟨k, rfl⟩ : ∃ m, k = m + 1 := ⟨k - 1, by omega⟩
    simp only [spec_l4Fits.f]
    rw [if_neg (by simp; omega), seqF_up t ws x r f z hfz]
    have hx0 := hx x List.mem_cons_self
    have key : ∀ (d m k : Nat), m + d = z + 1 → f ≤ m → d + 13 * (r.length + 1) < k → spec_l4Fits.l0 k (tabOf nons (ws.length + 1) t) ws (x :: r) f z m = some (anyUp (fun m => symF t ws x f m && seqF t ws r m z) m d) := by
      intro d
      induction d with
      | zero =>
        intro m k hm hfm hk
        obtain ⟨k, rfl⟩ : ∃ m, k = m + 1 := ⟨k - 1, by omega⟩
        simp only [spec_l4Fits.l0]
        rw [if_neg (by omega)]; rfl
      | succ d ihd =>
        intro m k hm hfm hk
        obtain ⟨k, rfl⟩ : ∃ m, k = m + 1 := ⟨k - 1, by omega⟩
        simp only [spec_l4Fits.l0]
        have e1 : rd (x :: r) 0 = x := rfl
        rw [if_pos (show (m : Int) ≤ (z : Int) by omega), if_pos (by simp), e1, symbol_eq nons t ws x f m hw hx0.1 hx0.2 hfm (by omega)]
        simp only [Option.bind_some]
        have hn := ihd (m + 1) k (by omega) (by omega) (by omega)
        have hL : 13 * (r.length + 1) ≤ k := by omega
        have hmz : m ≤ z := by omega
        have hm9 : m ≤ 10 := by omega
        have hrl2 : r.length ≤ 1048576 := by omega
        clear hx0 ihd
        have e2 := wsucc1 m (Nat.lt_of_le_of_lt hm9 (by decide))
        show _ = some ((symF t ws x f m && seqF t ws r m z) || anyUp _ (m + 1) d)
        cases hs : symF t ws x f m with
        | false =>
          rw [if_neg (by decide), e2, hn]; simp
        | true =>
          rw [if_pos rfl, if_pos (by simp; omega), show List.drop 1 (x :: r) = r from rfl, ih m z k (fun y hy => hx y (List.mem_cons_of_mem _ hy)) hmz hz hrl2 hL]
          simp only [Option.bind_some]
          cases hq : seqF t ws r m z with
          | false => rw [if_neg (by decide), e2, hn]; simp
          | true => rw [if_pos rfl]; simp
    exact key (z + 1 - f) f k (by omega) (Nat.le_refl _) (by omega)
theorem zLoop_ok {s0 : List Bool} (ws : List Int) (y : S87) (y0 f : Nat) (hy : y.f0 = (y0 : Int)) (hy6 : y0 < 6) (hf : f ≤ 10) : ∀ (m z : Nat) (q : List Bool × Bool), z + m ≤ 11 → CntT s0 q → CntT s0 (zLoop ws y f m z q) := by
  intro m
  induction m with
  | zero => intro z q _ h; exact h
  | succ m ih =>
    intro z q hz h
    exact ih (z + 1) _ (by omega) (h.step (by rw [hy, Int.toNat_natCast]; exact tix_lt hy6 hf (by omega)))
theorem fLoop_ok {s0 : List Bool} (ws : List Int) (hw : ws.length ≤ 10) (y : S87) (y0 : Nat) (hy : y.f0 = (y0 : Int)) (hy6 : y0 < 6) : ∀ (m f : Nat) (q : List Bool × Bool), f + m ≤ 11 → CntT s0 q → CntT s0 (fLoop ws y m f q) := by
  intro m
  induction m with
  | zero => intro f q _ h; exact h
  | succ m ih =>
    intro f q hf h
    exact ih (f + 1) _ (by omega) (zLoop_ok ws y y0 f hy hy6 (by omega) _ f q (by omega) h)
theorem passT_ok {s0 : List Bool} (ws : List Int) (hw : ws.length ≤ 10) : ∀ (l : List S87) (q : List Bool × Bool), (∀ y, y ∈ l → 0 ≤ y.f0 ∧ y.f0 < 6) → CntT s0 q → CntT s0 (passT ws l q) := by
  intro l
  induction l with
  | nil => intro q _ h; exact h
  | cons y l ih =>
    intro q hy h
    have h1 := hy y List.mem_cons_self
    exact ih _ (fun x hx => hy x (List.mem_cons_of_mem _ hx)) (fLoop_ok ws hw y y.f0.toNat (by omega) (by omega) _ 0 q (by omega) h)
def okT (nons : Nat) (y : S87) : Prop := (∃ y0 : Nat, y.f0 = (y0 : Int) ∧ y0 < nons) ∧ y.f1.length ≤ 4 ∧ ∀ x, x ∈ y.f1 → -4 ≤ x ∧ x < nons
theorem tab_l4 (nons : Nat) (hn6 : nons ≤ 6) (ws : List Int) (hw : ws.length ≤ 10) (l : List S87) (a0 a1 i : Int) (y : S87) (hy : okT nons y) (f : Nat) (hf : f ≤ ws.length) (r : List (List Bool)) :
    ∀ (m z : Nat) (q : List Bool × Bool), z + m = ws.length + 1 → f ≤ z → q.1.length = 726 →
      Ev (fun k => spec_l4Table.l3 k ws ((ws.length + 1 : Nat) : Int) (tabOf nons (ws.length + 1) (zLoop ws y f m z q).1) (zLoop ws y f m z q).2 (wrap64 ((f : Int) + 1)) l l.length i a0 a1 l y.f0 y.f1) r →
      Ev (fun k => spec_l4Table.l4 k ws ((ws.length + 1 : Nat) : Int) (tabOf nons (ws.length + 1) q.1) q.2 f z l l.length i a0 a1 l y.f0 y.f1) r := by
  obtain ⟨⟨y0, hy0, hyn⟩, hyl, hyx⟩ := hy
  intro m
  induction m with
  | zero =>
    intro z q hz hfz hq ⟨K, h⟩
    refine ⟨K + 1, fun k hk => ?_⟩
    dsimp only
    obtain ⟨k, rfl⟩ : ∃ m, k = m + 1 := ⟨k - 1, by omega⟩
    simp only [spec_l4Table.l4]
    rw [if_neg (by omega)]
    exact h k (by omega)
  | succ m ih =>
    intro z q hz hfz hq hE
    have hzl : z ≤ ws.length := by omega
    have hq2 : (stepT ws y f z q).1.length = 726 := (stepT_ok ws y f z (by rw [hy0, Int.toNat_natCast]; exact tix_lt (by omega) (by omega) (by omega)) q hq).1
    obtain ⟨K, h⟩ := ih (z + 1) (stepT ws y f z q) (by omega) (by omega) hq2 hE
    dsimp only at h
    refine ⟨K + 66, fun k hk => ?_⟩
    dsimp only
    obtain ⟨k, rfl⟩ : ∃ m, k = m + 1 := ⟨k - 1, by omega⟩
    have hk1 : K ≤ k := by omega
    have hk2 : 13 * (y.f1.length + 1) ≤ k := by omega
    have hN := h k hk1
    have hb : f * (ws.length + 1) ≤ 10 * 11 := Nat.mul_le_mul (by omega) (by omega)
    have hlt := fz_lt (n := ws.length + 1) (f := f) (z := z) (by omega) (by omega)
    have hz9 : z ≤ 10 := by omega
    have hf9 : f ≤ 10 := by omega
    have i1 : (z : Int) < ((ws.length + 1 : Nat) : Int) := by omega
    have i2 : (0 : Int) ≤ (y0 : Int) := by omega
    have i3 : (y0 : Int) < (nons : Int) := by omega
    have i4 : f < ws.length + 1 := by omega
    have i5 : z < ws.length + 1 := by omega
    have i6 : ws.length + 1 ≤ 11 := by omega
    have i7 : y0 < 6 := by omega
    have i8 : y.f1.length ≤ 1048576 := by omega
    have e3 := idx_w f z (ws.length + 1) hf9 i6 hz9
    have e4 := wsucc1 z (Nat.lt_of_le_of_lt hz9 (by decide))
    simp only [spec_l4Table.l4]
    rw [if_pos i1, hy0, if_pos i2, tabOf_len, if_pos i3, e3, tabOf_row _ _ _ _ hyn, if_pos (show (0 : Int) ≤ ((f * (ws.length + 1) + z : Nat) : Int) from Int.natCast_nonneg _), tabRow_len, if_pos (show ((f * (ws.length + 1) + z : Nat) : Int) < (((ws.length + 1) * (ws.length + 1) : Nat) : Int) from Int.ofNat_lt.mpr hlt), tabRow_at _ _ _ _ _ i4 i5, e4]
    have SD : stepT ws y f z q = if (!tat q.1 y0 f z && seqF q.1 ws y.f1 f z) = true then (q.1.set (tix y0 f z) true, true) else q := by unfold stepT; rw [hy0, Int.toNat_natCast]
    cases hv : tat q.1 y0 f z with
    | true =>
      rw [if_pos rfl]
      rw [hv] at SD
      rw [SD, hy0] at hN
      exact hN
    | false =>
      rw [if_neg (by decide), fits_eq nons q.1 ws hw y.f1 f z k hyx hfz hzl i8 hk2]
      simp only [Option.bind_some]
      rw [hv] at SD
      cases hs : seqF q.1 ws y.f1 f z with
      | true =>
        rw [hs] at SD
        rw [if_pos rfl, Int.toNat_natCast, Int.toNat_natCast, tabOf_set nons (ws.length + 1) q.1 y0 f z i6 hyn i4 i5 (by rw [hq]; exact tix_lt i7 hf9 hz9)]
        rw [SD, hy0] at hN
        exact hN
      | false =>
        rw [hs] at SD
        rw [if_neg (by decide)]
        rw [SD, hy0] at hN
        exact hN
theorem tab_l3 (nons : Nat) (hn6 : nons ≤ 6) (ws : List Int) (hw : ws.length ≤ 10) (l : List S87) (a0 a1 i : Int) (y : S87) (hy : okT nons y) (r : List (List Bool)) :
    ∀ (m f : Nat) (q : List Bool × Bool), f + m = ws.length + 1 → q.1.length = 726 →
      Ev (fun k => spec_l4Table.l2 k ws ((ws.length + 1 : Nat) : Int) (tabOf nons (ws.length + 1) (fLoop ws y m f q).1) (fLoop ws y m f q).2 l l.length (wrap64 (i + 1)) a0 a1 l) r →
      Ev (fun k => spec_l4Table.l3 k ws ((ws.length + 1 : Nat) : Int) (tabOf nons (ws.length + 1) q.1) q.2 f l l.length i a0 a1 l y.f0 y.f1) r := by
  intro m
  induction m with
  | zero =>
    intro f q hf hq ⟨K, h⟩
    refine ⟨K + 1, fun k hk => ?_⟩
    dsimp only
    obtain ⟨k, rfl⟩ : ∃ m, k = m + 1 := ⟨k - 1, by omega⟩
    simp only [spec_l4Table.l3]
    rw [if_neg (by omega)]
    exact h k (by omega)
  | succ m ih =>
    intro f q hf hq hE
    have hfl : f ≤ ws.length := by omega
    obtain ⟨⟨y0, hy0, hyn⟩, hyl, hyx⟩ := hy
    have hq2 : (zLoop ws y f (ws.length + 1 - f) f q).1.length = 726 := (zLoop_ok (s0 := q.1) ws y y0 f hy0 (by omega) (by omega) (ws.length + 1 - f) f (q.1, false) (by omega) ⟨hq, Nat.le_refl _, fun h => by cases h⟩).1.trans rfl |> fun h => by
      have hh : ∀ (m z : Nat) (q : List Bool × Bool), z + m ≤ 11 → q.1.length = 726 → (zLoop ws y f m z q).1.length = 726 := by
        intro m
        induction m with
        | zero => intro z q _ h; exact h
        | succ m ih2 => intro z q hz h; exact ih2 (z + 1) _ (by omega) (stepT_ok ws y f z (by rw [hy0, Int.toNat_natCast]; exact tix_lt (by omega) (by omega) (by omega)) q h).1
      exact hh _ _ _ (by omega) hq
    have e1 := wsucc1 f (Nat.lt_of_le_of_lt (show f ≤ 10 by omega) (by decide))
    have hN := ih (f + 1) (zLoop ws y f (ws.length + 1 - f) f q) (by omega) hq2 hE
    obtain ⟨K, h⟩ := tab_l4 nons hn6 ws hw l a0 a1 i y ⟨⟨y0, hy0, hyn⟩, hyl, hyx⟩ f hfl r (ws.length + 1 - f) f q (by omega) (Nat.le_refl _) hq (by rw [e1]; exact hN)
    refine ⟨K + 1, fun k hk => ?_⟩
    dsimp only
    obtain ⟨k, rfl⟩ : ∃ m, k = m + 1 := ⟨k - 1, by omega⟩
    simp only [spec_l4Table.l3]
    rw [if_pos (by omega)]
    exact h k (by omega)
theorem tab_l2 (nons : Nat) (hn6 : nons ≤ 6) (ws : List Int) (hw : ws.length ≤ 10) (l : List S87) (hl : l.length ≤ 16) (hok : ∀ j : Nat, j < l.length → okT nons (rd_T87 l j)) (a0 a1 : Int) (r : List (List Bool)) :
    ∀ (d i : Nat) (q : List Bool × Bool), i + d = l.length → q.1.length = 726 →
      Ev (fun k => spec_l4Table.l1 k ws ((ws.length + 1 : Nat) : Int) (tabOf nons (ws.length + 1) (passT ws (l.drop i) q).1) (passT ws (l.drop i) q).2 a0 a1 l) r →
      Ev (fun k => spec_l4Table.l2 k ws ((ws.length + 1 : Nat) : Int) (tabOf nons (ws.length + 1) q.1) q.2 l l.length i a0 a1 l) r := by
  intro d
  induction d with
  | zero =>
    intro i q hi hq ⟨K, h⟩
    refine ⟨K + 1, fun k hk => ?_⟩
    dsimp only at h ⊢
    obtain ⟨k, rfl⟩ : ∃ m, k = m + 1 := ⟨k - 1, by omega⟩
    simp only [spec_l4Table.l2]
    rw [if_neg (by omega)]
    rw [List.drop_of_length_le (by omega)] at h
    exact h k (by omega)
  | succ d ih =>
    intro i q hi hq hE
    have hil : i < l.length := by omega
    have hy := hok i hil
    have hdr : passT ws (l.drop i) q = passT ws (l.drop (i + 1)) (fLoop ws (rd_T87 l i) (ws.length + 1) 0 q) := by rw [getD_drop l i z87 hil]; rfl
    rw [hdr] at hE
    have e1 := wsucc1 i (Nat.lt_of_le_of_lt (show i ≤ 16 by omega) (by decide))
    obtain ⟨⟨y0, hy0, hyn⟩, hyl, hyx⟩ := hy
    have hq2 : (fLoop ws (rd_T87 l i) (ws.length + 1) 0 q).1.length = 726 := (fLoop_ok (s0 := q.1) ws hw _ y0 hy0 (by omega) (ws.length + 1) 0 (q.1, false) (by omega) ⟨hq, Nat.le_refl _, fun h => by cases h⟩).1 |> fun _ => by
      have hz : ∀ (f : Nat), f ≤ 10 → ∀ (m z : Nat) (q : List Bool × Bool), z + m ≤ 11 → q.1.length = 726 → (zLoop ws (rd_T87 l i) f m z q).1.length = 726 := by
        intro f hf m
        induction m with
        | zero => intro z q _ h; exact h
        | succ m ih2 => intro z q hz h; exact ih2 (z + 1) _ (by omega) (stepT_ok ws _ f z (by rw [hy0, Int.toNat_natCast]; exact tix_lt (by omega) (by omega) (by omega)) q h).1
      have hh : ∀ (m f : Nat) (q : List Bool × Bool), f + m ≤ 11 → q.1.length = 726 → (fLoop ws (rd_T87 l i) m f q).1.length = 726 := by
        intro m
        induction m with
        | zero => intro f q _ h; exact h
        | succ m ih2 => intro f q hf h; exact ih2 (f + 1) _ (by omega) (hz f (by omega) _ f q (by omega) h)
      exact hh _ _ _ (by omega) hq
    have hN := ih (i + 1) _ (by omega) hq2 hE
    obtain ⟨K, h⟩ := tab_l3 nons hn6 ws hw l a0 a1 i (rd_T87 l i) ⟨⟨y0, hy0, hyn⟩, hyl, hyx⟩ r (ws.length + 1) 0 q (by omega) hq (by rw [e1]; exact hN)
    refine ⟨K + 1, fun k hk => ?_⟩
    dsimp only
    obtain ⟨k, rfl⟩ : ∃ m, k = m + 1 := ⟨k - 1, by omega⟩
    simp only [spec_l4Table.l2]
    rw [if_pos (by omega), if_pos (by omega), if_pos (by omega)]
    exact h k (by omega)
theorem tab_l1 (nons : Nat) (hn6 : nons ≤ 6) (ws : List Int) (hw : ws.length ≤ 10) (l : List S87) (hl : l.length ≤ 16) (hok : ∀ j : Nat, j < l.length → okT nons (rd_T87 l j)) (a0 a1 : Int) :
    ∀ (n : Nat) (s : List Bool), s.length = 726 → cntF s < n → Ev (fun k => spec_l4Table.l1 k ws ((ws.length + 1 : Nat) : Int) (tabOf nons (ws.length + 1) s) true a0 a1 l) (tabOf nons (ws.length + 1) (closeT ws l n s)) := by
  intro n
  induction n with
  | zero => intro s _ h; omega
  | succ n ih =>
    intro s hs hc
    have hy6 : ∀ y, y ∈ l → 0 ≤ y.f0 ∧ y.f0 < 6 := fun y hy => by
      obtain ⟨j, hj, rfl⟩ := List.getElem_of_mem hy
      obtain ⟨⟨y0, hy0, hyn⟩, _⟩ := hok j hj
      unfold rd_T87 at hy0
      rw [Int.toNat_natCast, List.getD_eq_getElem?_getD, List.getElem?_eq_getElem hj] at hy0
      have : l[j].f0 = (y0 : Int) := hy0
      omega
    have hP := passT_ok (s0 := s) ws hw l (s, false) hy6 ⟨hs, Nat.le_refl _, fun h => by cases h⟩
    have key : Ev (fun k => spec_l4Table.l1 k ws ((ws.length + 1 : Nat) : Int) (tabOf nons (ws.length + 1) (passT ws (l.drop 0) (s, false)).1) (passT ws (l.drop 0) (s, false)).2 a0 a1 l) (tabOf nons (ws.length + 1) (closeT ws l (n + 1) s)) := by
      rw [List.drop_zero]
      have ec : closeT ws l (n + 1) s = if (passT ws l (s, false)).2 = true then closeT ws l n (passT ws l (s, false)).1 else (passT ws l (s, false)).1 := rfl
      rw [ec]
      generalize passT ws l (s, false) = q at hP ⊢
      cases hq : q.2 with
      | true =>
        rw [if_pos rfl]
        exact ih q.1 hP.1 (by have := hP.2.2 hq; omega)
      | false =>
        rw [if_neg (by decide)]
        refine ⟨1, fun k hk => ?_⟩
        dsimp only
        obtain ⟨k, rfl⟩ : ∃ m, k = m + 1 := ⟨k - 1, by omega⟩
        simp only [spec_l4Table.l1]
        rw [if_neg (by decide)]
    obtain ⟨K, h⟩ := tab_l2 nons hn6 ws hw l hl hok a0 a1 _ l.length 0 (s, false) (by omega) hs key
    refine ⟨K + 1, fun k hk => ?_⟩
    dsimp only
    obtain ⟨k, rfl⟩ : ∃ m, k = m + 1 := ⟨k - 1, by omega⟩
    simp only [spec_l4Table.l1, if_true]
    exact h k (by omega)
theorem tabOf_none (nons n : Nat) : tabOf nons n (List.replicate 726 false) = List.replicate nons (List.replicate (n * n) false) := by
  have e : ∀ k f z, tat (List.replicate 726 false) k f z = false := fun k f z => by
    unfold tat
    rw [List.getD_eq_getElem?_getD, List.getElem?_replicate]
    split <;> rfl
  unfold tabOf tabRow
  simp only [e]
  rw [List.map_const', List.map_const', List.length_range, List.length_range]
theorem tab_l0 (nons : Nat) (hn6 : nons ≤ 6) (ws : List Int) (hw : ws.length ≤ 10) (l : List S87) (a0 a1 : Int) (r : List (List Bool)) (hE : Ev (fun k => spec_l4Table.l1 k ws ((ws.length + 1 : Nat) : Int) (tabOf nons (ws.length + 1) (List.replicate 726 false)) true a0 a1 l) r) :
    ∀ (d i : Nat), i + d = nons → Ev (fun k => spec_l4Table.l0 k ws ((ws.length + 1 : Nat) : Int) (List.replicate i (List.replicate ((ws.length + 1) * (ws.length + 1)) false) ++ List.replicate d []) nons i a0 a1 l) r := by
  intro d
  induction d with
  | zero =>
    intro i hi
    obtain ⟨K, h⟩ := hE
    refine ⟨K + 1, fun k hk => ?_⟩
    dsimp only at h ⊢
    obtain ⟨k, rfl⟩ : ∃ m, k = m + 1 := ⟨k - 1, by omega⟩
    simp only [spec_l4Table.l0]
    rw [if_neg (by omega)]
    rw [tabOf_none] at h
    rw [show List.replicate 0 ([] : List Bool) = [] from rfl, List.append_nil, show i = nons by omega]
    exact h k (by omega)
  | succ d ih =>
    intro i hi
    obtain ⟨K, h⟩ := ih (i + 1) (by omega)
    refine ⟨K + 1, fun k hk => ?_⟩
    dsimp only at h ⊢
    obtain ⟨k, rfl⟩ : ∃ m, k = m + 1 := ⟨k - 1, by omega⟩
    have hb : (ws.length + 1) * (ws.length + 1) ≤ 11 * 11 := Nat.mul_le_mul (by omega) (by omega)
    have e2 : wrap64 (((ws.length + 1 : Nat) : Int) * ((ws.length + 1 : Nat) : Int)) = (((ws.length + 1) * (ws.length + 1) : Nat) : Int) := by
      rw [show ((ws.length + 1 : Nat) : Int) * ((ws.length + 1 : Nat) : Int) = (((ws.length + 1) * (ws.length + 1) : Nat) : Int) by push_cast; rfl]
      generalize (ws.length + 1) * (ws.length + 1) = p at hb
      exact w64 (by omega) (by omega)
    have e1 := wsucc1 i (Nat.lt_of_le_of_lt (show i ≤ 16 by omega) (by decide))
    have hN := h k (by omega)
    simp only [spec_l4Table.l0]
    rw [if_pos (show (i : Int) < (nons : Int) by omega), e2, if_pos (show (0 : Int) ≤ (((ws.length + 1) * (ws.length + 1) : Nat) : Int) from Int.natCast_nonneg _), Int.toNat_natCast, if_pos (show (ws.length + 1) * (ws.length + 1) ≤ 281474976710656 by omega), if_pos (show (0 : Int) ≤ (i : Int) by omega), if_pos (by simp; omega), e1, Int.toNat_natCast]
    rw [rep_succ d, set_mid _ _ i _ _ (by simp)]
    rw [show List.replicate i (List.replicate ((ws.length + 1) * (ws.length + 1)) false) ++ List.replicate ((ws.length + 1) * (ws.length + 1)) false :: List.replicate d ([] : List Bool) = List.replicate (i + 1) (List.replicate ((ws.length + 1) * (ws.length + 1)) false) ++ List.replicate d [] by rw [List.replicate_succ', List.append_assoc]; rfl]
    exact hN
theorem l4Table_ev (nons : Nat) (hn1 : 1 ≤ nons) (hn6 : nons ≤ 6) (ws : List Int) (hw : ws.length ≤ 10) (l : List S87) (hl : l.length ≤ 16) (hok : ∀ j : Nat, j < l.length → okT nons (rd_T87 l j)) (a1 : Int) :
    Ev (fun k => spec_l4Table.f k nons a1 l ws) (tabOf nons (ws.length + 1) (spansF ws l)) := by
  obtain ⟨K, h⟩ := tab_l0 nons hn6 ws hw l nons a1 _ (tab_l1 nons hn6 ws hw l hl hok nons a1 727 (List.replicate 726 false) List.length_replicate (by decide +kernel)) nons 0 (by omega)
  refine ⟨K, fun k hk => ?_⟩
  have hN := h k hk
  dsimp only at hN ⊢
  unfold spec_l4Table.f
  rw [if_pos (show (0 : Int) ≤ (nons : Int) by omega), Int.toNat_natCast, if_pos (by omega)]
  simp only [Option.bind_some, List.length_replicate]
  rw [show wrap64 ((ws.length : Int) + 1) = ((ws.length + 1 : Nat) : Int) by clear h hN; unfold wrap64; omega]
  exact hN
theorem goodG_okT {nons : Nat} {toks : Int} {l : List S87} (h : goodG nons toks l = true) : 1 ≤ nons ∧ nons ≤ 6 ∧ l.length ≤ 16 ∧ ∀ j : Nat, j < l.length → okT nons (rd_T87 l j) := by
  obtain ⟨h1, h2, h3⟩ := goodG_nons h
  refine ⟨by omega, by omega, h3, fun j hj => ?_⟩
  obtain ⟨k1, k2, k3⟩ := okR_parts h1.1 h1.2 (goodG_ok h j hj)
  refine ⟨⟨(rd_T87 l j).f0.toNat, by omega, by omega⟩, k2, fun x hx => ?_⟩
  obtain ⟨i, hi, rfl⟩ := List.getElem_of_mem hx
  have := k3 i hi
  rw [show wrap64 (-toks) = -toks by unfold wrap64; omega] at this
  unfold rd at this
  rw [Int.toNat_natCast, List.getD_eq_getElem?_getD, List.getElem?_eq_getElem hi] at this
  have h4 : -toks ≤ (rd_T87 l j).f1[i] ∧ (rd_T87 l j).f1[i] < nons := this
  omega
end Go.Proofs.Ytekoclhnfhbmeaa.P
namespace Go.Proofs.Ytekoclhnfhbmeaa.P
open Go.RowKit Go.Proofs.YtekoclhnfhbmeaaW.PrintWords Go.Proofs.YtekoclhnfhbmeaaW.PrintLast Go.Proofs.YtekoclhnfhbmeaaW.PrintMore
set_option linter.unusedVariables false
set_option linter.unusedSimpArgs false
theorem wordB_ok {toks : Int} {ws : List Int} (h1 : 1 ≤ toks) (h4 : toks ≤ 4) (h : wordB toks ws = true) : ws.length ≤ 10 ∧ ∀ j : Nat, j < ws.length → 0 ≤ rd ws j ∧ rd ws j ≤ 3 := by
  unfold wordB at h
  simp only [Bool.and_eq_true, decide_eq_true_eq, Bool.not_eq_true', List.any_eq_false] at h
  refine ⟨h.1, fun j hj => ?_⟩
  have := h.2 (rd ws j) (by unfold rd; rw [List.getD_eq_getElem?_getD, Int.toNat_natCast, List.getElem?_eq_getElem hj]; exact List.getElem_mem hj)
  unfold tokB at this
  rw [w64 (x := toks - 1) (by omega) (by omega)] at this
  simp at this
  omega
theorem tat_cell {W : World} {gt : Nat} {B : Option Addr} {n d : Nat} {t : List Bool} (h : W.heap[gt]? = some (.cells (tcs B n d t) 76 (0, 0))) (x f z : Nat) (hi : tix x f z < t.length) : W.cell? ⟨gt, 1 + x * 121 + f * 11 + z, none⟩ = some (.bool (tat t x f z)) := by
  rw [show 1 + x * 121 + f * 11 + z = tix x f z + 1 by unfold tix; omega]
  exact (blk_cell h _).trans (tcs_get _ hi)
theorem closeT_len (ws : List Int) (hw : ws.length ≤ 10) (l : List S87) (hy : ∀ y, y ∈ l → 0 ≤ y.f0 ∧ y.f0 < 6) : ∀ (n : Nat) (s : List Bool), s.length = 726 → (closeT ws l n s).length = 726 := by
  intro n
  induction n with
  | zero => intro s h; exact h
  | succ n ih =>
    intro s h
    have hz : ∀ (y : S87) (y0 : Nat), y.f0 = (y0 : Int) → y0 < 6 → ∀ (f : Nat), f ≤ 10 → ∀ (m z : Nat) (q : List Bool × Bool), z + m ≤ 11 → q.1.length = 726 → (zLoop ws y f m z q).1.length = 726 := by
      intro y y0 hy0 hy6 f hf m
      induction m with
      | zero => intro z q _ h; exact h
      | succ m ih2 => intro z q hz h; exact ih2 (z + 1) _ (by omega) (stepT_ok ws y f z (by rw [hy0, Int.toNat_natCast]; exact tix_lt (by omega) (by omega) (by omega)) q h).1
    have hf : ∀ (y : S87) (y0 : Nat), y.f0 = (y0 : Int) → y0 < 6 → ∀ (m f : Nat) (q : List Bool × Bool), f + m ≤ 11 → q.1.length = 726 → (fLoop ws y m f q).1.length = 726 := by
      intro y y0 hy0 hy6 m
      induction m with
      | zero => intro f q _ h; exact h
      | succ m ih2 => intro f q hf h; exact ih2 (f + 1) _ (by omega) (hz y y0 hy0 hy6 f (by omega) _ f q (by omega) h)
    have hp : ∀ (l : List S87) (q : List Bool × Bool), (∀ y, y ∈ l → 0 ≤ y.f0 ∧ y.f0 < 6) → q.1.length = 726 → (passT ws l q).1.length = 726 := by
      intro l
      induction l with
      | nil => intro q _ h; exact h
      | cons y l ih2 =>
        intro q hy h
        have h1 := hy y List.mem_cons_self
        exact ih2 _ (fun x hx => hy x (List.mem_cons_of_mem _ hx)) (hf y y.f0.toNat (by omega) (by omega) _ 0 q (by omega) h)
    have h2 := hp l (s, false) hy h
    show (if (passT ws l (s, false)).2 = true then closeT ws l n (passT ws l (s, false)).1 else (passT ws l (s, false)).1).length = 726
    split
    · exact ih _ h2
    · exact h2
theorem rules_six {l : List S87} (h : ∀ j : Nat, j < l.length → okR6 (rd_T87 l j)) : ∀ y, y ∈ l → 0 ≤ y.f0 ∧ y.f0 < 6 := fun y hy => by
  obtain ⟨j, hj, rfl⟩ := List.getElem_of_mem hy
  have := (h j hj).1
  unfold rd_T87 at this
  rw [Int.toNat_natCast, List.getD_eq_getElem?_getD, List.getElem?_eq_getElem hj] at this
  exact this
theorem spansF_len (ws : List Int) (hw : ws.length ≤ 10) (l : List S87) (hy : ∀ j : Nat, j < l.length → okR6 (rd_T87 l j)) : (spansF ws l).length = 726 := closeT_len ws hw l (rules_six hy) 727 _ List.length_replicate
def impl_InLanguage.f (a0_0 a0_1 : Int) (l0_2 : List S87) (lW : List Int) : Option (Bool × Bool) := some (if goodG a0_0 a0_1 l0_2 = true then (if wordB a0_1 lW = true then (tat (spansF lW l0_2) 0 0 lW.length, true) else (false, false)) else (false, false))
def impl_Derives.f (a0_0 a0_1 : Int) (l0_2 : List S87) (a1 : Int) (lW : List Int) : Option (Bool × Bool) := some (if goodG a0_0 a0_1 l0_2 = true then (if (0 ≤ a1 ∧ a1 ≤ wrap64 (a0_0 - 1)) then (if wordB a0_1 lW = true then (tat (spansF lW l0_2) a1.toNat 0 lW.length, true) else (false, false)) else (false, false)) else (false, false))
def symsB (nons toks : Int) (l : List Int) : Bool := !(l.any fun x => !symB nons toks x)
def impl_SequenceDerives.f (a0_0 a0_1 : Int) (l0_2 : List S87) (lR : List Int) (lW : List Int) : Option (Bool × Bool) := some (if goodG a0_0 a0_1 l0_2 = true then (if lR.length ≤ 4 then (if symsB a0_0 a0_1 lR = true then (if wordB a0_1 lW = true then (seqF (spansF lW l0_2) lW lR 0 lW.length, true) else (false, false)) else (false, false)) else (false, false)) else (false, false))
end Go.Proofs.Ytekoclhnfhbmeaa.P
